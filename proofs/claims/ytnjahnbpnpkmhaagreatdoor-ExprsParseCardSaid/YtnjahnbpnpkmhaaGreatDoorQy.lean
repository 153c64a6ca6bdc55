/- Part 25. -/
import Derived.Below
import Derived.Lib.TrimUEq
import Derived.Test.YtnjahnbpnpkmhaaGreatDoorQx

namespace Go.Proofs.YtnjahnbpnpkmhaaGreatDoor
open Go.Proofs.Tryz
open Go Go.Lw
set_option maxRecDepth 20000 set_option maxHeartbeats 4000000
section
variable {h:aq}{p:Value}
def Mh (h:aq):Prop:=(∀c,c<256->cellAt h ⟨5,c,none⟩=some (.int .u8 (Lib.firstT c))) /\
 (∀i,i<16->cellAt h ⟨6,2*i,none⟩=some (.int .u8 (Lib.accLo i))/\cellAt h ⟨6,2*i+1,none⟩=some (.int .u8 (Lib.accHi i)))
structure D9 (h:aq):Prop where
 sg:∃lim,lim<=h.size/\Sg h lim
 tens:vI h
 rules:n5 h
 utf:Mh h
 most:∃m,cellAt h ⟨7,0,none⟩=some (.int .i64 m)
theorem D9.ah {h h':aq}(k:D9 h) (e:aj h h'):D9 h':=by
 obtain⟨⟨lim,h1,Z⟩,Y,U,I,m,J⟩:=k;have hz:=e.size;exact⟨⟨lim,by omega,Z.ext e (λ_ k=>k.elim)⟩,Y.ah e,U.ah e,⟨λc hc=>e.cell (λk=>k) (I.1 c hc),λi hi=>⟨e.cell (λk=>k) (I.2 i hi).1,e.cell (λk=>k) (I.2 i hi).2⟩⟩,m,e.cell (λk=>k) J⟩
theorem BM (U:D9 h) (l:By) (hl:l≠[]):au prog 121 #[.string (bs l)] h (bK λr h'=>(∃x:Nat,r= .tuple #[.int .i32 (x:Nat),.int .i64 (mC l:Nat)])/\aj h h'):=by
 refine au.Bl λw hw=>?_
 subst hw;have Z:Lib.Utf8Tabs 5 6 w:=⟨λc hc=>by rw[dX];exact U.utf.1 c hc,λi hi=>⟨by rw[dX];exact(U.utf.2 i hi).1,by rw[dX];exact(U.utf.2 i hi).2⟩⟩
 refine(jA (bs l) w Z).mono ?_;rintro e w' ⟨rfl,I⟩
 have Y:(Lib.decodeGo (bs l)).2=mC l:=by
  have h0:¬(bs l).size=0:=by rw[aJ];have:=List.length_pos_iff.2 hl;omega
  unfold Lib.decodeGo;rw[if_neg h0,Lib.decode_N,iw];rfl
 refine⟨_,rfl,⟨⟨(Lib.decodeGo (bs l)).1,by rw[Y]⟩,⟨I.size,λb J _=>I.block b J⟩⟩,I.os,I.tape,I.output⟩
theorem pF (I:D9 h) (s t:By) (hs:s.length<=1000000):au prog 123 #[.string (bs s),.string (bs t)] h (bK λr h'=>r= .bool (Lib.contains s t)/\h'=h):=by
 obtain⟨m,hm⟩:=I.most;refine au.Bl λw hw=>?_
 subst hw;refine(oB (bs s) (bs t) m w (by rw[aJ];omega) (by rw[dX];exact hm)).mono ?_;rintro e w' ⟨rfl,rfl⟩;rw[iw,iw];exact⟨_,rfl,⟨rfl,rfl⟩,rfl,rfl,rfl⟩
theorem wg (hg:D9 h) (s:By) (hs:s.length<=1000000):au prog 92 #[.string (bs s)] h (bK λr h'=>r= .bool (cY s)/\h'=h):=by
 have hbs:=aJ s
 have e1:((⟨#[32]⟩:ByteArray)++bs s)++⟨#[32]⟩=bs (32::(s++[32])):=by
  rw[show (⟨#[32]⟩:ByteArray)=bs [32] from rfl,cG,cG];rfl
 have w1:(⟨#[32]⟩:ByteArray).size=1:=rfl;refine bJ ?_;refine aQ ?_;refine cI ?_;refine aR ?_;refine cO ?_;refine aQ ?_;refine dU [(2,.bool (cY s))] rfl ?_ ?_
 · refine af ?_;refine cX 5 (λhc=>?_) (λhc=>?_)
   · have hc':decide (s≠[])=true:=decide_eq_true (λe=>of_decide_eq_true hc (by rw[e];rfl));refine af ?_;refine xo rfl (aE rfl (pF hg s [32] hs)) ?_;rintro _ h0 ⟨rfl,hh0⟩;subst hh0;refine af ?_;refine cX 10 (λhc2=>?_) (λhc2=>?_)
     · iterate 2 refine aR ?_
       refine xp rfl (az.bS rfl rfl (by rw[ByteArray.size_append];omega)) ?_;rw[e1];refine xo rfl (aE rfl (pF hg lO (32::(s++[32])) (by decide))) ?_;rintro _ h1 ⟨rfl,hh1⟩;subst hh1;refine af ?_;exact aD rfl ⟨ai rfl (by rw[cY,hc',hc2,Bool.true_and,Bool.true_and]),sb rfl⟩
     · refine af ?_;exact aD rfl ⟨ai rfl (by rw[cY,hc',hc2,Bool.true_and,Bool.false_and]),sb rfl⟩
   · refine af ?_;exact aD rfl ⟨ai rfl (by rw[cY,decide_eq_false (λk=>of_decide_eq_false hc (λe=>k (dF (m:=[]) e))),Bool.false_and]),sb rfl⟩
 · refine aP ?_;exact⟨_,rfl,rfl,rfl⟩
theorem Hi {m:Nat}(hm:m<3){i:Nat}:(qQ m)[i]?.map (λr=>(r.2.1,r.2.2))=(qE m)[i]? :=by
 have h:(qQ m).map (λr=>(r.2.1,r.2.2))=qE m:=by
  match m,hm with
  | 0,_=>decide
  | 1,_=>decide
  | 2,_=>decide
 rw[<-h,List.getElem?_map]
theorem tP {m:Int}(h:m<0\/3<=m):qE m=[]:=by
 unfold qE;rw[if_neg (by omega),if_neg (by omega),if_neg (by omega)]
theorem Hv {α:Type}{l:List α}{I:Nat}{n:Int}(hk:l.length=I) (hn:¬n<0):decide ((I:Int)<=n)= !(l[n.toNat]?).isSome:=by
 cases J:l[n.toNat]? with
 |none=>have:=List.getElem?_eq_none_iff.1 J;simp;omega
 |some v=>have:=(List.getElem?_eq_some_iff.1 J).1;simp;omega
theorem xX (hg:D9 h) (m n:Int):au prog 122 #[.int .i64 m,.int .i64 n] h (bK λr h'=>(∃x:By×Int×Int,r= .tuple #[.agg (fC x).toArray,.bool (iJ m n).isSome]/\∀p,iJ m n=some p->(x.2.1,x.2.2)=p)/\aj h h'):=by
 refine bJ ?_;refine af ?_;refine xo rfl (cL) ?_;rintro _ h1 ⟨rfl,k1,e1,z1⟩;have k1:aC h1 h.size 117 [.string ⟨#[]⟩,.int .i64 0,.int .i64 0]:=k1
 have hrow:∀mm:Nat,mm<3->∃oa kn kc,cellAt h1 ⟨0,0+mm*1,none⟩=some (.slice oa kn kc)/\Sl MW h1 (λ_=>False) oa kn kc (qQ mm):=λmm hmm=>by
  obtain⟨v,hv,hsl⟩:=(hg.rules.ah e1) mm hmm;obtain⟨oa,kn,kc,rfl,h2⟩:=hsl.open;exact⟨oa,kn,kc,by rw[Nat.mul_one,Nat.zero_add];exact hv,h2⟩
 have hlenT:∀mm:Nat,mm<3->(qQ mm).length=(qE mm).length:=λmm hmm=>by
  match mm,hmm with
  | 0,_=>rfl
  | 1,_=>rfl
  | 2,_=>rfl
 refine aR ?_;refine cO ?_
 iterate 2 refine aQ ?_
 refine dU [(23,.bool (!(iJ m n).isSome))] rfl ?_ ?_
 · refine af ?_;refine cX 8 (λc1=>?_) (λc1=>?_)
   · have c1':=of_decide_eq_true c1;refine af ?_;exact aD rfl ⟨ai rfl (by rw[iJ,tP (.inl c1')];simp),sb rfl⟩
   · have c1':=of_decide_eq_false c1;refine af ?_;refine cX 12 (λc2=>?_) (λc2=>?_)
     · have c2':=of_decide_eq_true c2;refine af ?_;exact aD rfl ⟨ai rfl (by rw[iJ,tP (.inr c2')];simp),sb rfl⟩
     · have c2':=of_decide_eq_false c2;refine af ?_;refine cX 16 (λc3=>?_) (λc3=>?_)
       · have c3':=of_decide_eq_true c3;refine af ?_;exact aD rfl ⟨ai rfl (by rw[iJ,if_pos c3'];rfl),sb rfl⟩
       · have c3':=of_decide_eq_false c3;obtain⟨mm,rfl⟩:=Int.eq_ofNat_of_zero_le (show 0<=m by omega);have hmm:mm<3:=by omega
         obtain⟨oa,kn,kc,hv,hsl⟩:=hrow mm hmm;have hkl:=hsl.len;rw[hlenT mm hmm] at hkl
         iterate 2 refine aR ?_
         refine xp rfl (y8 rfl rfl mm rfl (by omega)) ?_;refine xp rfl (aA rfl hv) ?_;refine af ?_;exact aD rfl ⟨ai rfl (by rw[iJ,if_neg c3'];exact Hv hkl c3'),sb rfl⟩
 · rcases hf:iJ m n with _|p
   · refine dc rfl (by simp) ?_;refine af ?_;refine xp rfl (av (H.M4 ) rfl) ?_;refine aO rfl (aZ rfl rfl k1) ?_;rintro _ h2 ⟨rfl,k2,x2,z2⟩;refine af ?_;have k2:aC h2 h.size 117 (fC ([],0,0)):=k2;refine cE (cz rfl k2.row (rO cD)) ?_;exact⟨_,rfl,⟨([],0,0),rfl,λp hp=>by cases hp⟩,e1.only x2 (Nat.le_refl _)⟩
   · have hn0:0<=n:=by
      by_cases q:n<0
      · rw[iJ,if_pos q] at hf;cases hf
      · omega
     have hm0:0<=m/\m<3:=by
      by_cases q:m<0\/3<=m
      · rw[iJ,tP q] at hf;simp at hf
      · omega
     obtain⟨mm,rfl⟩:=Int.eq_ofNat_of_zero_le hm0.1;obtain⟨i,rfl⟩:=Int.eq_ofNat_of_zero_le hn0;have hmm:mm<3:=by omega
     obtain⟨oa,kn,kc,hv,hsl⟩:=hrow mm hmm;have hkl:=hsl.len;rw[iJ,if_neg (by omega),Int.toNat_natCast,<-Hi hmm] at hf;obtain⟨r,hr,hrp⟩:=Option.map_eq_some_iff.1 hf;obtain⟨b3,o3,cs3,ha3,_,hrow3,rfl⟩:=hsl.get i r hr;have hil:=(List.getElem?_eq_some_iff.1 hr).1;refine dB rfl (by simp) ?_
     iterate 2 refine aQ ?_
     refine cI ?_;refine aR ?_;refine xp rfl (y8 rfl rfl mm rfl (by omega)) ?_;refine xp rfl (aA rfl hv) ?_;refine aR ?_;refine xp rfl (bZ rfl rfl i rfl ha3) ?_;refine xp rfl (cj rfl hrow3) ?_;refine aO rfl (aZ rfl rfl k1 (sd r)) ?_;rintro _ h2 ⟨rfl,k2,x2,z2⟩;refine af ?_;have k2:aC h2 h.size 117 (fC r):=k2;refine cE (cz rfl k2.row (rO cD)) ?_;exact⟨_,rfl,⟨r,rfl,λp hp=>by cases hp;exact hrp⟩,e1.only x2 (Nat.le_refl _)⟩
theorem EN (hg:D9 h) (m n:Int):au prog 91 #[.int .i64 m,.int .i64 n] h (bK λr h'=>r= .int .i64 (kI m n)/\aj h h'):=by
 refine bJ ?_;refine af ?_;refine xo rfl (aE rfl (xX hg m n)) ?_;rintro _ h1 ⟨⟨x,rfl,hx⟩,Z⟩;refine af ?_;refine xo rfl (cL) ?_;rintro _ h2 ⟨rfl,k2,e2,z2⟩;refine aO rfl (aZ rfl rfl k2 (sd x)) ?_;rintro _ U ⟨rfl,I,x3,z3⟩;have I:aC U h1.size 117 (fC x):=I;have Y:aj h1 U:=e2.only x3 (Nat.le_refl _)
 rcases J:iJ m n with _|p
 · refine af ?_;refine dc rfl (by simp) ?_;refine af ?_;refine aP ?_;exact⟨_,rfl,by rw[kI,J];rfl,Z.trans Y⟩
 · have hp:=hx p J;refine af ?_;refine dB rfl (by simp) ?_;refine af ?_;refine xp rfl (aA rfl (I.cell (i:=1) rfl)) ?_;refine af ?_;refine aP ?_;exact⟨_,rfl,by rw[kI,J,<-hp];rfl,Z.trans Y⟩
def aG (s:kY):List Value:=[.int .i64 s.1,.int .i64 s.2]
theorem cF (s:kY):∀v∈aG s,v.oneCell'=true:=λv I=>by simp[aG] at I;rcases I with rfl|rfl<;>rfl
def Fs (i:Int):Prop:= -9223372036854775808<=i/\i<=9223372036854775807
theorem vi (hg:D9 h) (s:kY) (n:Int) (hs:Fs s.2):au prog 93 #[.agg (aG s).toArray,.int .i64 n] h (bK λr h'=>r= .agg (aG (eF s n)).toArray/\aj h h'):=by
 obtain⟨m,d⟩:=s;obtain⟨hd1,hd2⟩:=hs;simp only at hd1 hd2;refine bJ ?_;refine af ?_;refine xo rfl (mh) ?_;rintro _ h1 ⟨rfl,k1,e1,z1⟩;refine xo rfl (cL) ?_;rintro _ h2 ⟨rfl,k2,e2,z2⟩;have k1:aC h1 h.size 25 [.int .i64 m,.int .i64 d]:=k1;have k2:aC h2 h1.size 25 [.int .i64 0,.int .i64 0]:=k2;have e02:=e1.trans e2;have q1:=k1.ah e2;refine af ?_;refine xp rfl (aA rfl (q1.cell (i:=0) rfl)) ?_;refine af ?_;refine xo rfl (aE rfl (xX (hg.ah e02) m n)) ?_;rintro _ h3 ⟨⟨x,rfl,hx⟩,e3⟩;refine af ?_;refine xo rfl (cL) ?_;rintro _ h4 ⟨rfl,k4,e4,z4⟩;refine aO rfl (aZ rfl rfl k4 (sd x)) ?_;rintro _ h5 ⟨rfl,k5,x5,z5⟩;have k5:aC h5 h3.size 117 (fC x):=k5;have e45:aj h3 h5:=e4.only x5 (Nat.le_refl _);have e25:=e3.trans e45;have e05:=e02.trans e25;have s1:=q1.ah e25;have s2:=k2.ah e25;have hz1:=e1.size;have hz2:=e2.size;have hz5:=e25.size;have hne:¬h.size=h1.size:=by omega
 have hout:∀{g:aq},Ext (λb=>b=h1.size) h5 g->aj h g:=λe=>aj.only e05 e hz1
 rcases hf:iJ m n with _|p
 · have haf:eF (m,d) n=(m,d):=by unfold eF;rw[hf]
   refine af ?_;refine dc rfl (by simp) ?_;refine af ?_;refine dc rfl (by simp) ?_;refine af ?_;refine xp rfl (cj rfl s1.row) ?_;refine aO rfl (aZ rfl rfl s2) ?_;rintro _ h6 ⟨rfl,k6,x6,z6⟩;refine af ?_;have k6:aC h6 h1.size 25 (aG (m,d)):=k6;refine cE (cz rfl k6.row cD) ?_;exact⟨_,rfl,by rw[haf];rfl,hout x6⟩
 · have hp:=hx p hf;obtain⟨hp1,hp2⟩:=Prod.mk.inj hp;have haf:eF (m,d) n=if x.2.2=0 then (m,d) else if x.2.2=1 then (1,0) else if x.2.2=3 then (2,min (max d 0) 16383+1) else if x.2.2=4/\1<d then (m,d-1) else (0,0):=by unfold eF;rw[hf,<-hp]
   refine af ?_;refine dB rfl (by simp) ?_;refine af ?_;refine xp rfl (aA rfl (k5.cell (i:=2) rfl)) ?_;refine af ?_;refine aN (λh0=>?_) (λh0=>?_)
   · rw[if_pos h0] at haf;refine af ?_;refine xp rfl (cj rfl s1.row) ?_;refine aO rfl (aZ rfl rfl s2) ?_;rintro _ h6 ⟨rfl,k6,x6,z6⟩;refine af ?_;have k6:aC h6 h1.size 25 (aG (m,d)):=k6;refine cE (cz rfl k6.row cD) ?_;exact⟨_,rfl,by rw[haf];rfl,hout x6⟩
   · rw[if_neg h0] at haf;refine af ?_;refine xp rfl (aA rfl (k5.cell (i:=2) rfl)) ?_;refine af ?_;refine aN (λh1'=>?_) (λh1'=>?_)
     · rw[if_pos h1'] at haf;refine af ?_;refine xp rfl (av (H.J6 _) rfl) ?_;refine aO rfl (aZ rfl rfl s2) ?_;rintro _ h6 ⟨rfl,k6,x6,z6⟩;refine af ?_;have k6:aC h6 h1.size 25 (aG (1,0)):=k6;refine cE (cz rfl k6.row cD) ?_;exact⟨_,rfl,by rw[haf];rfl,hout x6⟩
     · rw[if_neg h1'] at haf;refine af ?_;refine xp rfl (aA rfl (k5.cell (i:=2) rfl)) ?_;refine af ?_;refine aN (λh3'=>?_) (λh3'=>?_)
       · rw[if_pos h3'] at haf;refine af ?_;refine xp rfl (aA rfl (s1.cell (i:=1) rfl)) ?_;refine af ?_;refine xp rfl (av (H.sY _ _) rfl) ?_;refine aO rfl (aZ rfl rfl s2) ?_;rintro _ h6 ⟨rfl,k6,x6,z6⟩;refine af ?_;have hmm:(if (16383:Int)<if d<0 then 0 else d then 16383 else if d<0 then 0 else d)=min (max d 0) 16383:=by split<;>split<;>omega
         have k6:aC h6 h1.size 25 (aG (2,min (max d 0) 16383+1)):=by rw[<-hmm];exact k6
         refine cE (cz rfl k6.row cD) ?_;exact⟨_,rfl,by rw[haf];rfl,hout x6⟩
       · rw[if_neg h3'] at haf;refine aQ ?_;refine dU [(36,.bool (decide (x.2.2=4/\1<d)))] rfl ?_ ?_
         · refine af ?_;refine xp rfl (aA rfl (k5.cell (i:=2) rfl)) ?_;refine af ?_;refine cX 40 (λhc=>?_) (λhc=>?_)
           · have hc':=of_decide_eq_true hc;refine af ?_;refine xp rfl (aA rfl (s1.cell (i:=1) rfl)) ?_;refine af ?_;exact aD rfl ⟨ai rfl (by simp[hc']),sb rfl⟩
           · have hc':=of_decide_eq_false hc;refine af ?_;exact aD rfl ⟨ai rfl (by simp[hc']),sb rfl⟩
         · refine aN (λh4'=>?_) (λh4'=>?_)
           · rw[if_pos h4'] at haf;refine af ?_;refine xp rfl (aA rfl (s1.cell (i:=1) rfl)) ?_;refine af ?_;refine aO rfl (bf H.mW rfl rfl rfl (s1.cell (i:=1) rfl) s1.nf) ?_;rintro _ h6 ⟨rfl,hg6⟩;have s6:=s1.set 1 (.int .i64 (d-1));have x6:Ext (λb=>b=h.size) h5 h6:=by rw[hg6];exact Ext.dx _ _ _ rfl
             have s6:aC h6 h.size 25 (aG (m,d-1)):=by rw[hg6];exact s6
             refine af ?_;refine xp rfl (cj rfl s6.row) ?_;refine aO rfl (aZ rfl rfl ((s2.ext x6 (λk=>by omega))) (cF _)) ?_;rintro _ h7 ⟨rfl,k7,x7,z7⟩;refine af ?_;have k7:aC h7 h1.size 25 (aG (m,d-1)):=k7;refine cE (cz rfl k7.row cD) ?_;have hz6:=x6.size;exact⟨_,rfl,by rw[haf];rfl,aj.only (aj.only e05 x6 (Nat.le_refl _)) x7 hz1⟩
           · rw[if_neg h4'] at haf;refine af ?_;refine xp rfl (av (H.F7 ) rfl) ?_;refine aO rfl (aZ rfl rfl s2) ?_;rintro _ h6 ⟨rfl,k6,x6,z6⟩;refine af ?_;have k6:aC h6 h1.size 25 (aG (0,0)):=k6;refine cE (cz rfl k6.row cD) ?_;exact⟨_,rfl,by rw[haf];rfl,hout x6⟩
theorem DL (hg:D9 h) (s:By) (k:Nat) (hk:k<s.length) (hs:s.length<=1000000):au prog 90 #[.string (bs s),.int .i64 (k:Nat)] h (bK λr h'=>(∃(x:Nat) (ok:Bool),r= .tuple #[.int .i32 (x:Nat),.int .i64 (mC (s.drop k):Nat),.bool ok])/\aj h h'):=by
 have hbs:=aJ s;have hne:s.drop k≠[]:=λe=>by have:=congrArg List.length e;rw[List.length_drop] at this;simp at this;omega
 refine bJ ?_;refine aQ ?_;refine cI ?_
 iterate 3 refine aR ?_
 refine cO ?_
 iterate 2 refine aQ ?_
 refine dU [(14,.bool false)] rfl ?_ ?_
 · refine af ?_;refine RW.bw (d:=9) (b':=false) rfl ((by simp)) ?_;refine af ?_;exact aD rfl ⟨ai rfl (by simp;omega),sb rfl⟩
 · refine dB rfl (by decide) ?_;refine af ?_;refine xp rfl (az.iN underlying9 rfl rfl k rfl (by omega)) ?_;rw[qh];refine xo rfl (aE rfl (BM hg (s.drop k) hne)) ?_;rintro _ h1 ⟨⟨x,rfl⟩,e1⟩;generalize hn:mC (s.drop k)=n
   iterate 5 refine aR ?_
   refine cO ?_;refine aQ ?_;refine dU [(4,.int .i32 (x:Nat)),(5,.int .i64 (n:Nat)),(6,.bool (decide (¬(x:Int)=65533\/(1:Int)<n)))] rfl ?_ ?_
   · refine af ?_;refine cX 26 (λhc=>?_) (λhc=>?_)
     · have hc':=of_decide_eq_true hc;refine af ?_;exact aD rfl ⟨rfl,rfl,ai rfl (by rw[decide_eq_true (Or.inl hc')]),sb rfl⟩
     · have hc':=of_decide_eq_false hc;refine af ?_;exact aD rfl ⟨rfl,rfl,ai rfl (by simp only[decide_eq_decide];exact⟨λq=>.inr q,λq=>q.resolve_left hc'⟩),sb rfl⟩
   · refine aP ?_;exact⟨_,rfl,⟨x,_,rfl⟩,e1⟩
theorem Di (k:qM h p):au prog 88 #[p] h (bK λr h'=>r= .bool false/\h'=h):=by
 obtain⟨lb,vm,rfl,hk,⟨oa,n,c,rfl,hl,_⟩⟩:=k;have hl:n=3:=by rw[<-hl];rfl
 subst hl;refine bJ ?_;refine aQ ?_;refine cI ?_;refine aR ?_;refine cO ?_;refine aQ ?_;refine dU [(2,.bool false)] rfl ?_ ?_
 · refine aR ?_;refine xp rfl (az.tY underlying37 rfl rfl) ?_;refine af ?_;refine RW.bw (d:=5) (b':=false) rfl (rfl) ?_;refine af ?_;refine xp rfl (aA rfl (hk.cell (i:=0) rfl)) ?_;refine af ?_;exact aD rfl ⟨ai rfl (rfl),sb rfl⟩
 · refine aP ?_;exact⟨_,rfl,rfl,rfl⟩
def EI (m:Int) (l:By):Int:=if 0<=m/\m<3 then (aT (nE (qq m)) l 0 0 (0,-1)).2.2 else 0
theorem G9 (m:Nat) (hm:m<3) (s:By) (k:Nat) (hk:k<=s.length):dH (nE (qq m)) s k=((gI m (s.drop k)).1,(gI m (s.drop k)).2,EI m (s.drop k)):=by
 obtain⟨ss,st,h1,Z,h3,h4,h5⟩:=xA m hm;have J:=qg Z;have I:=zY J.1 J.2;have Y:=Ej J.1 I.1 I.2.2.2.2 J.2 I.2.1 (λw=>(I.2.2.2.1 w).symm) s k;have U:=Cu Z s k;have hst:=(eZ h1).stl
 have hM:oW (bX m) s k=gI m (s.drop k):=by
  unfold oW xj;rw[h1];simp only;rw[if_neg (by omega),Int.toNat_natCast,h4]
 rw[hM] at U
 have hA:(dH (nE (qq m)) s k).2.2=EI m (s.drop k):=by
  rw[EI,if_pos (show (0:Int)<=m/\(m:Int)<3 by omega),dH,if_neg (by have:=I.2.1;omega),Int.toNat_natCast]
 rw[<-hA];refine Prod.ext ?_ (Prod.ext ?_ rfl)
 · rw[<-Y.1];exact(Prod.mk.inj U).1
 · rw[<-Y.2.1];exact(Prod.mk.inj U).2
theorem Jl {m:Int}(h:m<0\/3<=m) (l:By):gI m l=(0,-1):=by
 unfold gI;rw[if_neg (by omega),if_neg (by omega),if_neg (by omega)]
theorem Bs (k:qM h p) (s:By) (i:Nat) (hi:i<=s.length) (hs:s.length<=1000000) (m:Int) :
 au prog 89 #[p,.string (bs s),.int .i64 (i:Nat),.int .i64 m] h (bK λr h'=>r= .tuple #[.int .i64 (gI m (s.drop i)).1,.int .i64 (gI m (s.drop i)).2,.int .i64 (EI m (s.drop i))]/\h'=h):=by
 obtain⟨lb,vm,rfl,hk,hv⟩:=k;obtain⟨oa,n,c,rfl,hsl⟩:=hv.open;have hl:n=3:=by rw[<-hsl.len];rfl
 subst hl;refine bJ ?_;refine aQ ?_;refine cI ?_
 iterate 3 refine aR ?_
 refine cO ?_
 iterate 2 refine aQ ?_
 refine dU [(21,.bool (decide (m<0\/3<=m)))] rfl ?_ ?_
 · refine af ?_;refine cX 13 (λhc=>?_) (λhc=>?_)
   · have hc':=of_decide_eq_true hc;refine af ?_;exact aD rfl ⟨ai rfl (by simp[hc']),sb rfl⟩
   · have hc':=of_decide_eq_false hc;refine af ?_;refine xp rfl (aA rfl (hk.cell (i:=0) rfl)) ?_;refine af ?_;exact aD rfl ⟨ai rfl (by simp only[decide_eq_decide];omega),sb rfl⟩
 · refine aN (λhout=>?_) (λhout=>?_)
   · rw[Jl hout];refine af ?_;refine aP ?_;exact⟨_,rfl,by rw[EI,if_neg (by omega)];rfl,rfl⟩
   · obtain⟨mm,rfl⟩:=Int.eq_ofNat_of_zero_le (show 0<=m by omega);have hmm:mm<3:=by omega
     have hx:(xC 3)[mm]? =some (nE (qq mm)):=by
      match mm,hmm with
      | 0,_=>rfl
      | 1,_=>rfl
      | 2,_=>rfl
     obtain⟨b3,o3,cs3,ha3,_,hrow3,db,rfl,htab⟩:=hsl.get mm _ hx;obtain⟨ss,st,h1,h2,h3,h4,h5⟩:=xA mm hmm;have hok:=qg h2;have hsp:=zY hok.1 hok.2;refine af ?_;refine xp rfl (aA rfl (hk.cell (i:=0) rfl)) ?_;refine aR ?_;refine xp rfl (bZ rfl rfl mm rfl ha3) ?_;refine xp rfl (aA rfl (hrow3 0 _ rfl)) ?_;refine af ?_;refine xo rfl (aE rfl (BJ (s:=s) (a:=(i:Int)) (.inr ⟨db,rfl,htab.rd⟩) hsp.1 hs)) ?_;rintro _ h0 ⟨rfl,hh0⟩;subst hh0;rw[G9 mm hmm s i hi];refine af ?_;refine aP ?_;exact⟨_,rfl,rfl,rfl⟩
def cR (t:Tk):List Value:=[.int .i64 t.1,.int .i64 t.2.1,.int .i64 t.2.2]
theorem jW (t:Tk):∀v∈cR t,v.oneCell'=true:=λv I=>by simp[cR] at I;rcases I with rfl|rfl|rfl<;>rfl
theorem HN {s:kY}(h:Fs s.2) (n:Int):Fs (eF s n).2:=by
 unfold Fs at *;unfold eF;split
 · exact h
 · split
   · exact h
   · split
     · simp only;omega
     · split
       · simp only;omega
       · split
         · simp only;omega
         · simp only;omega
theorem FV {s:kY}(h:Fs s.2) (l:By):Fs (jN l s).2:=by
 unfold jN;split
 · exact h
 · exact HN h _
theorem mB {h':aq}{b:Nat}{t:TypeId}{cs:List Value}(k:aC h b t cs) (k':aC h' b t cs) (e:Ext (λx=>x=b) h h'):aj h h':=⟨e.size,λx I _=>by
 by_cases q:x=b
 · subst q;exact k'.trans k.symm
 · exact e.block x I q⟩
def ME (s:By) (i:Nat) (st:kY):Value:=.tuple #[.agg (cR (rq (s.drop i) st.1,(i:Int),((i+fJ (s.drop i) st.1:Nat):Int))).toArray,.agg (aG (jN (s.drop i) st)).toArray,.int .i64 (EI st.1 (s.drop i))]
theorem GX (hg:D9 h) (k:qM h p) (s:By) (i:Nat) (hi:i<s.length) (hs:s.length<=1000000) (st:kY) (hst:Fs st.2) :
 au prog 52 #[p,.string (bs s),.int .i64 (i:Nat),.agg (aG st).toArray] h (bK λr h'=>r=ME s i st/\aj h h'):=by
 have hbs:=aJ s;unfold ME;have hne:s.drop i≠[]:=λe=>by have:=congrArg List.length e;rw[List.length_drop] at this;simp at this;omega
 have hll:=xD st.1 (s.drop i);have hrl:=wF hne;rw[List.length_drop] at hll hrl;refine bJ ?_;refine af ?_;refine xo rfl (mh) ?_;rintro _ h1 ⟨rfl,k7,e1,z1⟩;refine xo rfl (cL) ?_;rintro _ h2 ⟨rfl,k8,e2,z2⟩;refine xo rfl (cL) ?_;rintro _ h3 ⟨rfl,k9,e3,z3⟩;have k7:aC h1 h.size 25 (aG st):=k7;have k8:aC h2 h1.size 83 (cR (0,0,0)):=k8;have k9:aC h3 h2.size 25 (aG (0,0)):=k9;have e03:=(e1.trans e2).trans e3;have q7:=(k7.ah e2).ah e3;have q8:=k8.ah e3;have y1:=e1.size;have y2:=e2.size;have hout:∀{g g2 g3:aq},aj h3 g->Ext (λb=>b=h1.size) g g2->Ext (λb=>b=h2.size) g2 g3->aj h g3:=λea eb ec=>aj.only (aj.only (e03.trans ea) eb (by omega)) ec (by omega)
 refine aR ?_;refine cO ?_
 iterate 2 refine aQ ?_
 refine dU [(27,.bool false)] rfl ?_ ?_
 · refine af ?_;refine xo rfl (aE rfl (Di (k.ah e03))) ?_;rintro _ h4 ⟨rfl,hh4⟩;subst hh4;refine af ?_;refine RW.bw (d:=18) (b':=false) rfl (rfl) ?_;refine af ?_;refine RW.bw (d:=22) (b':=false) rfl ((by simp)) ?_;refine af ?_;exact aD rfl ⟨ai rfl (by simp;omega),sb rfl⟩
 · refine dB rfl (by decide) ?_;refine af ?_;refine xp rfl (aA rfl (q7.cell (i:=0) rfl)) ?_;refine xo rfl (aE rfl (Bs (k.ah e03) s i (by omega) hs st.1)) ?_;rintro _ h4 ⟨rfl,hh4⟩;subst hh4;refine af ?_;refine aN (λhz=>?_) (λhz=>?_)
   · have hlen:fJ (s.drop i) st.1=mC (s.drop i):=by rw[fJ,if_pos hz]
     have hknd:rq (s.drop i) st.1=0:=by rw[rq,if_pos hz]
     have hnxt:jN (s.drop i) st=st:=by rw[jN,if_pos hz]
     rw[hlen,hknd,hnxt];refine af ?_;refine xo rfl (aE rfl (DL (hg.ah e03) s i hi hs)) ?_;rintro _ h5 ⟨⟨x,ok,rfl⟩,e5⟩;have r7:=q7.ah e5;have r8:=q8.ah e5;have r9:=k9.ah e5;have y5:=e5.size;have hM7:¬(h.size=h1.size\/h.size=h2.size\/Array.size h5<=h.size):=by have:=e03.size;omega
     refine af ?_;refine jK 10 (λb=>b=Array.size h1\/b=Array.size h2\/Array.size h5<=b) (λi=>Nat.blt i 9) ?_;refine aF 0 ?_;refine aF 1 ?_;refine aF 2 ?_;refine aF 3 ?_;refine bq 4 rfl (λh' e=>av (H.kM _ _ _) rfl) ?_;refine bq 5 rfl (λh' e=>cj rfl (e.rowAt hM7 r7.row)) ?_;refine aF 6 ?_;refine gU 7 rfl (aZ rfl rfl r8) ?_;rintro _ h6 ⟨rfl,w8,x6,z6⟩;refine⟨λ_=>x6.mono (λ_ _ k=>.inl k),?_⟩;refine gU 8 rfl (aZ rfl rfl ((r9.ext x6 (λk=>by omega))) (cF st)) ?_;rintro _ h7 ⟨rfl,w9,x7,z7⟩;refine⟨λ_=>x7.mono (λ_ _ k=>.inr (.inl k)),?_⟩;have w8:aC h6 h1.size 83 (cR (0,(i:Int),((i+mC (s.drop i):Nat):Int))):=by rw[Int.natCast_add];exact w8
     have w8:=w8.ext x7 (show ¬h1.size=h2.size by omega);have w9:aC h7 h2.size 25 (aG st):=w9;refine aF 9 ?_;refine fV ?_;refine cE (cz rfl w8.row (cz rfl w9.row (rO cD))) ?_;exact⟨_,rfl,rfl,hout e5 x6 x7⟩
   · obtain⟨L,hL⟩:=Int.eq_ofNat_of_zero_le hll.1;have hL0:0<L:=by omega
     have hlen:fJ (s.drop i) st.1=L:=by rw[fJ,if_neg hz,hL];rfl
     have hknd:rq (s.drop i) st.1=if kI st.1 (gI st.1 (s.drop i)).2=3/\cY ((s.drop i).take L)=true then 4 else kI st.1 (gI st.1 (s.drop i)).2:=by rw[rq,if_neg hz,hL];rfl
     have hnxt:jN (s.drop i) st=eF st (gI st.1 (s.drop i)).2:=by rw[jN,if_neg hz]
     rw[hlen,hknd,hnxt,hL];generalize (gI st.1 (s.drop i)).2=rl at *;rw[hL] at hll;refine af ?_;refine xp rfl (aA rfl (q7.cell (i:=0) rfl)) ?_;refine af ?_;refine xo rfl (aE rfl (EN (hg.ah e03) st.1 rl)) ?_;rintro _ h5 ⟨rfl,e5⟩;refine af ?_;refine xp rfl (av (H.kM _ _ _) rfl) ?_;refine aO rfl (aZ rfl rfl ((q8.ah e5))) ?_;rintro _ h6 ⟨rfl,w8,x6,z6⟩;have w8:aC h6 h1.size 83 (cR (kI st.1 rl,(i:Int),((i+L:Nat):Int))):=by rw[Int.natCast_add];exact w8
     generalize kI st.1 rl=kd at *;have hcut:(bs s).extract i (i+L)=bs ((s.drop i).take L):=by rw[sW s i (i+L) (by omega),List.drop_take,Nat.add_sub_cancel_left]
     have y6:=x6.size;have e06:aj h h6:=aj.only (e03.trans e5) x6 (by omega);have r7:=(q7.ah e5).ext x6 (show ¬h.size=h1.size by omega);have r9:=(k9.ah e5).ext x6 (show ¬h2.size=h1.size by omega);refine cO ?_
     iterate 2 refine aQ ?_
     refine dU [(76,.bool (decide (kd=3/\cY ((s.drop i).take L)=true)))] rfl ?_ ?_
     · refine af ?_;refine xp rfl (aA rfl (w8.cell (i:=0) rfl)) ?_;refine af ?_;refine cX 68 (λhc=>?_) (λhc=>?_)
       · have hc':kd=3:=of_decide_eq_true hc;refine af ?_;refine xp rfl (aA rfl (w8.cell (i:=1) rfl)) ?_;refine af ?_;refine xp rfl (aA rfl (w8.cell (i:=2) rfl)) ?_;refine xp rfl (az.oK underlying9 rfl rfl i rfl rfl (i+L) rfl (by omega) (by omega)) ?_;rw[hcut];refine xo rfl (aE rfl (wg (hg.ah e06) ((s.drop i).take L) (by rw[List.length_take,List.length_drop];omega))) ?_;rintro _ h7 ⟨rfl,hh7⟩;subst hh7;refine af ?_;exact aD rfl ⟨ai rfl (by simp[hc']),sb rfl⟩
       · have hc':¬kd=3:=of_decide_eq_false hc;refine af ?_;exact aD rfl ⟨ai rfl (by simp[hc']),sb rfl⟩
     · refine aN (λhw=>?_) (λhw=>?_)
       · refine af ?_;refine aO rfl (bf H.mW rfl rfl rfl (w8.cell (i:=0) rfl) w8.nf) ?_;rintro _ h7 ⟨rfl,hg7⟩;have w7:=w8.set 0 (.int .i64 4);have x7:Ext (λb=>b=h1.size) h6 h7:=by rw[hg7];exact Ext.dx _ _ _ rfl
         have w7:aC h7 h1.size 83 (cR (4,(i:Int),((i+L:Nat):Int))):=by rw[hg7];exact w7
         have y7:=x7.size;have e07:aj h h7:=aj.only e06 x7 (by omega);have p7:=r7.ext x7 (show ¬h.size=h1.size by omega);have p9:=r9.ext x7 (show ¬h2.size=h1.size by omega);have hMa:¬(h1.size=h2.size\/Array.size h7<=h1.size):=by have:=e03.size;have:=e5.size;omega
         have hMb:¬(h.size=h2.size\/Array.size h7<=h.size):=by have:=e03.size;have:=e5.size;omega
         refine af ?_;refine jK 8 (λb=>b=Array.size h2\/Array.size h7<=b) (λi=>Nat.blt i 7) ?_;refine bq 0 rfl (λh' e=>cj rfl (e.rowAt hMa w7.row)) ?_;refine bq 1 rfl (λh' e=>cj rfl (e.rowAt hMb p7.row)) ?_;refine aF 2 ?_;refine aF 4 ?_;refine cV 3 rfl (aE rfl (vi (hg.ah e07) st rl hst)) ?_;rintro _ h8 ⟨rfl,e8⟩;refine⟨λ_=>e8.mono (λ_ _ k=>k.elim),?_⟩;have w8':=w7.ah e8;refine gU 5 rfl (aZ rfl rfl w8' (jW _)) ?_;rintro _ h9 ⟨rfl,w9',x9,z9⟩;refine⟨λ_=>(mB w8' w9' x9).mono (λ_ _ k=>k.elim),?_⟩;have w9':aC h9 h1.size 83 (cR (4,(i:Int),((i+L:Nat):Int))):=w9';have e9:=mB w8' w9' x9;have p9':=(p9.ah e8).ah e9;refine gU 6 rfl (aZ rfl rfl p9' (cF _)) ?_;rintro _ h10 ⟨rfl,w10,x10,z10⟩;refine⟨λ_=>x10.mono (λ_ _ k=>.inl k),?_⟩;have w10:aC h10 h2.size 25 (aG (eF st rl)):=w10;have w11:=w9'.ext x10 (show ¬h1.size=h2.size by omega);refine aF 7 ?_;refine fV ?_;refine cE (cz rfl w11.row (cz rfl w10.row (rO cD))) ?_;have y10:=x10.size;exact⟨_,rfl,by rw[if_pos hw];rfl,aj.only ((e07.trans e8).trans e9) x10 (by omega)⟩
       · have hMa:¬(h1.size=h2.size\/Array.size h6<=h1.size):=by have:=e03.size;have:=e5.size;omega
         have hMb:¬(h.size=h2.size\/Array.size h6<=h.size):=by have:=e03.size;have:=e5.size;omega
         refine af ?_;refine jK 8 (λb=>b=Array.size h2\/Array.size h6<=b) (λi=>Nat.blt i 7) ?_;refine bq 0 rfl (λh' e=>cj rfl (e.rowAt hMa w8.row)) ?_;refine bq 1 rfl (λh' e=>cj rfl (e.rowAt hMb r7.row)) ?_;refine aF 2 ?_;refine aF 4 ?_;refine cV 3 rfl (aE rfl (vi (hg.ah e06) st rl hst)) ?_;rintro _ h8 ⟨rfl,e8⟩;refine⟨λ_=>e8.mono (λ_ _ k=>k.elim),?_⟩;have w8':=w8.ah e8;refine gU 5 rfl (aZ rfl rfl w8' (jW _)) ?_;rintro _ h9 ⟨rfl,w9',x9,z9⟩;refine⟨λ_=>(mB w8' w9' x9).mono (λ_ _ k=>k.elim),?_⟩;have w9':aC h9 h1.size 83 (cR (kd,(i:Int),((i+L:Nat):Int))):=w9';have e9:=mB w8' w9' x9;have p9':=(r9.ah e8).ah e9;refine gU 6 rfl (aZ rfl rfl p9' (cF _)) ?_;rintro _ h10 ⟨rfl,w10,x10,z10⟩;refine⟨λ_=>x10.mono (λ_ _ k=>.inl k),?_⟩;have w10:aC h10 h2.size 25 (aG (eF st rl)):=w10;have w11:=w9'.ext x10 (show ¬h1.size=h2.size by omega);refine aF 7 ?_;refine fV ?_;refine cE (cz rfl w11.row (cz rfl w10.row (rO cD))) ?_;have y10:=x10.size;exact⟨_,rfl,by rw[if_neg hw];rfl,aj.only ((e06.trans e8).trans e9) x10 (by omega)⟩
end
end Go.Proofs.YtnjahnbpnpkmhaaGreatDoor
namespace Go.Proofs.YtnjahnbpnpkmhaaGreatDoor
open Go
theorem DV (n a:Nat) (st:kY):jm n [] a st=([],st):=by cases n<;>simp[jm]
theorem As {n:Nat}{l:By}(hl:l≠[]) (hn:l.length<=n) (a:Nat) (st:kY) :
    jm n l a st=((rq l st.1,(a:Int),((a+fJ l st.1:Nat):Int))::(jm n (l.drop (fJ l st.1)) (a+fJ l st.1) (jN l st)).1,(jm n (l.drop (fJ l st.1)) (a+fJ l st.1) (jN l st)).2):=by
  have hp:=List.length_pos_iff.2 hl;have hk:=kG hl st.1;obtain⟨m,rfl⟩:∃m,n=m+1:=⟨n-1,by omega⟩
  rw[um (m+1) (m+1) (l.drop (fJ l st.1)) _ _ (by rw[List.length_drop];omega) (by rw[List.length_drop];omega),<-um m (m+1) (l.drop (fJ l st.1)) (a+fJ l st.1) (jN l st) (by rw[List.length_drop];omega) (by rw[List.length_drop];omega)];rw[jm,if_neg hl]
def nj:Nat->By->kY->List kY
  | 0,_,st=>[st]
  |n+1,l,st=>if l=[] then [st] else st::nj n (l.drop (fJ l st.1)) (jN l st)
def Iu (s:By):List kY:=nj s.length s (0,0)
theorem zL:∀(n k:Nat) (l:By) (st:kY),l.length<=n->l.length<=k->nj n l st=nj k l st
  | 0,0,_,_,_,_=>rfl
  | 0,k+1,l,st,h,_=>by
    have:l=[]:=List.length_eq_zero_iff.1 (by omega);rw[nj,nj,if_pos this]
  |n+1,0,l,st,_,h=>by
    have:l=[]:=List.length_eq_zero_iff.1 (by omega);rw[nj,nj,if_pos this]
  |n+1,k+1,l,st,h1,h2=>by
    rw[nj,nj]
    by_cases hl:l=[]
    · rw[if_pos hl,if_pos hl]
    · have:=kG hl st.1;rw[if_neg hl,if_neg hl,zL n k _ _ (by rw[List.length_drop];omega) (by rw[List.length_drop];omega)]
theorem Gx {n:Nat}{l:By}(hl:l≠[]) (hn:l.length<=n) (st:kY):nj n l st=st::nj n (l.drop (fJ l st.1)) (jN l st):=by
  have hp:=List.length_pos_iff.2 hl;have hk:=kG hl st.1;obtain⟨m,rfl⟩:∃m,n=m+1:=⟨n-1,by omega⟩
  rw[zL (m+1) m (l.drop (fJ l st.1)) _ (by rw[List.length_drop];omega) (by rw[List.length_drop];omega),nj,if_neg hl]
theorem Iv (n:Nat) (st:kY):nj n [] st=[st]:=by cases n<;>simp[nj]
theorem Cy:∀(n a:Nat) (l:By) (st:kY),(nj n l st).getLast? =some (jm n l a st).2/\(nj n l st).length=(jm n l a st).1.length+1
  | 0,a,l,st=>⟨rfl,rfl⟩
  |n+1,a,l,st=>by
    rw[nj,jm]
    by_cases hl:l=[]
    · rw[if_pos hl,if_pos hl];exact⟨rfl,rfl⟩
    · rw[if_neg hl,if_neg hl];obtain⟨h1,I⟩:=Cy n (a+fJ l st.1) (l.drop (fJ l st.1)) (jN l st);refine⟨?_,by simp[I]⟩;rw[List.getLast?_cons,h1];rfl
theorem s7:∀(n:Nat) (l:By) (a:Nat) (st:kY),(jm n l a st).1.length<=l.length
  | 0,l,a,st=>by simp[jm]
  |n+1,l,a,st=>by
    rw[jm];split
    · simp
    · rename_i h;have h1:=kG h st.1;have I:=s7 n (l.drop (fJ l st.1)) (a+fJ l st.1) (jN l st);rw[List.length_drop] at I;simp only[List.length_cons];omega
end Go.Proofs.YtnjahnbpnpkmhaaGreatDoor
namespace Go.Proofs.YtnjahnbpnpkmhaaGreatDoor
open Go Go.Lw
set_option maxRecDepth 20000 set_option maxHeartbeats 4000000
theorem KO {h:aq}{p:Value}{b:Bool}(hn:∀g,aj h g->au Tryz.prog 88 #[p] g (bK λr h'=>r= .bool b/\h'=g)) (s:By) (i:Int) (hs:s.length<=1000000) (st:kY) (hb:b=true\/i<0\/(s.length:Int)<=i) :
 au Tryz.prog 52 #[p,.string (bs s),.int .i64 i,.agg (aG st).toArray] h (bK λr h'=>r= .tuple #[.agg (cR (0,0,0)).toArray,.agg (aG st).toArray,.int .i64 0]/\aj h h'):=by
 have hbs:=aJ s;refine bJ ?_;refine af ?_;refine xo rfl (mh) ?_;rintro _ h1 ⟨rfl,k7,e1,z1⟩;refine xo rfl (cL) ?_;rintro _ U ⟨rfl,k8,e2,z2⟩;refine xo rfl (cL) ?_;rintro _ h3 ⟨rfl,k9,e3,z3⟩;have k7:aC h1 h.size 25 (aG st):=k7;have k8:aC U h1.size 83 (cR (0,0,0)):=k8;have k9:aC h3 U.size 25 (aG (0,0)):=k9;have I:=(e1.trans e2).trans e3;have q7:=(k7.ah e2).ah e3;have q8:=k8.ah e3;have y1:=e1.size;have y2:=e2.size;refine aR (cO ?_)
 iterate 2 refine aQ ?_
 refine dU [(27,.bool true)] rfl ?_ ?_
 · refine af ?_;refine xo rfl (aE rfl (hn _ I)) ?_;rintro _ h4 ⟨rfl,aa⟩;subst aa;refine af ?_;refine cX 18 (λc1=>?_) (λc1=>?_)
   · refine af ?_;exact aD rfl ⟨ai rfl (rfl),sb rfl⟩
   · refine af ?_;refine cX 22 (λc2=>?_) (λc2=>?_)
     · refine af ?_;exact aD rfl ⟨ai rfl (rfl),sb rfl⟩
     · have ab:=of_decide_eq_false c2;refine af ?_;exact aD rfl ⟨ai rfl (by rw[decide_eq_true_iff];rcases hb with k|k|k;rw[c1] at k;cases k;exact absurd k ab;omega),sb rfl⟩
 · refine dc rfl (by decide) ?_;have hM:¬(h.size=h1.size\/Array.size h3<=h.size):=by have:=I.size;omega
   refine af ?_;refine jK 5 (λb=>b=Array.size h1\/Array.size h3<=b) (λi=>Nat.blt i 3) (bq 0 rfl (λh' e=>av (H.OH ) rfl) (bq 1 rfl (λh' e=>cj rfl (e.rowAt hM q7.row)) (gU 2 rfl (aZ rfl rfl q8) ?_)));rintro _ h4 ⟨rfl,J,Y,zz4⟩;refine⟨λ_=>Y.mono (λ_ _ k=>.inl k),?_⟩;have J:aC h4 h1.size 83 (cR (0,0,0)):=J;refine gU 3 rfl (aZ rfl rfl ((k9.ext Y (show ¬U.size=h1.size by omega))) (cF st)) ?_;rintro _ h5 ⟨rfl,Z,x5,z5⟩;refine⟨nofun,?_⟩;refine aF 4 (fV ?_);have Z:aC h5 U.size 25 (aG st):=Z;have J:=J.ext x5 (show ¬h1.size=U.size by omega);refine cE (cz rfl J.row (cz rfl Z.row (rO cD))) ?_;exact⟨_,rfl,rfl,aj.only (aj.only I Y (by omega)) x5 (by omega)⟩
def QG:gW kY:=.record 2 (by decide) aG (λ_=>rfl) cF
def Hx:gW Tk:=.record 3 (by decide) cR (λ_=>rfl) jW
end Go.Proofs.YtnjahnbpnpkmhaaGreatDoor
namespace Go.Proofs.YtnjahnbpnpkmhaaGreatDoor
open Go Go.Lw
set_option maxRecDepth 20000
theorem Hp (h:aq) (xs:List Int) (t:TypeId) (n:Nat) (I:xs.length=n) (hm:n<=maxLen):aL (.int .i64) (h.push (.cells (xs.map (Value.int .i64)).toArray t)) (λ_=>False) (.slice (some ⟨h.size,0,none⟩) n n) xs :=
  bN.read (h1:=λ_=>rfl) (iA (Value.int .i64) h t xs n I hm 0 (Nat.zero_le _) rfl) (λ_ _ k=>k)
end Go.Proofs.YtnjahnbpnpkmhaaGreatDoor
namespace Go.Lw
theorem fG.put {α:Type}{sz:Nat}{enc:α->List Value}(hl:∀x,(enc x).length=sz){h:aq}{base:Nat}{t:TypeId}{v:Value}{xs:List α}(k:fG sz enc h base t v xs){i:Nat}{x:α}(Y:xs[i]? =some x) :
 ∃g c,v= .slice (some ⟨g,0,none⟩) xs.length c/\base<=g/\g<h.size/\rowAt h g (0+i*sz) (enc x)/\(∀o,frozenAt h ⟨g,o,none⟩=false) /\
  ∀(o:Nat) (u:Value) (y:α),o<sz->(enc x).set o u=enc y->fG sz enc (dx h ⟨g,0+i*sz+o,none⟩ u) base t v (xs.set i y):=by
 have hi:i<xs.length:=(List.getElem?_eq_some_iff.1 Y).1;have k:aB h base t sz v xs.length (xs.flatMap enc):=k
 rcases k.2 with ⟨_,hn0⟩|⟨g,cap,cur,rfl,hb,J,Z,hc,hs,ht⟩
 · omega
 have hlen:∀c∈xs.map enc,c.length=sz:=λc hc=>by
  obtain⟨a,_,rfl⟩:=List.mem_map.1 hc;exact hl a
 refine⟨g,cap,rfl,hb,(Array.getElem?_eq_some_iff.1 J).1,?_,λo=>by simp[frozenAt,J],λo u y ho hy=>?_⟩
 · intro j w hj;have U:=iU hl xs i x j w Y hj;rw[<-ht,List.getElem?_take] at U;split at U
   · have h5:cur[i*sz+j]? =some w:=by simpa using U
     simpa [cellAt,J] using h5
   · cases U
 · have aa:(xs.map enc)[i]? =some (enc x):=by rw[List.getElem?_map,Y];rfl
   have hf:=lG (xs.map enc) i (enc x) o u hlen aa ho
   have I:(xs.set i y).flatMap enc=(xs.flatMap enc).set (i*sz+o) u:=by
    rw[List.flatMap_def,List.flatMap_def,<-hf,hy,List.map_set]
   refine⟨?_,.inr ⟨g,cap,cur.setIfInBounds (0+i*sz+o) u,by simp,hb,si J u,by simpa using Z,hc,by simpa using hs,?_⟩⟩
   · rw[pq hl]
   · rw[I,Array.toList_setIfInBounds,List.take_set,List.length_set,ht,Nat.zero_add]
end Go.Lw
namespace Go.Proofs.YtnjahnbpnpkmhaaGreatDoor
open Go.Proofs.Tryz
open Go Go.Lw
set_option maxRecDepth 20000 set_option maxHeartbeats 4000000
section
variable {h:aq}{α:Type}{i b:Nat}{s:By}{v:Value}{ts:List Tok}{t:Tok}{a e:Int}
def mO (p:UInt8×UInt8):List Value:=[.int .u8 p.1.toNat,.int .u8 p.2.toNat]
def MR:List Value:=jv.flatMap mO
def qN (h:aq):Prop:=Lw.rowAt h 1 0 MR
theorem qN.ah {h':aq}(k:qN h) (e:aj h h'):qN h':=e.rowAt (λk=>k) k
theorem MQ (i:Nat) (hi:i<6):MR.toArray.extract (i*2) (i*2+2)=(mO (jv.getD i (0,0))).toArray:=by
 match i,hi with
 | 0,_=>rfl
 | 1,_=>rfl
 | 2,_=>rfl
 | 3,_=>rfl
 | 4,_=>rfl
 | 5,_=>rfl
theorem IZ (p:UInt8×UInt8):∀v∈mO p,v.oneCell'=true:=λv I=>by simp[mO] at I;rcases I with rfl|rfl<;>rfl
theorem Mn (a b:UInt8):((a.toNat:Int)=(b.toNat:Int))↔a=b:=⟨λh=>UInt8.toNat_inj.1 (Int.ofNat.inj h),λh=>by rw[h]⟩
theorem pz {p:α->Bool}{l:List α}(h:∀a∈l.take i,p a=false) (hi:i=l.length):l.find? p=none:=by
 subst hi;rw[List.take_length] at h;rw[List.find?_eq_none];intro a I;rw[h a I];simp
theorem F0 {p:α->Bool}{l:List α}{a:α}(h:∀a∈l.take i,p a=false) (I:l[i]? =some a) (U:p a=true):l.find? p=some a:=by
 induction l generalizing i with
 |nil=>simp at I
 |cons b l J =>
  cases i with
  |zero=>simp at I;subst I;rw[List.find?_cons_of_pos U]
  |succ i =>
   rw[List.find?_cons_of_neg (by rw[h b (by simp)];simp)];exact J (i:=i) (λa I=>h a (by simp[I])) (by simpa using I)
theorem zg (hg:qN h) (s:By):au prog 33 #[.string (bs s)] h (bK λr h'=>r= .int .u8 (kJ s).toNat/\aj h h'):=by
 have hbs:=aJ s;refine bJ ?_;refine af ?_;refine aN (λhlt=>?_) (λhlt=>?_)
 · refine af ?_;refine aP ?_;have h1:s[1]? =none:=List.getElem?_eq_none (by omega);exact⟨_,rfl,by unfold kJ;rw[h1];rfl,Ext.refl _ _⟩
 · obtain⟨c,hc⟩:∃c,s[1]? =some c:=⟨_,List.getElem?_eq_getElem (show 1<s.length by omega)⟩
   have hE:kJ s=DD c:=by unfold kJ;rw[hc]
   rw[hE];refine af ?_;refine xp rfl (cj rfl hg) ?_;refine af ?_;refine fK (σ:=Nat) (λi=>[(9,.int .i64 (i:Nat))]) (λi h'=>aj h h'/\i<=6/\∀p∈jv.take i,(p.1 ==c)=false) (λi=>6-i) (0) ⟨Ext.refl _ _,by omega,by simp⟩ rfl ?_;rintro i g ⟨eg,hi,hin⟩ ih;refine af ?_;refine aN (λhi6=>?_) (λhi6=>?_)
   · have hil:i<6:=by omega
     obtain⟨p,hp⟩:∃p,jv[i]? =some p:=⟨_,List.getElem?_eq_getElem (show i<jv.length from hil)⟩
     have hpd:jv.getD i (0,0)=p:=by rw[List.getD_eq_getElem?_getD,hp];rfl
     have hcut:=MQ i hil;rw[hpd] at hcut;refine af ?_;refine xp rfl (az.Hq underlying149 H.Iq H.Me rfl rfl i rfl hil hcut) ?_;refine xo rfl (cL) ?_;rintro _ g1 ⟨rfl,k1,e1,z1⟩;refine aO rfl (aZ rfl rfl k1 (IZ p)) ?_;rintro _ g2 ⟨rfl,k2,x2,z2⟩;have k2:aC g2 g.size 148 (mO p):=k2;have e02:aj h g2:=aj.only (eg.trans e1) x2 (by have:=eg.size;omega);refine cO ?_;refine aQ ?_;refine ux (λb=>Array.size g2<=b) (λi=>Nat.blt i 5) (sz:=5) (listed:= #[false,false,false,false,false]) func33 H.mixed rfl rfl rfl ?_;refine aF 0 ?_;refine bq 1 rfl (λh' e=>aA rfl (e.old (k2.cell (i:=0) rfl))) ?_;refine aF 2 ?_;refine bq 3 rfl (λh' e=>tq rfl rfl 1 rfl (eH hc)) ?_;refine aF 4 ?_;refine fV ?_;refine aN (λhe=>?_) (λhe=>?_)
     · have he:p.1=c:=(Mn _ _).1 (by omega);refine af ?_;refine xp rfl (aA rfl (k2.cell (i:=1) rfl)) ?_;refine af ?_;refine aP ?_;refine⟨_,rfl,?_,e02⟩;unfold DD;rw[F0 hin hp (by rw[he];simp)];rfl
     · have he:¬p.1=c:=λq=>he (by rw[q])
       refine af ?_;exact ih (i+1) ⟨e02,by omega,λq hq=>by rw[List.take_add_one,hp,List.mem_append] at hq;rcases hq with hq|hq;exact hin q hq;simp at hq;subst hq;simpa using he⟩
   · obtain rfl:i=6:=by omega
     refine af ?_;refine xp rfl (tq rfl rfl 1 rfl (eH hc)) ?_;refine af ?_;refine aP ?_;refine⟨_,rfl,?_,eg⟩;unfold DD;rw[pz hin rfl];rfl
theorem zi {tb:Nat}(hb:aC h tb 9 [.string (bs s)]) (t:Tok):au prog 65 #[.agg (cR t).toArray,ptr tb] h (bK λr h'=>r= .bool (!vT s t)/\aj h h'):=by
 have hbs:=aJ s;refine bJ ?_;refine af ?_;refine xo rfl (mh) ?_;rintro _ h1 ⟨rfl,k1,e1,z1⟩;have k1:aC h1 h.size 83 (cR t):=k1;have hb1:=hb.ah e1;refine aR ?_;refine cO ?_;refine aQ ?_;refine dU [(3,.bool (!vT s t))] rfl ?_ ?_
 · refine af ?_;refine xp rfl (aA rfl (k1.cell (i:=1) rfl)) ?_;refine af ?_;refine cX 7 (λg=>?_) (λg=>?_)
   · have g:=of_decide_eq_true g;refine af ?_;exact aD rfl ⟨ai rfl (by unfold vT;rw[decide_eq_false (by omega)];rfl),sb rfl⟩
   · have g:=of_decide_eq_false g;refine af ?_;refine xp rfl (aA rfl (k1.cell (i:=2) rfl)) ?_;refine xp rfl (aA rfl (hb1.cell (i:=0) rfl)) ?_;refine af ?_;refine cX 14 (λg2=>?_) (λg2=>?_)
     · have g2:=of_decide_eq_true g2;refine af ?_;exact aD rfl ⟨ai rfl (by unfold vT;rw[decide_eq_true (show 0<=t.2.1 by omega),decide_eq_false (by omega)];rfl),sb rfl⟩
     · have g2:=of_decide_eq_false g2;refine af ?_;refine xp rfl (aA rfl (k1.cell (i:=1) rfl)) ?_;refine af ?_;refine xp rfl (aA rfl (k1.cell (i:=2) rfl)) ?_;refine af ?_;exact aD rfl ⟨ai rfl (by unfold vT;rw[decide_eq_true (show 0<=t.2.1 by omega),decide_eq_true (show t.2.2<=s.length by omega),Bool.true_and,Bool.true_and,<-decide_not,decide_eq_decide];omega),sb rfl⟩
 · refine aP ?_;exact⟨_,rfl,rfl,e1⟩
theorem BE {gf:FuncId}{caps:List Value}(hf:Nf prog gf) (hv:aL Hx h (λ_=>False) v ts) (p:Tok->Bool)
 (hp:∀t g,aj h g->au prog gf ([Value.agg (cR t).toArray]++caps).toArray g (bK λr h'=>r= .bool (p t)/\aj g h')) :
 au prog 107 #[v,.func (.func gf) #[] caps.toArray] h (bK λr h'=>(∃i:Int,r= .int .i64 i/\decide (0<=i)=ts.any p)/\aj h h'):=by
 obtain⟨va,vn,vc,rfl,hvs⟩:=hv.open;have hvl:ts.length=vn:=hvs.len;subst hvl;have hvm:=hvs.cap;have hvc:=hvs.le;simp only[maxLen] at hvm;refine bJ ?_;refine af ?_;refine fK (σ:=Nat) (λi=>[(8,.int .i64 (i:Nat))]) (λi h'=>aj h h'/\i<=ts.length/\(ts.take i).any p=false) (λi=>ts.length-i) (0) ⟨Ext.refl _ _,Nat.zero_le _,by simp⟩ rfl ?_;rintro i g ⟨eg,hi,hin⟩ ih;refine af ?_;refine aN (λhlt=>?_) (λhlt=>?_)
 · have hil:i<ts.length:=by omega
   have hvg:=hvs.mv (Mv.ah eg);obtain⟨b,o,t,ha,_,ht,hrow⟩:=hvg.nA hil;have hpt:=hp t g eg
   iterate 4 refine aQ ?_
   refine cI ?_
   iterate 2 refine aR ?_
   refine cO ?_;refine aQ ?_;refine cI ?_
   iterate 3 refine aR ?_
   refine xp rfl (bZ rfl rfl i rfl ha) ?_;refine xp rfl (cj rfl hrow) ?_;refine xo rfl (aV.Mc (vs:=[_]) rfl hf rfl (au.HX (hpt))) ?_;rintro _ g1 ⟨rfl,e1⟩;refine af ?_;refine jS (λhb=>?_) (λhb=>?_)
   · have hb:p t=true:=hb;refine af ?_;refine aP ?_;refine⟨_,rfl,⟨i,rfl,?_⟩,eg.trans e1⟩;rw[decide_eq_true (by omega)];exact(List.any_eq_true.2 ⟨t,List.mem_of_getElem? ht,hb⟩).symm
   · have hb:p t=false:=hb;refine af ?_;exact ih (i+1) ⟨eg.trans e1,by omega,by rw[List.take_add_one,ht,List.any_append,hin];simp[hb]⟩
 · obtain rfl:i=ts.length:=by omega
   rw[List.take_length] at hin;refine af ?_;refine aP ?_;exact⟨_,rfl,⟨-1,rfl,by rw[hin];rfl⟩,eg⟩
theorem vC {h1:aq}(U:aL Hx h1 (λ_=>False) v ts) (J:aC h1 h.size 9 [.string (bs s)]):au prog 64 #[v,.func (.func 65) #[] #[ptr h.size]] h1 (bK λr h'=>r= .bool (ts.any λt=> !vT s t)/\aj h1 h'):=by
 have hi:=BE (h:=h1) (gf:=65) (caps:=[ptr h.size]) ⟨_,func65,rfl,by kernel_rfl⟩ U (λt=> !vT s t) (λt g Y=>zi (J.ah Y) t);refine bJ ?_;refine af ?_;refine xo rfl (aE rfl hi) ?_;rintro _ h2 ⟨⟨i,rfl,I⟩,Z⟩;refine af ?_;refine aP ?_;exact⟨_,rfl,by rw[<-I];rfl,Z⟩
theorem ze (U:aL Hx h (λ_=>False) v ts) (s:By):au prog 32 #[.string (bs s),v] h (bK λr h'=>r= .bool (ts.all (vT s))/\aj h h'):=by
 refine bJ ?_;refine af ?_;refine xo rfl (mh) ?_;rintro _ h1 ⟨rfl,J,I,z1⟩;have hc:=vC (U.ah I) (show aC h1 h.size 9 [.string (bs s)] from J);refine af ?_;refine xp rfl (jR (vs:=[_]) rfl) (xo rfl (aE rfl hc) ?_);rintro _ h2 ⟨rfl,Y⟩;refine af ?_;refine aP ?_;refine⟨_,rfl,?_,I.trans Y⟩;rw[List.all_eq_not_any_not];rfl
theorem Dv (h:vT s t=true):∃f q:Nat,t.2.1=f/\t.2.2=q/\f<=q/\q<=s.length/\bD s t=(s.take q).drop f:=by
 unfold vT at h;simp only[Bool.and_eq_true,decide_eq_true_eq] at h;obtain⟨⟨h1,h2⟩,h3⟩:=h;refine⟨t.2.1.toNat,t.2.2.toNat,by omega,by omega,by omega,by omega,?_⟩;unfold bD;rw[List.drop_take]
theorem zI (s:By) (t:Tok):(bD s t).length<=s.length:=by
 unfold bD;rw[List.length_take,List.length_drop];omega
theorem wj (h:ts[i]? =some t) (out:List Un) (op:Bool) :
 lz s (ts.drop i) out op=match fW s out op t with|.er a e=>.er a e|.go out op=>lz s (ts.drop (i+1)) out op:=by
 obtain⟨hi,rfl⟩:=List.getElem?_eq_some_iff.1 h;rw[List.drop_eq_getElem_cons hi];rfl
theorem CJ (pre:List α) (u y:α):(pre++[u]).set pre.length y=pre++[y]:=by
 rw[List.set_append_right _ _ (Nat.le_refl _),Nat.sub_self];rfl
theorem Ao {T:TypeId}(c:UInt8):aL .byte (h.push (.cells #[.int .u8 c.toNat] T)) (λ_=>False) (.slice (some ⟨h.size,0,none⟩) 1 1) [c] :=
 Fk.read (iA vz h T [c] 1 rfl (by decide) 0 (Nat.zero_le _) rfl) (λ_ _ k=>k)
def Rk (h':aq) (r:Value):(Int×Int) ⊕ List Un->Prop
 |.inl p=>r=packed [.slice none 0 0,.int .i64 p.1,.int .i64 p.2]
 |.inr us=>us.length<=500/\∃uv,r=packed [uv,.int .i64 0,.int .i64 0]/\aL QF h' (λ_=>False) uv us
theorem AI (hg:qN h) (hv:aL Hx h (λ_=>False) v ts) (s:By) (st:kY) (hb:ts.length*(s.length+2)<=1000000000000) (hsl:s.length<=1000000000000) :
 au prog 13 #[.string (bs s),v,.agg (aG st).toArray] h (bK λr h'=>aj h h'/\Rk h' r (eX s ts st.1)):=by
 obtain⟨va,vn,vc,rfl,hvs⟩:=id hv.open;have hvl:ts.length=vn:=hvs.len;subst hvl;have hvm:=hvs.cap;have hvc:=hvs.le;simp only[maxLen] at hvm;refine bJ ?_;refine af ?_;refine xo rfl (mh) ?_;rintro _ h1 ⟨rfl,k1,e1,z1⟩;refine af ?_;refine xo rfl (aE rfl (ze (hv.ah e1) s)) ?_;rintro _ h2 ⟨rfl,e2⟩;have k1:aC h2 h.size 25 (aG st):=k1.ah e2;have e02:=e1.trans e2;refine af ?_;refine jS (λhw=>?_) (λhw=>?_)
 · have hw:ts.all (vT s)=false:=by simpa using hw
   refine af ?_;refine aP ?_;refine⟨_,rfl,e02,?_⟩;unfold eX;rw[if_neg (by rw[hw];simp)];rfl
 · have hw:ts.all (vT s)=true:=by simpa using hw
   have hU:eX s ts st.1=match lz s ts [] false with|.er a e=>.inl (a,e)|.go out op=>if op=true\/st.1≠0 then .inl (s.length,10) else .inr out:=by
    unfold eX;rw[if_pos hw];rfl
   rw[hU];generalize htg0:lz s ts [] false=tgt;refine af ?_;refine fK (σ:=Nat×List Un×Bool×Value) (λw=>[(6,w.2.2.2),(9,.bool w.2.2.1),(19,.int .i64 (w.1:Nat))]) (λw g=>w.1<=ts.length/\aj h2 g/\h2.size<=g.size/\fG 3 tZ g h2.size 88 w.2.2.2 w.2.1/\lz s (ts.drop w.1) w.2.1 w.2.2.1=tgt/\w.2.1.length<=500/\(w.2.2.1=true->w.2.1≠[])/\(∀u∈w.2.1,u.2.1.length<=w.1*(s.length+2))) (λw=>ts.length-w.1) ((0,[],false,.slice none 0 0)) ⟨Nat.zero_le _,Ext.refl _ _,Nat.le_refl _,fG.nil _ _ _ _ _,htg0,by simp,(λk=>by cases k),by simp⟩ rfl ?_;rintro⟨i,out,op,ov⟩ g ⟨hi,eg,hz,how,htg,hol,hop,hut⟩ ih
   try dsimp only
   dsimp only at hi how htg hol hop hut;have hho:aB g h2.size 88 3 ov out.length (out.flatMap tZ):=how;obtain⟨oa,oc,rfl,_⟩:=hho.open;refine af ?_;refine aN (λhlt=>?_) (λhlt=>?_)
   · have hil:i<ts.length:=by omega
     have hmul:(i+1)*(s.length+2)<=ts.length*(s.length+2):=Nat.mul_le_mul_right _ hil;have hsuc:(i+1)*(s.length+2)=i*(s.length+2)+(s.length+2):=Nat.succ_mul _ _;have hbig:∀n,n<=i*(s.length+2)->n<=(i+1)*(s.length+2):=λn hn=>by omega
     have hvg:=hvs.mv (Mv.ah (e02.trans eg));obtain⟨b,o,t,ha,_,ht,hrow⟩:=hvg.nA hil;have hint:vT s t=true:=List.all_eq_true.1 hw t (List.mem_of_getElem? ht);obtain⟨f,q,hf,hq,hfq,hqs,htx⟩:=Dv hint;have htl:=zI s t;have hstep:=wj (s:=s) ht out op;have hbz:=aJ s
     iterate 4 refine aQ ?_
     refine cI ?_;refine xp rfl (bZ rfl rfl i rfl ha) ?_;refine xp rfl (cj rfl hrow) ?_;refine xo rfl (cL) ?_;rintro _ g1 ⟨rfl,k2,e3,z3⟩;refine aO rfl (aZ rfl rfl k2 (jW t)) ?_;rintro _ g2 ⟨rfl,kt,x2,z2⟩;have kt:aC g2 g.size 83 (cR t):=kt;have eg2:aj g g2:=aj.only e3 x2 (Nat.le_refl _);have how2:=how.ah eg2;have hho2:aB g2 h2.size 88 3 (.slice oa out.length oc) out.length (out.flatMap tZ):=how2;have egg:=eg.trans eg2;refine af ?_;refine xp rfl (aA rfl (kt.cell (i:=1) rfl)) ?_;refine af ?_;refine xp rfl (aA rfl (kt.cell (i:=2) rfl)) ?_;refine xp rfl (az.oK underlying9 rfl rfl f hf rfl q hq hfq (by omega)) ?_;rw[sW _ _ _ hfq,<-htx];refine af ?_;refine xp rfl (aA rfl (kt.cell (i:=0) rfl)) ?_;refine af ?_;refine aN (λh0=>?_) (λh0=>?_)
     · have hu:fW s out op t= .er t.2.1 10:=by unfold fW;rw[if_pos h0]
       rw[hstep,hu] at htg;refine af ?_;refine bF rfl (aA rfl (kt.cell (i:=1) rfl)) ?_;refine af ?_;refine aP ?_;exact⟨_,rfl,e02.trans egg,by rw[<-htg];rfl⟩
     · rcases op with _|_
       · refine aQ ?_;refine dU [(35,.bool false)] rfl ?_ ?_
         · refine af ?_;refine RW.bw (d:=37) (b':=false) rfl (rfl) ?_;refine af ?_;exact aD rfl ⟨ai rfl (rfl),sb rfl⟩
         · refine dB rfl (by simp) ?_;refine aQ ?_;refine dU [(46,.bool false)] rfl ?_ ?_
           · refine af ?_;refine RW.bw (d:=48) (b':=false) rfl (rfl) ?_;refine af ?_;exact aD rfl ⟨ai rfl (rfl),sb rfl⟩
           · refine dB rfl (by simp) ?_;refine af ?_;refine dB rfl (by simp) ?_
             have hu0:fW s out false t=(if t.1=1\/t.1=2\/t.1=11 then .go out false else if out.length=500 then .er t.2.1 3 else .go (out++[(t.1,if t.1=9 then [] else bD s t,t.2.1)]) (decide (t.1=9))):=by
              unfold fW;rw[if_neg h0];rfl
             refine af ?_;refine xp rfl (aA rfl (kt.cell (i:=0) rfl)) ?_;refine af ?_;refine aN (λc1=>?_) (λc1=>?_)
             · refine af ?_;refine dc rfl (by simp[c1]) ?_;refine af ?_;exact ih (i+1,out,false,(.slice oa out.length oc)) ⟨by show i+1<=ts.length;omega,egg,by have:=(egg).size;omega,how2,by rw[hstep,(hu0.trans (if_pos (.inl c1)))] at htg;exact htg,hol,(λk=>by cases k),(λu hu=>hbig _ (hut u hu))⟩
             · refine af ?_;refine xp rfl (aA rfl (kt.cell (i:=0) rfl)) ?_;refine af ?_;refine aN (λc2=>?_) (λc2=>?_)
               · refine af ?_;refine dc rfl (by simp[c2]) ?_;refine af ?_;exact ih (i+1,out,false,(.slice oa out.length oc)) ⟨by show i+1<=ts.length;omega,egg,by have:=(egg).size;omega,how2,by rw[hstep,(hu0.trans (if_pos (.inr (.inl c2))))] at htg;exact htg,hol,(λk=>by cases k),(λu hu=>hbig _ (hut u hu))⟩
               · refine af ?_;refine xp rfl (aA rfl (kt.cell (i:=0) rfl)) ?_;refine af ?_;refine aN (λc3=>?_) (λc3=>?_)
                 · refine af ?_;exact ih (i+1,out,false,(.slice oa out.length oc)) ⟨by show i+1<=ts.length;omega,egg,by have:=(egg).size;omega,how2,by rw[hstep,(hu0.trans (if_pos (.inr (.inr c3))))] at htg;exact htg,hol,(λk=>by cases k),(λu hu=>hbig _ (hut u hu))⟩
                 · rw[if_neg (λq=>by omega)] at hu0;refine af ?_;refine xp rfl (aA rfl (kt.cell (i:=0) rfl)) ?_;refine af ?_;refine aN (λc9=>?_) (λc9=>?_)
                   · refine af ?_;refine aN (λc500=>?_) (λc500=>?_)
                     · have c500:out.length=500:=by omega
                       rw[if_pos c500] at hu0;rw[hstep,hu0] at htg;refine af ?_;refine bF rfl (aA rfl (kt.cell (i:=1) rfl)) ?_;refine af ?_;refine aP ?_;exact⟨_,rfl,e02.trans egg,by rw[<-htg];rfl⟩
                     · have c500:¬out.length=500:=by omega
                       rw[if_neg c500] at hu0;refine af ?_;refine xp rfl (aA rfl (kt.cell (i:=0) rfl)) ?_;refine af ?_;refine xp rfl (aA rfl (kt.cell (i:=1) rfl)) ?_;refine xp rfl (av (H.yz _ _ _) rfl) ?_;refine xo rfl (lg) ?_;rintro _ _ ⟨rfl,rfl⟩;refine xo rfl (aV.dA underlying46 H.MV rfl rfl (hho2) rfl rfl (AQ (t.1,([]:By),t.2.1)) (by omega) (by decide) (by omega)) ?_;rintro v2 g4 ⟨ho4,hx4,hx4',hv4⟩;have ho5:fG 3 tZ g4 h2.size 88 v2 (out++[(t.1,([]:By),t.2.1)]):=fG.of ho4 rfl rfl;have e24:aj h2 g4:=Ext.own egg hho2 (Nat.le_refl _) hx4;have hu1:fW s out false t= .go (out++[(t.1,([]:By),t.2.1)]) true:=hu0.trans (by simp[c9]);refine af ?_;exact ih (i+1,(out++[(t.1,([]:By),t.2.1)]),true,v2) ⟨by show i+1<=ts.length;omega,e24,by have:=(e24).size;omega,ho5,by rw[hstep,hu1] at htg;exact htg,(by rw[List.length_append];simp only[List.length_singleton];omega),(λ_=>by simp),(λu hu=>(List.mem_append.1 hu).elim (λhu=>hbig _ (hut u hu)) (λhu=>by simp only[List.mem_singleton] at hu;subst hu;show List.length (([]:By))<=(i+1)*(s.length+2);have hz0:List.length ([]:By)=0:=rfl;omega))⟩
                   · refine af ?_;refine aN (λc500=>?_) (λc500=>?_)
                     · have c500:out.length=500:=by omega
                       rw[if_pos c500] at hu0;rw[hstep,hu0] at htg;refine af ?_;refine bF rfl (aA rfl (kt.cell (i:=1) rfl)) ?_;refine af ?_;refine aP ?_;exact⟨_,rfl,e02.trans egg,by rw[<-htg];rfl⟩
                     · have c500:¬out.length=500:=by omega
                       rw[if_neg c500] at hu0;refine af ?_;refine xp rfl (aA rfl (kt.cell (i:=0) rfl)) ?_;refine af ?_;refine xp rfl (aA rfl (kt.cell (i:=1) rfl)) ?_;refine xp rfl (av (H.yz _ _ _) rfl) ?_;refine xo rfl (lg) ?_;rintro _ _ ⟨rfl,rfl⟩;refine xo rfl (aV.dA underlying46 H.MV rfl rfl (hho2) rfl rfl (AQ (t.1,(bD s t),t.2.1)) (by omega) (by decide) (by omega)) ?_;rintro v2 g4 ⟨ho4,hx4,hx4',hv4⟩;have ho5:fG 3 tZ g4 h2.size 88 v2 (out++[(t.1,(bD s t),t.2.1)]):=fG.of ho4 rfl rfl;have e24:aj h2 g4:=Ext.own egg hho2 (Nat.le_refl _) hx4;have hu1:fW s out false t= .go (out++[(t.1,(bD s t),t.2.1)]) false:=hu0.trans (by simp[c9]);refine af ?_;exact ih (i+1,(out++[(t.1,(bD s t),t.2.1)]),false,v2) ⟨by show i+1<=ts.length;omega,e24,by have:=(e24).size;omega,ho5,by rw[hstep,hu1] at htg;exact htg,(by rw[List.length_append];simp only[List.length_singleton];omega),(λ_=>by simp),(λu hu=>(List.mem_append.1 hu).elim (λhu=>hbig _ (hut u hu)) (λhu=>by simp only[List.mem_singleton] at hu;subst hu;show List.length ((bD s t))<=(i+1)*(s.length+2);have hz0:List.length ([]:By)=0:=rfl;omega))⟩
       · have hne:=hop rfl
         obtain⟨pre,u,hpre⟩:∃pre u,out=pre++[u]:=by
          rcases List.eq_nil_or_concat out with q|⟨p,u,q⟩
          · exact absurd q hne
          · exact⟨p,u,by simpa using q⟩
         have hlen:out.length=pre.length+1:=by rw[hpre];simp
         have hgu:out[pre.length]? =some u:=by rw[hpre];simp
         have hul:=hut u (by rw[hpre];simp);obtain⟨gb,gc,hgv,hgb,hgl,hgr,hgf,hgs⟩:=fG.put (enc:=tZ) (λ_=>rfl) how2 hgu;have hga:oa=some ⟨gb,0,none⟩:=by cases hgv;rfl
         have hu0:fW s out true t=(if t.1=9/\bD s t=[34] then .go out false else if t.1=10 then .go (fE [kJ (bD s t)] out) true else .go (fE (bD s t) out) true):=by
          unfold fW;rw[if_neg h0];rfl
         have hadd:∀x,fE x out=pre++[(u.1,u.2.1++x,u.2.2)]:=λx=>by rw[hpre];exact uo x pre u
         have hset:∀x,out.set pre.length (u.1,u.2.1++x,u.2.2)=fE x out:=λx=>by rw[hadd,hpre];exact CJ _ _ _
         have hadl:∀x,x.length<=s.length+1->∀u∈fE x out,u.2.1.length<=(i+1)*(s.length+2):=λx hx u' hu'=>by
          rw[hadd,List.mem_append] at hu'
          rcases hu' with hu'|hu'
          · exact hbig _ (hut u' (by rw[hpre];simp[hu']))
          · simp only[List.mem_singleton] at hu';subst hu';simp only[List.length_append];omega
         have hown:∀x g',g'=dx g2 ⟨gb,0+pre.length*3+1,none⟩ x->aj h2 g':=λx g' hg'=>by rw[hg'];exact aj.set egg hgb x
         refine aQ ?_;refine dU [(35,.bool (decide (t.1=9/\bD s t=[34])))] rfl ?_ ?_
         · refine af ?_;refine RW.bw (d:=37) (b':=true) rfl (rfl) ?_;refine af ?_;refine xp rfl (aA rfl (kt.cell (i:=0) rfl)) ?_;refine af ?_;refine cX 42 (λg9=>?_) (λg9=>?_)
           · have g9:=of_decide_eq_true g9;refine af ?_;exact aD rfl ⟨ai rfl (by rw[Bool.eq_iff_iff,decide_eq_true_iff,decide_eq_true_iff];exact⟨λq=>⟨g9,dF q⟩,λq=>congrArg bs q.2⟩),sb rfl⟩
           · have g9:=of_decide_eq_false g9;refine af ?_;exact aD rfl ⟨ai rfl (by rw[decide_eq_false (λq=>g9 q.1)]),sb rfl⟩
         · refine aN (λc9=>?_) (λc9=>?_)
           · rw[if_pos c9] at hu0;refine af ?_;exact ih (i+1,out,false,(.slice oa out.length oc)) ⟨by show i+1<=ts.length;omega,egg,by have:=(egg).size;omega,how2,by rw[hstep,hu0] at htg;exact htg,hol,(λk=>by cases k),(λu hu=>hbig _ (hut u hu))⟩
           · rw[if_neg c9] at hu0;refine aQ ?_;refine dU [(46,.bool (decide (t.1=10)))] rfl ?_ ?_
             · refine af ?_;refine RW.bw (d:=48) (b':=true) rfl (rfl) ?_;refine af ?_;refine xp rfl (aA rfl (kt.cell (i:=0) rfl)) ?_;refine af ?_;exact aD rfl ⟨ai rfl (rfl),sb rfl⟩
             · refine aN (λc10=>?_) (λc10=>?_)
               · rw[if_pos c10] at hu0;refine af ?_;refine jK 15 (λ_=>False) (λi=>Nat.blt i 14) ?_;refine aF 0 ?_;refine aF 1 ?_;refine aF 2 ?_;refine aF 3 ?_;refine bq 4 rfl (λh' e=>bZ rfl rfl pre.length (by omega) hga) ?_;refine aF 5 ?_;refine bq 6 rfl (λh' e=>aA rfl (e.cell (λk=>k) (hgr 1 _ rfl))) ?_;refine aF 7 ?_;refine cV 8 rfl (aE rfl (zg (hg.ah (e02.trans egg)) (bD s t))) ?_;rintro _ g3 ⟨rfl,e3'⟩;refine⟨λ_=>e3',?_⟩;refine cV 9 rfl (iD [_]) ?_;rintro _ g4 ⟨rfl,hg4⟩;refine⟨λ_=>(by rw[hg4];exact Ext.push _ _ _),?_⟩;have e34:aj g3 g4:=by rw[hg4];exact Ext.push _ _ _
                 have e24:aj g2 g4:=e3'.trans e34;have hby:aL .byte g4 (λ_=>False) (.slice (some ⟨g3.size,0,none⟩) 1 1) [kJ (bD s t)]:=by rw[hg4];exact Ao _
                 obtain⟨gb',gc',hgv',hgb',hgl',hgr',hgf',hgs'⟩:=fG.put (enc:=tZ) (λ_=>rfl) (how2.ah e24) hgu;obtain rfl:gb=gb':=by rw[hga] at hgv';cases hgv';rfl
                 have hbu:=aJ u.2.1;refine bq 10 rfl (λh' e=>Ml rfl (hby.ah e)) ?_;refine bq 11 rfl (λh' e=>az.bS rfl rfl (by show (bs u.2.1).size+1<=_;omega)) ?_;refine Nu 12 rfl (bZ rfl rfl pre.length (by omega) hga) ?_;refine aF 13 ?_;refine gU 14 rfl (bf H.D6 rfl rfl rfl (hgr' 1 _ rfl) (hgf' _)) ?_;rintro _ g5 ⟨rfl,hg5⟩;refine⟨nofun,?_⟩
                 have hfin:fG 3 tZ g5 h2.size 88 (.slice oa out.length oc) (fE [kJ (bD s t)] out):=by
                  rw[hg5,<-hset];exact hgs' 1 _ _ (by decide) (by show [Value.int .i64 u.1,Value.string (bs u.2.1++⟨[kJ (bD s t)].toArray⟩),Value.int .i64 u.2.2]=_;rw[show (⟨[kJ (bD s t)].toArray⟩:ByteArray)=bs [kJ (bD s t)] from rfl,cG];rfl)
                 have e25:aj h2 g5:=by rw[hg5];exact aj.set (egg.trans e24) hgb _
                 have hlena:(fE [kJ (bD s t)] out).length=out.length:=pP _ _;refine fV ?_;refine af ?_;exact ih (i+1,fE [kJ (bD s t)] out,true,.slice oa out.length oc) ⟨by show i+1<=ts.length;omega,e25,by have:=e25.size;omega,hfin,by rw[hstep,hu0] at htg;exact htg,by show (fE _ out).length<=500;omega,λ_ q=>hne (List.eq_nil_of_length_eq_zero (hlena.symm.trans (congrArg List.length q))),hadl _ (by simp)⟩
               · rw[if_neg c10] at hu0;refine af ?_;refine dc rfl (by simp) ?_;have hbu:=aJ u.2.1;have hbt:=aJ (bD s t);refine aQ ?_;refine cI ?_
                 iterate 4 refine aR ?_
                 refine xp rfl (bZ rfl rfl pre.length (by omega) hga) ?_;refine af ?_;refine xp rfl (aA rfl (hgr 1 _ rfl)) ?_
                 iterate 2 refine aR ?_
                 refine xp rfl (bZ rfl rfl pre.length (by omega) hga) ?_;refine af ?_;refine aO rfl (bf H.D6 rfl rfl rfl (hgr 1 _ rfl) (hgf _)) ?_;rintro _ g5 ⟨rfl,hg5⟩
                 have hfin:fG 3 tZ g5 h2.size 88 (.slice oa out.length oc) (fE (bD s t) out):=by
                  rw[hg5,<-hset];exact hgs 1 _ _ (by decide) (by show [Value.int .i64 u.1,Value.string (bs u.2.1++bs (bD s t)),Value.int .i64 u.2.2]=_;rw[cG];rfl)
                 have e25:aj h2 g5:=hown _ _ hg5;have hlena:(fE (bD s t) out).length=out.length:=pP _ _;refine af ?_;exact ih (i+1,fE (bD s t) out,true,.slice oa out.length oc) ⟨by show i+1<=ts.length;omega,e25,by have:=e25.size;omega,hfin,by rw[hstep,hu0] at htg;exact htg,by show (fE _ out).length<=500;omega,λ_ q=>hne (List.eq_nil_of_length_eq_zero (hlena.symm.trans (congrArg List.length q))),hadl (bD s t) (by omega)⟩
   · obtain rfl:i=ts.length:=by omega
     rw[List.drop_length] at htg;have htg:UR.go out op=tgt:=htg;rw[<-htg];dsimp only
     iterate 3 refine aQ ?_
     refine dU [(114,.bool (decide (op=true\/st.1≠0)))] rfl ?_ ?_
     · rcases op with _|_
       · refine af ?_;refine RW.bw (d:=110) (b':=false) rfl (rfl) ?_;refine af ?_;refine xp rfl (aA rfl ((k1.ah eg).cell (i:=0) rfl)) ?_;refine af ?_;exact aD rfl ⟨ai rfl (by simp),sb rfl⟩
       · refine af ?_;refine RW.bw (d:=110) (b':=true) rfl (rfl) ?_;refine af ?_;exact aD rfl ⟨ai rfl (by simp),sb rfl⟩
     · refine aN (λco=>?_) (λco=>?_)
       · rw[if_pos co];refine af ?_;refine aP ?_;have hbz:=aJ s;exact⟨_,rfl,e02.trans eg,by rw[<-hbz];rfl⟩
       · rw[if_neg co];refine af ?_;refine aP ?_;exact⟨_,rfl,e02.trans eg,hol,_,rfl,fG.read how (λ_ _ k=>k)⟩
theorem Ie {out:List Un}{op:Bool}(h:fW s out op t= .er a e):e≠0:=by
 unfold fW at h;split at h
 · cases h;decide
 · split at h
   · split at h
     · cases h
     · split at h<;>cases h
   · split at h
     · cases h
     · split at h
       · cases h;decide
       · cases h
theorem Co {s:By}{a e:Int}:∀(l:List Tok) (out:List Un) (op:Bool),lz s l out op= .er a e->e≠0
 | [],_,_,h=>by cases h
 |t::l,out,op,h=>by
  rw[lz] at h;split at h
  · rename_i q;cases h;exact Ie q
  · exact Co l _ _ h
theorem zH {l:List Tok}{m:Int}(h:eX s l m= .inl (a,e)):e≠0:=by
 unfold eX at h;split at h
 · split at h
   · rename_i q;cases h;exact Co _ _ _ q
   · split at h
     · cases h;decide
     · cases h
 · cases h;decide
theorem Bb {us:List Un}{b:Bool}{m:Int}{s:PS}(h:Qt us i b m s):(b=false->s.len=us.length-i)/\(b=true->s= .bad m)/\s.bB=b:=by
 cases s with
 |ok r=>obtain⟨rfl,rfl⟩:=h;exact⟨λ_=>by simp[PS.len],λk=>(by cases k),rfl⟩
 |bad k=>obtain⟨rfl,rfl⟩:=h;exact⟨λk=>(by cases k),λ_=>rfl,rfl⟩
theorem nU {s:PS}(h:s.bB=true):s.len=0/\∀e,cu e s=s:=by cases s with|ok r=>cases h|bad m=>exact⟨rfl,λ_=>rfl⟩
theorem lE {n:Nat}{l:List Tr}{s:PS} {y} (h:dV e n l s=some y) (h0:s.len=0):y=(l,s):=by
 cases n with
 |zero=>cases h
 |succ n=>rw[dV,if_pos h0] at h;exact(Option.some.inj h).symm
def QJ (c:PC) (hb g:aq) (kv:Value) (l:List Tr) (s:PS):Prop :=
 tj c g s/\Ext (λb=>b=c.pb) hb g/\cH eN (λb=>b<hb.size) g hb.size 41 kv l
theorem rQ (hg:qN h) (hv:aL Hx h (λ_=>False) v ts) (s:By) (st:kY) (hb:ts.length*(s.length+2)<=1000000000000) (hsl:s.length<=1000000000000)
 {k:List Tr}(hP:eJ s ts st.1 k a e) :
 au prog 6 #[.string (bs s),v,.agg (aG st).toArray] h (bK λr h'=>aj h h'/\∃lv,r=packed [lv,.int .i64 a,.int .i64 e]/\aL eN h' (λb=>b<h.size) lv k):=by
 have hbz:=aJ s;refine bJ ?_;refine af ?_;refine xo rfl (mh) ?_;rintro _ h1 ⟨rfl,k1,e1,z1⟩;have k1:aC h1 h.size 25 (aG st):=k1;have hun:=AI (hg.ah e1) (hv.ah e1) s st hb hsl
 rcases hU:eX s ts st.1 with ⟨a1,c1⟩|us
 · rw[hU] at hun;have hce:=zH hU
   obtain⟨rfl,rfl,rfl⟩:k=[]/\a=a1/\e=c1:=by
    cases hP with
    |units h=>rw[hU] at h;cases h;exact⟨rfl,rfl,rfl⟩
    |bad h _=>rw[hU] at h;cases h
    |ok h _=>rw[hU] at h;cases h
   refine af ?_;refine xp rfl (cj rfl k1.row) ?_;refine xo rfl (aE rfl hun) ?_;rintro _ h2 ⟨e2,rfl⟩;refine af ?_;refine dc rfl (by simpa using hce) ?_;refine af ?_;refine aP ?_;exact⟨_,rfl,e1.trans e2,_,rfl,aL.nil _ _ _⟩
 · rw[hU] at hun
   obtain⟨n,K,F,hm,hend⟩:∃n K F,dV s.length n [] (.ok us)=some (K,F)/\(∀m,F= .bad m->k=[]/\a=m/\e=10)/\(F.bB=false->k=K/\a=0/\e=0):=by
    cases hP with
    |units h=>rw[hU] at h;cases h
    |bad h h2=>rw[hU] at h;cases h;exact⟨_,_,_,h2,λm q=>by cases q;exact⟨rfl,rfl,rfl⟩,λq=>by cases q⟩
    |ok h h2=>rw[hU] at h;cases h;exact⟨_,_,_,h2,λm q=>(by cases q),λ_=>⟨rfl,rfl,rfl⟩⟩
   refine af ?_;refine xp rfl (cj rfl k1.row) ?_;refine xo rfl (aE rfl hun) ?_;rintro _ h2 ⟨e2,hu500,uv,rfl,huv⟩;refine af ?_;refine dB rfl (by simp) ?_;obtain⟨ua,un,uc,rfl,huvs⟩:=huv.open;refine af ?_;refine xp rfl (av (H.J4 _ _ _ _) rfl) ?_;refine xo rfl (mh) ?_;rintro _ h3 ⟨rfl,kp,e3,z3⟩;have kp:aC h3 h2.size 51 [.slice ua un uc,.int .i64 (0:Nat),.int .i64 (s.length:Nat),.bool false,.int .i64 0]:=by rw[hbz] at kp;exact kp
   have e13:aj h h3:=(e1.trans e2).trans e3;obtain⟨c,hc⟩:∃c:PC,c=⟨h2.size,.slice ua un uc,h3.size,us,s.length⟩:=⟨_,rfl⟩
   have hz13:=e13.size;have hz2:=e2.size;have hz1:=e1.size;have hpb:c.pb=h2.size:=by rw[hc]
   have hce:c.e=s.length:=by rw[hc]
   have hcu:c.us=us:=by rw[hc]
   have hst3:tj c h3 (.ok us):=by
    rw[hc];exact⟨0,false,0,kp,huv.mv (Mv.bY e3 λb hb _=>⟨λk=>k,λq=>by have:=e3.size;dsimp only at q;omega⟩),Nat.zero_le _,⟨rfl,rfl⟩,by show h2.size<h3.size;omega,Nat.le_refl _,by show us.length<=1000;omega⟩
   rw[<-hce] at hm;have hI3:QJ c h3 h3 (.slice none 0 0) [] (.ok us):=⟨hst3,Ext.refl _ _,cH.nil _ _ _ _ _⟩
   rw[<-hpb];refine af ?_;refine fK (σ:=Nat×List Tr×Value×PS) (λw=>[(6,w.2.2.1)]) (λw g=>QJ c h3 g w.2.2.1 w.2.1 w.2.2.2/\(w.2.2.2.bB=true->w.2.2.2=F)/\(w.2.2.2.bB=false->dV c.e w.1 w.2.1 w.2.2.2=some (K,F)/\w.2.1.length+w.2.2.2.len<=us.length)) (λw=>w.1) ((n,[],.slice none 0 0,.ok us)) ⟨hI3,λq=>(by cases q),λ_=>⟨hm,by simp[PS.len]⟩⟩ rfl ?_;rintro⟨m,l,kv,sI⟩ g ⟨⟨hst,xg,how⟩,hbad,hok⟩ ih
   try dsimp only
   dsimp only at hst how hbad hok;obtain⟨pi,pbb,pm,pk,psl,pil,ps,_⟩:=id hst;obtain⟨pl1,pl2,pl3⟩:=Bb ps;rw[hcu] at pl1;have hpil:pi<=us.length:=by rw[<-hcu];exact pil
   have hlv:c.lv= .slice ua us.length uc:=by rw[hc];have:=huvs.len;subst this;rfl
   rw[hlv] at pk;have hsize:c.pb<h3.size:=by rw[hpb];omega
   have how0:aB g h3.size 41 3 kv l.length _:=(how.own).choose_spec;obtain⟨ka,kc,rfl,_⟩:=how0.open;have kown:∀b,(Value.slice ka l.length kc).ownBlock=some b->h3.size<=b/\b<g.size:=λb q=>how0.lt q
   iterate 2 refine aQ ?_
   refine Ky 17 (λb=>Array.size g<=b) (λi=>Nat.blt i 17) [(46,.bool (decide (sI.len≠0)))] rfl ?_ ?_
   · refine aF 0 ?_;refine aF 1 ?_;refine aF 2 ?_;refine bq 3 rfl (λh' e=>aA rfl (e.old (pk.cell (i:=1) rfl))) ?_;refine aF 4 ?_;refine aF 5 ?_;refine aF 6 ?_;refine bq 7 rfl (λh' e=>aA rfl (e.old (pk.cell (i:=0) rfl))) ?_;refine aF 8 ?_;refine aF 9 ?_;refine aF 10 ?_;refine Qx 40 (λg1=>?_) (λg1=>?_)
     · have g1:=of_decide_eq_true g1;refine aF 11 ?_;refine aF 12 ?_;refine aF 13 ?_;refine bq 14 rfl (λh' e=>aA rfl (e.old (pk.cell (i:=3) rfl))) ?_;refine aF 15 ?_;refine aF 16 ?_;exact Gq rfl ⟨ai rfl (by cases pbb with|true=>rw[pl2 rfl];rfl|false=>rw[pl1 rfl,decide_eq_true (by omega)];rfl),sb rfl⟩
     · have g1:=of_decide_eq_false g1;refine ox 11 ?_;refine ox 12 ?_;refine ox 13 ?_;refine ox 14 ?_;refine ox 15 ?_;refine aF 16 ?_;exact Gq rfl ⟨ai rfl (by cases pbb with|true=>rw[pl2 rfl];rfl|false=>rw[pl1 rfl,decide_eq_false (by omega)]),sb rfl⟩
   · refine aN (λhgo=>?_) (λhgo=>?_)
     · obtain⟨r,hr⟩:∃r,sI= .ok r:=by cases sI with|ok r=>exact⟨r,rfl⟩|bad q=>exact absurd rfl hgo
       obtain⟨hm,hll⟩:=hok (by rw[hr];rfl);obtain⟨m,rfl⟩:∃m',m=m'+1:=by cases m with|zero=>cases hm|succ m=>exact⟨m,rfl⟩
       rw[dV,if_neg hgo] at hm
       rcases hv1:pM c.e m .stmt sI with _|⟨tv,s2⟩
       rw[hv1] at hm;cases hm;rw[hv1] at hm;simp only[Option.bind_some] at hm;have hvl:=tL hv1;refine af ?_;refine xo rfl (aE rfl ((KK m).stmt _ _ _ _ _ hst hv1)) ?_;rintro r6 h6 ⟨y6,hp6,t6,hn6,ht6⟩;have z6:=y6.size;obtain⟨mk,mt,ma,mn,mc,rfl,hr6⟩:=hn6.get;have ho6:=how.kU y6 (λb q q2=>by have:=kown b q;omega) (λb hb q=>by omega) (λ_ _ q=>q);obtain⟨css,hc1,hc2,hc3⟩:=id ho6;refine xo rfl (lg) ?_;rintro _ _ ⟨rfl,rfl⟩;refine xo rfl (vL rfl rfl hc2 rfl rfl) ?_;rintro v7 h7 ⟨ho7,hx7,hx7',hv7⟩;have z7:=hx7.size
       have hr6':eN.R h6 (λb=>bU (Value.slice ka l.length kc).ownBlock b\/b<h3.size) [.int .i64 mk,.string (bs mt),.slice ma mn mc] t6:=aK hr6 (Ext.refl (λ_=>False) _) (λb hb q=>⟨λk=>k,λq2=>by
        rcases q2 with q2|q2
        · have:=kown _ q2.symm;omega
        · have:=xg.size;omega⟩)
       have ho7x:cH eN (λb=>b<h3.size) h7 h3.size 41 v7 (l++[t6]):=cH.eC hc1 hc3 ho7 hx7 hv7 hr6';have hst7:tj c h7 s2:=hp6.ext hx7 (λb hb q=>by have:=kown _ q.symm;rw[hc] at hb;dsimp only at hb;omega);have x7:Ext (λb=>b=c.pb) h3 h7:=(xg.trans y6).cZ hx7 (λi hi q=>by have:=kown _ q.symm;omega);refine af ?_;refine xo rfl (iD [_]) ?_;rintro _ w9 ⟨rfl,hw9⟩;have y9:aj h7 w9:=by rw[hw9];exact Ext.push _ _ _
       have ts9:aL oA w9 (λ_=>False) (.slice (some ⟨Array.size h7,0,none⟩) 1 1) [[59]]:=by rw[hw9];exact bR _ [[59]] _ rfl (by simp[maxLen]) rfl
       refine xo rfl (aE rfl (bQ (hst7.ah y9) 6 ts9)) ?_;rintro _ h9 ⟨rfl,hp9,x9⟩;have x9:=y9.of.trans x9
       rcases hq9:bM 6 [[59]] s2 with ⟨o9,s9⟩
       rw[hq9] at hp9 hm;have hp9:tj c h9 s9:=hp9;have how9:=ho7x.kU x9 (λb q q2=>by have:=ho7.lt q;omega) (λb hb q=>by omega) (λ_ _ q=>q);have x39:=x7.trans x9;have hgood:∀sN:PS,(sN.bB=false->s9.bB=false)->sN.bB=false->t6=tv:=λsN q1 q2=>ht6 (aS hq9 (q1 q2))
       have hfinB:∀sN:PS,dV c.e m (l++[tv]) sN=some (K,F)->sN.bB=true->sN=F:=λsN q1 q2=>by have:=lE q1 (nU q2).1;cases this;rfl
       rcases o9 with _|w9
       · simp only at hm;have e9:=aM hq9;obtain⟨qi,qbb,qm,qk,qsl,qil,qs,_⟩:=(show tj c h9 s9 from hp9)
         obtain⟨ql1,ql2,ql3⟩:=Bb qs;rw[hcu] at ql1;rw[hlv] at qk
         iterate 5 refine aR ?_
         refine cO ?_;refine aQ ?_;refine Ky 14 (λb=>Array.size h9<=b) (λi=>Nat.blt i 14) [(71,.bool (decide (qi<us.length)))] rfl ?_ ?_
         · refine aF 0 ?_;refine aF 1 ?_;refine aF 2 ?_;refine RD.bw (d:=60) (b':=true) rfl (rfl) ?_;refine aF 3 ?_;refine aF 4 ?_;refine aF 5 ?_;refine bq 6 rfl (λh' e=>aA rfl (e.old (qk.cell (i:=1) rfl))) ?_;refine aF 7 ?_;refine aF 8 ?_;refine aF 9 ?_;refine bq 10 rfl (λh' e=>aA rfl (e.old (qk.cell (i:=0) rfl))) ?_;refine aF 11 ?_;refine aF 12 ?_;refine aF 13 ?_;exact Gq rfl ⟨ai rfl (by rw[decide_eq_decide];omega),sb rfl⟩
         · refine aN (λhgo2=>?_) (λhgo2=>?_)
           · have hsN:(if s9.len=0 then s9 else cu c.e s9)=cu c.e s9:=by
              split
              · rename_i q;cases qbb with
                |true=>exact((nU ql3).2 _).symm
                |false=>have:=ql1 rfl;omega
              · rfl
             rw[hsN] at hm;have hfb:(cu c.e s9).bB=true:=by obtain⟨q,hq⟩:=tV c.e s9;rw[hq];rfl
             refine af ?_;refine xo rfl (aE rfl (eS hp9)) ?_;rintro _ h10 ⟨rfl,hp10,x10⟩;have how10:=how9.kU x10 (λb q q2=>by have:=ho7.lt q;omega) (λb hb q=>by omega) (λ_ _ q=>q);refine af ?_;exact ih (m,l++[t6],v7,cu c.e s9) ⟨⟨hp10,x39.trans x10,how10⟩,λq=>hfinB _ hm q,λq=>(by have q:(cu c.e s9).bB=false:=q;rw[hfb] at q;cases q)⟩ (Nat.lt_succ_self _)
           · have hs0:s9.len=0:=by
              cases qbb with
              |true=>exact(nU ql3).1
              |false=>have:=ql1 rfl;omega
             rw[if_pos hs0] at hm;refine af ?_;exact ih (m,l++[t6],v7,s9) ⟨⟨hp9,x39,how9⟩,λq=>hfinB _ hm q,λq=>⟨by dsimp only;rw[hgood s9 id q];exact hm,by dsimp only;rw[List.length_append,List.length_singleton,hs0];omega⟩⟩ (Nat.lt_succ_self _)
       · simp only at hm;have hl9:=cW hq9
         iterate 5 refine aR ?_
         refine cO ?_;refine aQ ?_;refine Ky 14 (λb=>Array.size h9<=b) (λi=>Nat.blt i 14) [(71,.bool false)] rfl ?_ ?_
         · refine aF 0 ?_;refine aF 1 ?_;refine aF 2 ?_;refine RD.bw (d:=60) (b':=false) rfl (rfl) ?_;refine ox 3 ?_;refine ox 4 ?_;refine ox 5 ?_;refine ox 6 ?_;refine ox 7 ?_;refine ox 8 ?_;refine ox 9 ?_;refine ox 10 ?_;refine ox 11 ?_;refine ox 12 ?_;refine aF 13 ?_;exact Gq rfl ⟨ai rfl (rfl),sb rfl⟩
         · refine dB rfl (by simp) ?_;refine af ?_;exact ih (m,l++[t6],v7,s9) ⟨⟨hp9,x39,how9⟩,λq=>hfinB _ hm q,λq=>⟨by dsimp only;rw[hgood s9 id q];exact hm,by dsimp only;rw[List.length_append,List.length_singleton];omega⟩⟩ (Nat.lt_succ_self _)
     · have h0:sI.len=0:=by simpa using hgo
       refine af ?_;refine xp rfl (aA rfl (pk.cell (i:=3) rfl)) ?_;refine af ?_
       rcases pbb with _|_
       · refine dB rfl (by simp) ?_;obtain⟨r,hr⟩:∃r,sI= .ok r:=by cases sI with|ok r=>exact⟨r,rfl⟩|bad q=>cases pl3
         obtain⟨hm,hll⟩:=hok (by rw[hr];rfl);have hz:=lE hm h0;obtain⟨rfl,rfl,rfl⟩:=hend.2 (by cases hz;rw[hr];rfl);have hKl:k=l:=by cases hz;rfl
         refine af ?_;refine aP ?_;exact⟨_,rfl,aj.only e13 xg (by omega),_,rfl,by rw[hKl];exact how.read (λb hb q=>by omega) (λb hb q=>by omega)⟩
       · have hF:F= .bad pm:=by rw[<-hbad pl3];exact pl2 rfl
         obtain⟨rfl,rfl,rfl⟩:=hend.1 pm hF;refine dc rfl (by simp) ?_;refine af ?_;refine bF rfl (aA rfl (pk.cell (i:=4) rfl)) ?_;refine af ?_;refine aP ?_;exact⟨_,rfl,aj.only e13 xg (by omega),_,rfl,aL.nil _ _ _⟩
theorem Gp:(prog.info? 5).map (·.size)=some 1:=by kernel_rfl
theorem ER {p:Value}(hk:aC h b 167 [p,.slice none 0 0]) (n:Nat) (hn:n<=1000000000) :
 au prog 127 #[.pointer (some ⟨b,0,none⟩),.int .i64 (n:Nat)] h (bK λ_ h'=>(∃v,aC h' b 167 [p,v]/\Fk h' (b+1) 5 v [])/\Ext (λx=>x=b) h h'/\h.size<=h'.size):=by
 have hkl:=hk.lt;have hc1:=hk.cell (i:=1) rfl;refine bJ ?_;refine af ?_;refine jK 16 (λx=>Array.size h<=x) (λi=>Nat.blt i 16) ?_;refine aF 0 ?_;refine aF 1 ?_;refine aF 2 ?_;refine bq 3 rfl (λh' e=>aA rfl (e.cell (show ¬Array.size h<=b by omega) hc1)) ?_;refine bq 4 rfl (λh' e=>az.DO underlying90 rfl) ?_;refine bq 5 rfl (λh' e=>az.Jg rfl rfl ⟨by omega,by omega⟩) ?_;refine aF 6 ?_;refine aF 7 ?_;refine aF 9 ?_;refine aF 10 ?_;refine aF 11 ?_;refine bq 12 rfl (λh' e=>aA rfl (e.cell (show ¬Array.size h<=b by omega) hc1)) ?_;refine aF 13 ?_;refine cV 8 rfl (yP (ps:=_) (t:=90) func144 (by decide +kernel) (by kernel_rfl) (by kernel_rfl) rfl underlying90 rfl n (by omega) hn) ?_;rintro _ h1 ⟨cs,rfl,hh1,hn1,hn2⟩;refine⟨λ_=>by rw[hh1];exact Ext.push _ _ _,?_⟩;refine bq 14 rfl (λh' e=>az.rZ underlying90 H.Qy rfl rfl 0 rfl (Nat.zero_le _)) ?_;refine aF 15 ?_;refine fV ?_;refine af ?_;have e1:aj h h1:=by rw[hh1];exact Ext.push _ _ _
 have k1:=hk.ah e1
 have ho:Fk h1 (b+1) 5 (.slice (dm (some ⟨h.size,0,none⟩) 0 1 cs.size) 0 cs.size) []:=by
  have hp:dm (some ⟨h.size,0,none⟩) 0 1 cs.size=some ⟨h.size,0,none⟩:=by
   unfold dm;split
   · rfl
   · rfl
  rw[hp];exact⟨rfl,.inr ⟨h.size,cs.size,cs,rfl,hkl,by rw[hh1];simp,Nat.zero_le _,hn2,by simp,by simp⟩⟩
 refine xp rfl (aA rfl (k1.cell (i:=1) rfl)) ?_;refine xp rfl (az.JV underlying90 Gp rfl rfl rfl) ?_;refine af ?_;refine aO rfl (iG rfl rfl k1) ?_;rintro _ h2 ⟨rfl,k2,x2,z2⟩;refine af ?_;refine D4 ?_;have z1:=e1.size;refine⟨_,rfl,⟨_,k2,aB.ext x2 ho (λg hg=>?_)⟩,?_,by omega⟩
 · have:=(aB.lt ho hg).1;omega
 · exact(e1.mono (λ_ _ k=>k.elim)).trans x2
theorem Ft (hk:aC h b 167 [.pointer none,.slice none 0 0]) (n:Nat) (hn:n<=1000000000) :
 au prog 98 #[.pointer (some ⟨b,0,none⟩),.int .i64 (n:Nat)] h (bK λ_ h'=>mg h' b 167 5 []/\Ext (λx=>x=b) h h'):=by
 refine bJ ?_;refine af ?_;refine xo rfl (aE rfl (jz hk (.inl rfl))) ?_;rintro _ h1 ⟨k1,x1,z1⟩;refine cO ?_
 iterate 2 refine aQ ?_
 refine cI ?_
 iterate 2 refine aR ?_
 refine cO ?_;refine dB rfl (by simp) ?_
 iterate 2 refine aQ ?_
 refine ux (λ_=>False) (λi=>Nat.blt i 13) (sz:=13) (listed:= #[false,false,false,false,false,false,false,false,false,false,false,false,false]) func98 H.mixed rfl rfl rfl ?_;refine aF 0 ?_;refine aF 1 ?_;refine aF 2 ?_;refine bq 3 rfl (λh' e=>aA rfl (e.cell (λq=>q) (k1.cell (i:=1) rfl))) ?_;refine bq 4 rfl (λh' e=>az.DO underlying90 rfl) ?_;refine aF 5 ?_;refine aF 6 ?_;refine aF 7 ?_;refine bq 8 rfl (λh' e=>aA rfl (e.cell (λq=>q) (k1.cell (i:=1) rfl))) ?_;refine aF 9 ?_;refine aF 10 ?_;refine aF 11 ?_;refine aF 12 ?_;refine fV ?_;refine aN (λhlt=>?_) (λhlt=>?_)
 · refine af ?_;refine xo rfl (aE rfl (ER k1 n hn)) ?_;rintro _ h2 ⟨⟨v,k2,ho⟩,x2,z2⟩;refine af ?_;refine D4 ?_;exact⟨_,rfl,⟨_,_,k2,.inr rfl,ho⟩,x1.trans x2⟩
 · refine af ?_;refine D4 ?_;exact⟨_,rfl,⟨_,_,k1,.inr rfl,bN.nil _ _ _ _⟩,x1⟩
def mu (ws:List By):Nat:=(ws.map List.length).sum
theorem Gw {ws:List By}{w:By}(h:ws[i]? =some w):mu (ws.take (i+1))=mu (ws.take i)+w.length:=by
 unfold mu;rw[List.take_add_one,h];simp
theorem nJ (x:By):∀l:List By,iu (x::l)=x++l.flatMap λy=>(59:UInt8)::32::y
 | []=>by simp[iu]
 |y::l=>by rw[iu,nJ y l,List.flatMap_cons];rfl
theorem Ah:∀ws:List By,(iu ws).length=mu ws+2*(ws.length-1)
 | []=>rfl
 |x::xs=>by
  have:∀l:List By,(l.flatMap λy=>(59:UInt8)::32::y).length=mu l+2*l.length:=by
   intro l
   induction l with
   |nil=>rfl
   |cons y l I=>rw[List.flatMap_cons,List.length_append,I];simp[mu];omega
  rw[nJ,List.length_append,this];simp[mu];omega
theorem AT (ws:List By) (i:Nat):mu (ws.take i)<=mu ws:=by
 have:mu (ws.take i++ws.drop i)=mu (ws.take i)+mu (ws.drop i):=by unfold mu;rw[List.map_append,List.sum_append]
 rw[List.take_append_drop] at this;omega
theorem Fq {O:Nat->Prop}{ws:List By}(hv:aL oA h O v ws) (hb:(iu ws).length<=100000000) :
 au prog 56 #[v,.string (bs [59,32])] h (bK λr h'=>r= .string (bs (iu ws))/\aj h h'):=by
 obtain⟨oa,n,c,rfl,hsl⟩:=hv.open;have hn:=hsl.len;subst hn;have hjl:=Ah ws;have h32:(bs [59,32]).size=2:=rfl;refine bJ ?_;refine af ?_;refine aN (λh0=>?_) (λh0=>?_)
 · have:ws=[]:=List.eq_nil_of_length_eq_zero (by omega);subst this;refine af ?_;refine aP ?_;exact⟨_,rfl,rfl,Ext.refl _ _⟩
 · refine af ?_;refine aN (λh1=>?_) (λh1=>?_)
   · obtain⟨x,rfl⟩:∃x,ws=[x]:=List.length_eq_one_iff.1 (by omega);obtain⟨b,o,y,ha,_,hy,hc⟩:=hsl.at (show 0 < [x].length from Nat.one_pos);cases hy;refine aQ ?_;refine cI ?_;refine aR ?_;refine xp rfl (bZ rfl rfl 0 rfl ha Nat.one_pos) ?_;refine xp rfl (aA rfl hc) ?_;refine af ?_;refine aP ?_;exact⟨_,rfl,rfl,Ext.refl _ _⟩
   · refine af ?_;refine dc rfl (by decide) ?_
     have hq:((9223372036854775807:Int).tdiv ((ws.length:Int)-1))>=3:=by
      rw[Int.tdiv_eq_ediv_of_nonneg (by decide)];exact(Int.le_ediv_iff_mul_le (by omega)).2 (by omega)
     have hq2:((9223372036854775807:Int).tdiv ((ws.length:Int)-1))<=9223372036854775807:=by
      rw[Int.tdiv_eq_ediv_of_nonneg (by decide)];exact Int.ediv_le_self _ (by decide)
     have hq3:IntKind.i64.wrap ((9223372036854775807:Int).tdiv ((ws.length:Int)-1))=((9223372036854775807:Int).tdiv ((ws.length:Int)-1)):=wrap_i64 ⟨by omega,by omega⟩
     iterate 2 refine aQ ?_
     refine cI ?_
     iterate 5 refine aR ?_
     refine xp rfl (gw rfl rfl (by omega)) ?_;refine af ?_;refine dB rfl (by rw[hq3];simp;omega) ?_;refine aQ ?_;refine cI ?_
     iterate 6 refine aR ?_
     refine xp rfl (az.Jg rfl rfl ⟨by rw[h32];omega,by rw[h32];omega⟩) ?_;refine xp rfl (az.ow rfl rfl ⟨by rw[h32];omega,by rw[h32];omega⟩) ?_;refine af ?_;rw[show (0:Int)+((bs [59,32]).size:Int)*((ws.length:Int)-1)=((2*(ws.length-1)+mu (ws.take 0):Nat):Int) by rw[h32,List.take_zero];show _=((2*(ws.length-1)+0:Nat):Int);omega];refine uw (σ:=Nat) (λi=>[(0,.slice oa ws.length c),(1,.string (bs [59,32])),(5,.int .i64 ((2*(ws.length-1)+mu (ws.take i):Nat):Int)),(39,.slice oa ws.length c),(40,.int .i64 (ws.length:Nat)),(41,.int .i64 (i:Nat))]) (λi h'=>i<=ws.length/\h'=h) (λi=>ws.length-i) (0) rfl ⟨rfl,rfl,rfl,rfl,rfl,rfl,trivial⟩ ⟨Nat.zero_le _,rfl⟩ ?_;rintro i g ⟨hi,hg⟩ ih;subst hg;have hsle:=AT ws (i+1);refine Kz func56 1 [0,1,5,39,40,41,42] rfl ?_;refine iC rfl ?_;refine vk rfl rfl (λhlt=>?_) (λhlt=>?_)
     · have hil:i<ws.length:=by omega
       obtain⟨w,hw⟩:∃w,ws[i]? =some w:=⟨_,List.getElem?_eq_getElem hil⟩
       have hst:=Gw hw;have hwz:=aJ w;obtain⟨b,o,y,ha,_,hy,hc⟩:=hsl.at hil;rw[hw] at hy;cases hy;refine me rfl ?_;refine iC rfl ?_;refine G.block rfl rfl ?_;refine xr func56 rfl ?_;refine xp rfl (az.iS underlying73 H.D6 rfl rfl i rfl ha (by omega)) ?_;refine xp rfl (eB H.Nl rfl hc) ?_;refine D5 1 [0,1,5,7,39,40,41,42] rfl ?_;refine iC rfl ?_;refine Mm func56 1 rfl ?_;refine xp rfl (az.mK underlying9 rfl) ?_;refine KA 1 rfl rfl (az.LQ rfl rfl ⟨by omega,by omega⟩) ?_;refine D5 1 [0,1,5,7,39,40,41,42,49] rfl ?_;refine yU rfl rfl (λhc=>absurd hc (by simp;omega)) (λ_=>?_);refine me rfl ?_;refine G.mE func56 rfl ?_;refine KA 2 rfl rfl (az.mK underlying9 rfl) ?_;refine xp rfl (az.ow rfl rfl ⟨by omega,by omega⟩) ?_;refine D5 1 [0,1,5,7,39,40,41,42,49] rfl ?_;refine G.pL ?_;refine G.mE func56 rfl ?_;refine xp rfl (az.ow rfl rfl ⟨by omega,by omega⟩) ?_;refine D5 1 [0,1,5,7,39,40,41,42,49] rfl ?_;exact ih (i+1) _ _ ⟨rfl,rfl,congrArg (λx:Int=>some (Value.int .i64 x)) (by rw[hst,hwz];omega),rfl,rfl,rfl,trivial⟩ ⟨by omega,rfl⟩ (by omega)
     · have hie:ws.take i=ws:=List.take_of_length_le (by omega);rw[hie];refine af ?_;refine xo rfl (cL) ?_;rintro _ h1 ⟨rfl,k1,e1,z1⟩;refine af ?_;have k1:aC h1 g.size 167 [.pointer none,.slice none 0 0]:=k1;obtain⟨x,tl,rfl⟩:∃x tl,ws=x::tl:=by cases ws with|nil=>simp at h0|cons x tl=>exact⟨x,tl,rfl⟩
       refine xo rfl (aE rfl (Ft k1 _ (by omega))) ?_;rintro _ h2 ⟨hb2,x2⟩;refine af ?_;have e02:=aj.only e1 x2 (Nat.le_refl _);have hxz:=aJ x;have hxl:x.length<=mu (x::tl):=by simp[mu]
       obtain⟨b,o,y,ha,_,hy,hc⟩:=(hsl.mv (Mv.ah e02)).at (show 0<(x::tl).length by simp);cases hy;refine xp rfl (bZ rfl rfl 0 rfl ha (by simp)) ?_;refine xp rfl (aA rfl hc) ?_;refine xo rfl (aE rfl (dY (bs x) hb2 (by rw[hxz];simp only[List.length_nil];omega))) ?_;rintro _ h3 ⟨rfl,hb3,x3⟩;refine af ?_;rw[iw,List.nil_append] at hb3;have e03:=fj e02 x3 (Nat.le_refl _);have hpart:=hsl.part (i:=1) (j:=(x::tl).length) (by simp) (Nat.le_refl _);rw[List.take_length,List.drop_one,List.tail_cons] at hpart;refine xp rfl (az.A1 underlying73 H.D6 rfl rfl 1 rfl (by simp)) ?_;refine af ?_;refine fK (σ:=Nat) (λi=>[(65,.int .i64 (i:Nat))]) (λi h'=>i<=tl.length/\mg h' g.size 167 5 (iu (x::tl.take i))/\aj g h') (λi=>tl.length-i) (0) ⟨Nat.zero_le _,by rw[List.take_zero,iu];exact hb3,e03⟩ rfl ?_;rintro i g4 ⟨hi,hb4,e04⟩ ih;have hjt:=Ah (x::tl.take i);have hst:=AT (x::tl) (i+1);rw[List.take_succ_cons] at hst;simp only[List.length_cons,List.length_take] at hjt;simp only[List.length_cons] at hb hjl;have hlc:(x::tl).length-1=tl.length:=rfl;refine af ?_;refine aN (λhlt4=>?_) (λhlt4=>?_)
       · have hil:i<tl.length:=by omega
         obtain⟨w,hw⟩:∃w,tl[i]? =some w:=⟨_,List.getElem?_eq_getElem hil⟩
         have hwz:=aJ w;have hst2:=AT (x::tl) (i+2);rw[List.take_succ_cons] at hst2;have htk:tl.take (i+1)=tl.take i++[w]:=by rw[List.take_add_one,hw];rfl
         have hs2:mu (x::tl.take (i+1))=mu (x::tl.take i)+w.length:=by rw[htk];simp[mu];omega
         have hjn:iu (x::tl.take (i+1))=(iu (x::tl.take i)++[59,32])++w:=by rw[htk,nJ,nJ];simp
         obtain⟨b5,o5,y5,ha5,_,hy5,hc5⟩:=(hpart.mv (Mv.ah e04)).at (show i<(x::tl).length-1 by omega);rw[hw] at hy5;cases hy5
         iterate 4 refine aQ ?_
         refine cI ?_;refine xp rfl (bZ rfl rfl i rfl ha5) ?_;refine xp rfl (aA rfl hc5) ?_;refine af ?_;refine xo rfl (aE rfl (dY (bs [59,32]) hb4 (by rw[h32];omega))) ?_;rintro _ h5 ⟨rfl,hb5,x5⟩;refine af ?_;rw[iw] at hb5;refine xo rfl (aE rfl (dY (bs w) hb5 (by rw[hwz,List.length_append];simp only[List.length_cons,List.length_nil];omega))) ?_;rintro _ h6 ⟨rfl,hb6,x6⟩;refine af ?_;rw[iw,<-hjn] at hb6;exact ih (i+1) ⟨by omega,hb6,fj (fj e04 x5 (Nat.le_refl _)) x6 (Nat.le_refl _)⟩
       · have hie:tl.take i=tl:=List.take_of_length_le (by omega);rw[hie] at hb4;refine af ?_;refine xo rfl (aE rfl (lV hb4 (by omega))) ?_;rintro _ h5 ⟨rfl,x5⟩;refine af ?_;refine aP ?_;exact⟨_,rfl,rfl,fj e04 x5 (Nat.le_refl _)⟩
abbrev QH:gW (UInt8×UInt8):=.record 2 (by decide) mO (λ_=>rfl) IZ
theorem MO (k:qN h):aL QH h (λ_=>False) (.slice (some ⟨1,0,none⟩) 6 6) jv :=
 ⟨_,6,6,rfl,rfl,Nat.le_refl _,by decide,λi x I=>⟨_,0,mO x,rfl,λk=>k,λj v J=>by
  have:=k (i*2+j) v (iU (enc:=mO) (λ_=>rfl) jv i x j v I J);rw[Nat.add_assoc];exact this,rfl⟩⟩
theorem Ba {tb U:Nat}(Y:aC h tb 9 [.string (bs s)]) (hi:aC h U 3 [.int .i64 (i:Nat)]){c:UInt8}(hc:s[i]? =some c) (p:UInt8×UInt8) :
 au prog 97 #[.agg (mO p).toArray,ptr tb,ptr U] h (bK λr h'=>r= .bool (p.2 ==c)/\aj h h'):=by
 refine bJ ?_;refine af ?_;refine xo rfl (mh) ?_;rintro _ h1 ⟨rfl,I,J,z1⟩;have I:aC h1 h.size 148 (mO p):=I;refine af ?_;refine bF rfl (aA rfl (I.cell (i:=1) rfl)) (bF rfl (aA rfl ((Y.ah J).cell (i:=0) rfl)) (bF rfl (aA rfl ((hi.ah J).cell (i:=0) rfl)) (bF rfl (tq rfl rfl i rfl (eH hc)) ?_)));refine af ?_;refine aP ?_;exact⟨_,rfl,by show Value.bool _=_;rw[LL];rfl,J⟩
theorem BF {gf:FuncId}{caps:List Value}(hf:Nf prog gf){ts:List (UInt8×UInt8)}(hv:aL QH h (λ_=>False) v ts) (p:UInt8×UInt8->Bool)
 (hp:∀t g,aj h g->au prog gf ([Value.agg (mO t).toArray]++caps).toArray g (bK λr h'=>r= .bool (p t)/\aj g h')) :
 au prog 96 #[v,.func (.func gf) #[] caps.toArray] h (bK λr h'=>(∃i:Int,r= .int .i64 i/\((i<0/\ts.find? p=none)\/∃(k:Nat) (t:UInt8×UInt8),i=k/\ts[k]? =some t/\ts.find? p=some t))/\aj h h'):=by
 obtain⟨va,vn,vc,rfl,hvs⟩:=hv.open;have hvl:ts.length=vn:=hvs.len;subst hvl;have hvm:=hvs.cap;have hvc:=hvs.le;simp only[maxLen] at hvm;refine bJ ?_;refine af ?_;refine fK (σ:=Nat) (λi=>[(8,.int .i64 (i:Nat))]) (λi h'=>aj h h'/\i<=ts.length/\∀a∈ts.take i,p a=false) (λi=>ts.length-i) (0) ⟨Ext.refl _ _,Nat.zero_le _,by simp⟩ rfl ?_;rintro i g ⟨eg,hi,hin⟩ ih;refine af ?_;refine aN (λhlt=>?_) (λhlt=>?_)
 · have hil:i<ts.length:=by omega
   have hvg:=hvs.mv (Mv.ah eg);obtain⟨b,o,t,ha,_,ht,hrow⟩:=hvg.nA hil;have hpt:=hp t g eg
   iterate 4 refine aQ ?_
   refine cI ?_
   iterate 2 refine aR ?_
   refine cO ?_;refine aQ ?_;refine cI ?_
   iterate 3 refine aR ?_
   refine xp rfl (bZ rfl rfl i rfl ha) ?_;refine xp rfl (cj rfl hrow) ?_;refine xo rfl (aV.Mc (vs:=[_]) rfl hf rfl (au.HX (hpt))) ?_;rintro _ g1 ⟨rfl,e1⟩;refine af ?_;refine jS (λhb=>?_) (λhb=>?_)
   · have hb:p t=true:=hb;refine af ?_;refine aP ?_;exact⟨_,rfl,⟨i,rfl,.inr ⟨i,t,rfl,ht,F0 hin ht hb⟩⟩,eg.trans e1⟩
   · have hb:p t=false:=hb;refine af ?_;exact ih (i+1) ⟨eg.trans e1,by omega,λa ha=>by rw[List.take_add_one,ht,List.mem_append] at ha;exact ha.elim (hin a) (λq=>by simp at q;rw[q];exact hb)⟩
 · obtain rfl:i=ts.length:=by omega
   refine af ?_;refine aP ?_;exact⟨_,rfl,⟨-1,rfl,.inl ⟨by decide,pz hin rfl⟩⟩,eg⟩
theorem Ew (c:UInt8):(gi c).length<=2:=by unfold gi;split<;>simp
theorem zT (s:By):(s.flatMap gi).length<=2*s.length:=by
 induction s with
 |nil=>simp
 |cons c s ih=>rw[List.flatMap_cons,List.length_append,List.length_cons];have:=Ew c;omega
theorem CQ (hg:qN h) (s:By) (hs:s.length<=100000000):au prog 54 #[.string (bs s)] h (bK λr h'=>r= .string (bs (A9 s))/\aj h h'):=by
 have hbz:=aJ s;have hql:=zT s;refine bJ ?_;refine af ?_;refine xo rfl (mh) ?_;rintro _ h1 ⟨rfl,k1,e1,z1⟩;refine af ?_;refine xo rfl (cL) ?_;rintro _ h2 ⟨rfl,k2,e2,z2⟩;have k1:aC h2 h.size 9 [.string (bs s)]:=k1.ah e2;have kb:mg h2 h1.size 167 5 []:=yV k2;refine af ?_;refine xo rfl (aE rfl (gp 34 kb (by simp))) ?_;rintro _ h3 ⟨ae,x3⟩;have ag:=k1.ext x3 (show ¬h1.size<=h.size by omega);have ba:aj h h3:=fj (e1.trans e2) x3 (by omega);rw[List.nil_append] at ae;refine af ?_;refine xp rfl (aA rfl (ag.cell (i:=0) rfl)) ?_;refine af ?_;refine fK (σ:=Nat) (λi=>[(9,.int .i64 (i:Nat))]) (λi g=>i<=s.length/\mg g h1.size 167 5 (34::(s.take i).flatMap gi)/\aj h g/\aC g h.size 9 [.string (bs s)]/\h2.size<=g.size) (λi=>s.length-i) (0) ⟨Nat.zero_le _,ae,ba,ag,x3.size⟩ rfl ?_;rintro i g ⟨hi,kg,eg,Z,hz⟩ ih
 have htl:((s.take i).flatMap gi).length<=2*s.length:=by
  have:=zT (s.take i);rw[List.length_take] at this;omega
 refine af ?_;refine aN (λar=>?_) (λar=>?_)
 · have ab:i<s.length:=by omega
   obtain⟨c,hc⟩:∃c,s[i]? =some c:=⟨_,List.getElem?_eq_getElem ab⟩
   have ak:(s.take (i+1)).flatMap gi=(s.take i).flatMap gi++gi c:=by rw[List.take_add_one,hc];simp
   refine af ?_;refine xo rfl (cL) ?_;rintro _ g1 ⟨rfl,kn,en,zn⟩;refine aO rfl (iG rfl rfl kn) ?_;rintro _ g2 ⟨rfl,Y,xn,zn2⟩;have Y:aC g2 g.size 3 [.int .i64 (i:Nat)]:=Y;have I:aj g g2:=aj.only en xn (Nat.le_refl _);have ao:=eg.trans I;have a6:=BF (h:=g2) (gf:=97) (caps:=[ptr h.size,ptr g.size]) ⟨_,func97,rfl,by kernel_rfl⟩ (MO (hg.ah ao)) (λp=>p.2 ==c) (λp g' e'=>Ba ((Z.ah I).ah e') (Y.ah e') hc p);refine af ?_;refine xp rfl (az.CF underlying149 H.Iq rfl  ) (xp rfl (jR (vs:=[_,_]) rfl) (xo rfl (aE rfl a6) ?_));rintro _ g3 ⟨⟨j,rfl,hj⟩,e3⟩;have ac:=ao.trans e3;have ad:=mg.ah kg (I.trans e3);have z3:=(I.trans e3).size;refine af ?_;refine aN (λa1=>?_) (λa1=>?_)
   · obtain⟨k,p,rfl,am,a8⟩:=hj.resolve_left (λq=>by omega);have aw:k<6:=(List.getElem?_eq_some_iff.1 am).1;have aa:gi c=[92,p.1]:=by unfold gi;rw[a8]
     have al:=(hg.ah ac) (k*2+0) _ (iU (enc:=mO) (λ_=>rfl) jv k p 0 _ am rfl);refine cI (aR (xp rfl (y8 rfl rfl k rfl aw) ?_));refine af ?_;refine xp rfl (aA rfl al) (xo rfl (iD [_,_]) ?_);rintro _ g4 ⟨rfl,an⟩;have e4:aj g3 g4:=by rw[an];exact Ext.push _ _ _
     have a':aL .byte g4 (λ_=>False) (.slice (some ⟨g3.size,0,none⟩) 2 2) [92,p.1]:=by rw[an];exact Fk.read (iA vz g3 _ [92,p.1] 2 rfl (by decide) 0 (Nat.zero_le _) rfl) (λ_ _ k=>k)
     have hw:=dY (bs [92,p.1]) (mg.ah ad e4) (by show (34::_).length+2<=_;rw[List.length_cons];omega);refine xp rfl (Ml rfl a') (xo rfl (aE rfl hw) ?_);rintro _ g5 ⟨rfl,J,U⟩;rw[iw] at J;have z4:=e4.size;refine af ?_;exact ih (i+1) ⟨ab,by rw[ak,aa];exact J,fj (ac.trans e4) U (by omega),((Z.ah (I.trans e3)).ah e4).ext U (show ¬h1.size<=h.size by omega),by have:=U.size;omega⟩
   · have a_:jv.find? (λp=>p.2 ==c)=none:=by
      rcases hj with hj|⟨k,p,hj,_⟩
      · exact hj.2
      · omega
     have aa:gi c=[c]:=by unfold gi;rw[a_]
     have hw:=gp c ad (by rw[List.length_cons];omega);refine af ?_;refine xp rfl (aA rfl ((Z.ah (I.trans e3)).cell (i:=0) rfl)) (xp rfl (aA rfl ((Y.ah e3).cell (i:=0) rfl)) (xp rfl (tq rfl rfl i rfl (eH hc)) (xo rfl (aE rfl hw) ?_)));rintro _ g5 ⟨J,U⟩;refine af ?_;exact ih (i+1) ⟨ab,by rw[ak,aa];exact J,fj ac U (by omega),(Z.ah (I.trans e3)).ext U (show ¬h1.size<=h.size by omega),by have:=U.size;omega⟩
 · have a7:i=s.length:=by omega
   rw[a7,List.take_length] at kg;have hw:=gp 34 kg (by rw[List.length_cons];omega);refine af ?_;refine xo rfl (aE rfl hw) ?_;rintro _ g5 ⟨J,U⟩;have ap:=lV J (by rw[List.length_append,List.length_cons,List.length_singleton];omega);refine af ?_;refine xo rfl (aE rfl ap) ?_;rintro _ g6 ⟨rfl,x6⟩;refine af ?_;refine aP ?_;exact⟨_,rfl,rfl,fj (fj eg U (by omega)) x6 (by omega)⟩
def qp (l:By):List Value:=(List.range 256).map λn=>.bool (decide (UInt8.ofNat n∈l))
@[simp] theorem ID (l:By):(qp l).length=256:=by unfold qp;rw[List.length_map,List.length_range]
theorem FC (l:By) (c:UInt8):(qp l)[c.toNat]? =some (.bool (decide (c∈l))):=by
 unfold qp;rw[List.getElem?_map,List.getElem?_range c.toNat_lt];simp
theorem IC (l:By) (c:UInt8):(qp l).set c.toNat (.bool true)=qp (l++[c]):=by
 apply List.ext_getElem?
 intro n;rw[List.getElem?_set]
 by_cases h:c.toNat=n
 · subst h;rw[if_pos rfl,if_pos (by rw[ID];exact c.toNat_lt),FC];simp
 · rw[if_neg h];unfold qp;rw[List.getElem?_map,List.getElem?_map]
   by_cases I:n<256
   · rw[List.getElem?_range I];have:¬UInt8.ofNat n=c:=λq=>h (by rw[<-q];exact UInt8.toNat_ofNat_of_lt' I)
     simp[this]
   · rw[List.getElem?_eq_none (by rw[List.length_range];omega)];rfl
theorem CK (l:By):∀v∈qp l,v.oneCell'=true:=λv I=>by unfold qp at I;simp at I;obtain⟨_,_,rfl⟩:=I;rfl
theorem GI (s:By) (hs:s.all (λc=>decide (c.toNat<128))=true) (hsl:s.length<=1000000):au prog 179 #[.string (bs s)] h (bK λr h'=>r=packed [.agg (qp s).toArray,.bool true]/\aj h h'):=by
 have hbz:=aJ s;refine bJ ?_;refine af ?_;refine xo rfl (cL) ?_;rintro _ h1 ⟨rfl,k1,e1,z1⟩;have k1:aC h1 h.size 256 (qp []):=k1;refine af ?_;refine fK (σ:=Nat) (λi=>[(4,.int .i64 (i:Nat))]) (λi g=>i<=s.length/\aC g h.size 256 (qp (s.take i))/\aj h g) (λi=>s.length-i) (0) ⟨Nat.zero_le _,k1,e1⟩ rfl ?_;rintro i g ⟨hi,kg,eg⟩ ih;refine af ?_;refine aN (λhlt=>?_) (λhlt=>?_)
 · have hil:i<s.length:=by omega
   obtain⟨c,hc⟩:∃c,s[i]? =some c:=⟨_,List.getElem?_eq_getElem hil⟩
   have hc7:c.toNat<128:=of_decide_eq_true (List.all_eq_true.1 hs c (List.mem_of_getElem? hc));refine af ?_;refine xp rfl (tq rfl rfl i rfl (eH hc)) ?_;refine af ?_;refine dB rfl (by simp;omega) ?_;refine aQ ?_;refine cI ?_;refine aR ?_;refine xp rfl (y8 rfl rfl c.toNat rfl c.toNat_lt) ?_;refine aO rfl (iG rfl rfl kg) ?_;rintro _ g2 ⟨rfl,k2,x2,z2⟩;have k2:aC g2 h.size 256 (qp (s.take (i+1))):=by rw[List.take_add_one,hc,show (some c).toList=[c] from rfl,<-IC];simpa using k2
   refine af ?_;exact ih (i+1) ⟨hil,k2,aj.only eg x2 (Nat.le_refl _)⟩
 · have hie:i=s.length:=by omega
   rw[hie,List.take_length] at kg;refine af ?_;refine xp rfl (cj rfl kg.row) ?_;refine aO rfl (aZ rfl rfl kg (CK s)) ?_;rintro _ g2 ⟨rfl,k2,x2,z2⟩;refine af ?_;refine cE (cz rfl k2.row (rO cD)) ?_;exact⟨_,rfl,by simp[over,List.drop_eq_nil_of_le],aj.only eg x2 (Nat.le_refl _)⟩
theorem vu {l:By}(k:aC h b 256 (qp l)) (c:UInt8):au prog 193 #[ptr b,.int .u8 (c.toNat:Nat)] h (bK λr h'=>r= .bool (decide (c∈l))/\h'=h):=by
 refine bJ ?_;refine aQ ?_;refine cI ?_;refine aR ?_;refine cO ?_;refine aQ ?_;refine cI ?_
 iterate 3 refine aR ?_
 refine xp rfl (y8 rfl rfl c.toNat rfl c.toNat_lt) ?_;refine xp rfl (aA rfl (by simpa using k.cell (FC l c))) ?_;refine af ?_;refine aP ?_;exact⟨_,rfl,rfl,rfl⟩
theorem Cp {l:By}(k:aC h b 256 (qp l)) (s:By):au prog 180 #[.string (bs s),ptr b] h (bK λr h'=>r= .string (bs (s.dropWhile λc=>decide (c∈l)))/\h'=h):=by
 refine bJ ?_;refine af ?_;refine fK (σ:=By) (λt=>[(0,.string (bs t))]) (λt g=>g=h/\t.dropWhile (λc=>decide (c∈l))=s.dropWhile λc=>decide (c∈l)) (λt=>t.length) (s) ⟨rfl,rfl⟩ rfl ?_;rintro t g ⟨rfl,U⟩ Z;have J:=aJ t;rw[<-U];refine af ?_
 rcases t with _|⟨c,r⟩
 · refine dB rfl (by decide) ?_;refine af ?_;refine aP ?_;exact⟨_,rfl,rfl,rfl⟩
 · refine dc rfl (by rw[J];simp) ?_;refine af ?_;refine xp rfl (tq rfl rfl 0 rfl (eH (l:=c::r) (c:=c) rfl)) (xo rfl (aE rfl (vu k c)) ?_);rintro _ g1 ⟨rfl,Y⟩;subst Y;refine af ?_;refine jS (λI=>?_) (λI=>?_)
   · have I:¬c∈l:=by simpa using I
     refine af ?_;refine aP ?_;exact⟨_,rfl,by rw[List.dropWhile_cons,if_neg (by simpa using I)];rfl,rfl⟩
   · have I:c∈l:=by simpa using I
     refine af ?_;refine xp rfl (az.iN underlying9 rfl rfl 1 rfl (by rw[J];simp)) ?_;rw[qh,U];refine af ?_;exact Z r ⟨rfl,by rw[<-U,List.dropWhile_cons,if_pos (by simpa using I)]⟩ (by simp)
abbrev El:By:=[48,49,50,51,52,53,54,55,56,57]
theorem Lc (c:UInt8):decide (c∈El)=o8 c:=by
 have k:∀n:Fin 256,decide (UInt8.ofFin n∈El)=o8 (UInt8.ofFin n):=by unfold o8;decide +kernel
 exact k c.toFin
theorem Ei (s:By):au prog 159 #[.string (bs s),.string (bs El)] h (bK λr h'=>r= .string (bs (dz s))/\aj h h'):=by
 have hd:s.dropWhile (λc=>decide (c∈El))=dz s:=by unfold dz;congr 1;funext c;exact Lc c
 refine bJ ?_;refine aQ ?_;refine cI ?_;refine aR ?_;refine cO ?_
 iterate 2 refine aQ ?_
 refine dU [(12,.bool (decide (s=[])))] rfl ?_ ?_
 · refine af ?_;refine cX 9 (λg=>?_) (λg=>?_)
   · have g:=of_decide_eq_true g;refine af ?_;exact aD rfl ⟨ai rfl (by rw[decide_eq_true (dF g)]),sb rfl⟩
   · have g:=of_decide_eq_false g;refine af ?_;exact aD rfl ⟨ai rfl (by rw[show decide (s=[])=false from decide_eq_false (λq=>g (by rw[q];rfl))];rfl),sb rfl⟩
 · refine aN (λh0=>?_) (λh0=>?_)
   · refine af ?_;refine aP ?_;exact⟨_,rfl,by rw[h0];rfl,Ext.refl _ _⟩
   · iterate 3 refine aQ ?_
     refine dU [(21,.bool false)] rfl ?_ ?_
     · refine af ?_;refine RW.bw (d:=17) (b':=false) rfl (rfl) ?_;refine af ?_;exact aD rfl ⟨ai rfl (rfl),sb rfl⟩
     · refine dB rfl (by simp) ?_;refine af ?_;refine xo rfl (aE rfl (GI El (by decide) (by decide))) ?_;rintro _ h1 ⟨rfl,e1⟩;refine af ?_;refine xo rfl (cL) ?_;rintro _ h2 ⟨rfl,k2,e2,z2⟩;refine aO rfl (aZ rfl rfl k2 (CK El)) ?_;rintro _ h3 ⟨rfl,k3,x3,z3⟩;have k3:aC h3 h1.size 256 (qp El):=k3;refine af ?_;refine dc rfl (by simp) ?_;refine af ?_;refine xo rfl (aE rfl (Cp k3 s)) ?_;rintro _ h4 ⟨rfl,hh4⟩;refine af ?_;refine aP ?_;have e13:aj h1 h3:=aj.only e2 x3 (Nat.le_refl _);exact⟨_,rfl,by rw[hd];rfl,by rw[hh4];exact e1.trans e13⟩
theorem jP (s:By):au prog 140 #[.string (bs s)] h (bK λr h'=>r=packed [.string (bs (dz s)),.bool (fY s)]/\aj h h'):=by
 have J:=aJ s;have I:=aJ (dz s);refine bJ ?_;refine af ?_;refine xo rfl (aE rfl (Ei s)) ?_;rintro _ h1 ⟨rfl,U⟩;refine af ?_;refine aP ?_;exact⟨_,rfl,by unfold fY;rw[J,I];simp,U⟩
def yj (s:By):Bool:=match s with| []=>false|c::_=>decide (c=46)
theorem BN (s:By):au prog 141 #[.string (bs s),.string (bs [46])] h (bK λr h'=>r=packed [.string (bs (if yj s then s.drop 1 else s)),.bool (yj s)]/\h'=h):=by
 have k:au prog 141 #[.string (bs s),.string (bs [46])] h _:=au.FU λw=>nZ (bs s) (bs [46]) w
 refine k.ret λv h' ⟨h1,I⟩=>⟨?_,I⟩
 rw[h1]
 have e:Lib.hasPrefix (bs s).data.toList (bs [46]).data.toList=yj s:=by
  rw[iw,iw];unfold Lib.hasPrefix yj;cases s with
  |nil=>rfl
  |cons c r=>simp only[List.isPrefixOf,Bool.and_true];rw[Bool.eq_iff_iff];simp only[beq_iff_eq,decide_eq_true_iff];exact eq_comm
 rw[e];unfold Lib.trimPrefix;rw[e,iw,iw];rfl
def uU (s:By) (a b:UInt8):Bool:=match s with| []=>false|c::_=>decide (c=a) ||decide (c=b)
theorem JJ (s:By) (ok:Bool):tX s ok=if (ok && uU s 101 69)=true then (if uU (s.drop 1) 43 45=true then fY ((s.drop 1).drop 1) && decide (dz ((s.drop 1).drop 1)=[]) else fY (s.drop 1) && decide (dz (s.drop 1)=[])) else (ok && decide (s=[])):=by
 cases s with
 |nil=>simp[tX,uU]
 |cons c r =>
  unfold tX uU;simp only[Bool.and_eq_true,Bool.or_eq_true,decide_eq_true_eq,List.drop_succ_cons,List.drop_zero]
  by_cases h:ok=true/\(c=101\/c=69)
  · rw[if_pos h,if_pos h];cases r with
    |nil=>rfl
    |cons d r=>simp only[Bool.or_eq_true,decide_eq_true_eq,List.drop_succ_cons,List.drop_zero]
  · rw[if_neg h,if_neg h];simp
theorem I9 (s:By):KP s=if (fY s && yj (dz s))=true then tX (dz ((dz s).drop 1)) (fY ((dz s).drop 1)) else tX (dz s) (fY s):=by
 unfold KP;cases hd:dz s with
 |nil=>simp[yj,tX]
 |cons c r =>
  simp only[yj,Bool.and_eq_true,decide_eq_true_eq,List.drop_succ_cons,List.drop_zero]
theorem ne_nil (h:¬bs s=(⟨#[]⟩:ByteArray)):∃c r,s=c::r:=by
 cases s with
 |nil=>exact absurd rfl h
 |cons c r=>exact⟨c,r,rfl⟩
theorem eq_nil (h:bs s=(⟨#[]⟩:ByteArray)):s=[]:=dF (m:=[]) h
theorem oF (c:UInt8) (n:UInt8):decide ((c.toNat:Int)=(n.toNat:Int))=decide (c=n):=LL c n
theorem zw (s:By):au prog 125 #[.string (bs s)] h (bK λr h'=>r= .bool (KP s)/\aj h h'):=by
 rw[I9];refine bJ ?_;refine af ?_;refine xo rfl (aE rfl (jP s)) ?_;rintro _ h1 ⟨rfl,e1⟩;refine af ?_;refine xo rfl (aE rfl (BN (dz s))) ?_;rintro _ h2 ⟨rfl,hh2⟩;subst hh2
 iterate 5 refine aR ?_
 refine cO ?_;refine aQ ?_;refine dU [(19,.bool (fY s && yj (dz s)))] rfl ?_ ?_
 · refine af ?_;refine cX 17 (λa=>?_) (λa=>?_)
   · refine af ?_;exact aD rfl ⟨ai rfl (by rw[a];rfl),sb rfl⟩
   · refine af ?_;exact aD rfl ⟨ai rfl (by rw[a];rfl),sb rfl⟩
 · have fin:∀(s1:By) (ok1:Bool) (h':aq) (ρ':Env),Sub [(0,.string (bs s1)),(3,.bool ok1)] ρ'->aj h h'->(if (fY s && yj (dz s))=true then tX (dz ((dz s).drop 1)) (fY ((dz s).drop 1)) else tX (dz s) (fY s))=tX s1 ok1->G prog 125 f125 [.code [1,1,1]] ρ' h' (bK λr h'=>r= .bool (if (fY s && yj (dz s))=true then tX (dz ((dz s).drop 1)) (fY ((dz s).drop 1)) else tX (dz s) (fY s))/\aj h h'):=by
    rintro s1 ok1 h3 ρ' hsub e3 hnum;rw[hnum,JJ];have hbz:=aJ s1;refine G.sub (ρ':=[(0,.string (bs s1)),(3,.bool ok1)]) hsub ?_
    iterate 2 refine aQ ?_
    refine dU [(39,.bool (ok1 && uU s1 101 69))] rfl ?_ ?_
    · refine af ?_;refine cX 26 (λa=>?_) (λa=>?_)
      · rw[a,Bool.true_and];refine af ?_;refine cX 30 (λb=>?_) (λb=>?_)
        · obtain⟨c,r,rfl⟩:=ne_nil (s:=s1) (by simpa using b);refine af ?_;refine xp rfl (tq rfl rfl 0 rfl (eH (l:=c::r) rfl)) ?_;refine af ?_;refine cX 34 (λd=>?_) (λd=>?_)
          · refine af ?_;exact aD rfl ⟨ai rfl (by show _=(decide (c=101) ||decide (c=69));rw[<-oF c 101,<-oF c 69,show (((101:UInt8).toNat:Nat):Int)=101 from rfl,d];rfl),sb rfl⟩
          · refine af ?_;refine xp rfl (tq rfl rfl 0 rfl (eH (l:=c::r) rfl)) ?_;refine af ?_;exact aD rfl ⟨ai rfl (by show _=(decide (c=101) ||decide (c=69));rw[<-oF c 101,<-oF c 69,show (((101:UInt8).toNat:Nat):Int)=101 from rfl,d];rfl),sb rfl⟩
        · have hb:s1=[]:=eq_nil (by simpa using b);refine af ?_;exact aD rfl ⟨ai rfl (by rw[hb];rfl),sb rfl⟩
      · rw[a,Bool.false_and];refine af ?_;exact aD rfl ⟨ai rfl (rfl),sb rfl⟩
    · refine jS (λhq=>?_) (λhq=>?_)
      · rw[if_pos hq]
        have hne:1<=s1.length:=by
         cases s1 with
         |nil=>simp[uU] at hq
         |cons c r=>simp
        refine af ?_;refine xp rfl (az.iN underlying9 rfl rfl 1 rfl (by omega)) ?_;rw[qh];have hbz2:=aJ (s1.drop 1);refine aR ?_;refine cO ?_
        iterate 2 refine aQ ?_
        refine dU [(53,.bool (uU (s1.drop 1) 43 45))] rfl ?_ ?_
        · refine af ?_;refine cX 44 (λb=>?_) (λb=>?_)
          · obtain⟨c,r,hcr⟩:=ne_nil (s:=s1.drop 1) (by simpa using b);rw[hcr];refine af ?_;refine xp rfl (tq rfl rfl 0 rfl (eH (l:=c::r) rfl)) ?_;refine af ?_;refine cX 48 (λd=>?_) (λd=>?_)
            · refine af ?_;exact aD rfl ⟨ai rfl (by show _=(decide (c=43) ||decide (c=45));rw[<-oF c 43,<-oF c 45,show (((43:UInt8).toNat:Nat):Int)=43 from rfl,d];rfl),sb rfl⟩
            · refine af ?_;refine xp rfl (tq rfl rfl 0 rfl (eH (l:=c::r) rfl)) ?_;refine af ?_;exact aD rfl ⟨ai rfl (by show _=(decide (c=43) ||decide (c=45));rw[<-oF c 43,<-oF c 45,show (((43:UInt8).toNat:Nat):Int)=43 from rfl,d];rfl),sb rfl⟩
          · have hb:s1.drop 1=[]:=eq_nil (by simpa using b);refine af ?_;exact aD rfl ⟨ai rfl (by rw[hb];rfl),sb rfl⟩
        · refine jS (λhg=>?_) (λhg=>?_)
          · rw[if_pos hg]
            have hne2:1<=(s1.drop 1).length:=by
             cases hs:s1.drop 1 with
             |nil=>rw[hs] at hg;simp[uU] at hg
             |cons c r=>simp
            refine af ?_;refine xp rfl (az.iN underlying9 rfl rfl 1 rfl (by omega)) ?_;rw[qh];refine af ?_;refine xo rfl (aE rfl (jP ((s1.drop 1).drop 1))) ?_;rintro _ h4 ⟨rfl,e4⟩
            iterate 5 refine aR ?_
            refine cO ?_;refine aQ ?_;refine dU [(2,.bool (fY ((s1.drop 1).drop 1) && decide (dz ((s1.drop 1).drop 1)=[])))] rfl ?_ ?_
            · refine af ?_;refine cX 62 (λb=>?_) (λb=>?_)
              · refine af ?_;exact aD rfl ⟨ai rfl (by rw[b];exact BP _),sb rfl⟩
              · refine af ?_;exact aD rfl ⟨ai rfl (by rw[b];rfl),sb rfl⟩
            · refine aP ?_;exact⟨_,rfl,rfl,e3.trans e4⟩
          · rw[if_neg (by rw[hg];decide)];refine af ?_;refine xo rfl (aE rfl (jP (s1.drop 1))) ?_;rintro _ h4 ⟨rfl,e4⟩
            iterate 5 refine aR ?_
            refine cO ?_;refine aQ ?_;refine dU [(2,.bool (fY (s1.drop 1) && decide (dz (s1.drop 1)=[])))] rfl ?_ ?_
            · refine af ?_;refine cX 62 (λb=>?_) (λb=>?_)
              · refine af ?_;exact aD rfl ⟨ai rfl (by rw[b];exact BP _),sb rfl⟩
              · refine af ?_;exact aD rfl ⟨ai rfl (by rw[b];rfl),sb rfl⟩
            · refine aP ?_;exact⟨_,rfl,rfl,e3.trans e4⟩
      · rw[if_neg (by rw[hq];decide)]
        iterate 2 refine aQ ?_
        refine dU [(2,.bool (ok1 && decide (s1=[])))] rfl ?_ ?_
        · refine af ?_;refine cX 62 (λb=>?_) (λb=>?_)
          · refine af ?_;exact aD rfl ⟨ai rfl (by rw[b];exact BP _),sb rfl⟩
          · refine af ?_;exact aD rfl ⟨ai rfl (by rw[b];rfl),sb rfl⟩
        · refine aP ?_;exact⟨_,rfl,rfl,e3⟩
   refine jS (λhp=>?_) (λhp=>?_)
   · have hp2:yj (dz s)=true:=by rw[Bool.and_eq_true] at hp;exact hp.2
     rw[if_pos hp2];refine af ?_;refine xo rfl (aE rfl (jP ((dz s).drop 1))) ?_;rintro _ h4 ⟨rfl,e4⟩
     iterate 5 refine aR ?_
     refine cO ?_;exact fin _ _ _ _ (by exact sb rfl) (e1.trans e4) (if_pos hp)
   · refine aQ ?_;exact fin _ _ _ _ (by exact sb rfl) e1 (if_neg (by rw[hp];decide))
end
end Go.Proofs.YtnjahnbpnpkmhaaGreatDoor
namespace Go.Proofs.YtnjahnbpnpkmhaaGreatDoor
open Go
mutual
def Tr.wt:Tr->Nat
  |.mk _ t l=>2*t.length+20+oE l
def oE:List Tr->Nat
  | []=>0
  |x::l=>x.wt+oE l
end
theorem Fv {l:List Tr}{x:Tr}(h:x∈l):x.wt<=oE l:=by
  induction l with
  |nil=>cases h
  |cons a l I =>
    rw[oE]
    rcases List.mem_cons.1 h with rfl|h
    · omega
    · have:=I h;omega
theorem qO {k:Int}{t:By}{l:List Tr}{x:Tr}(h:x∈l):x.wt+20<=(Tr.mk k t l).wt:=by
  rw[Tr.wt];have:=Fv h;omega
theorem Fu (k:Int) (t:By) (l:List Tr):2*t.length+20<=(Tr.mk k t l).wt:=by rw[Tr.wt];omega
def vq (l:List By):Nat:=(l.map List.length).sum
theorem xN:∀l:List By,(iu l).length<=vq l+2*l.length
  | []=>by simp[iu]
  | [x]=>by simp[iu,vq]
  |x::y::l=>by
    have:=xN (y::l);rw[iu];simp only[List.length_append,List.length_cons,List.length_nil,vq,List.map_cons,List.sum_cons] at *;omega
theorem Dw (l:List By):(l.getD 0 []).length+(l.getD 1 []).length+(l.getD 2 []).length<=vq l:=by
  match l with
  | []=>simp
  | [a]=>simp[vq]
  | [a,b]=>simp[vq]
  |a::b::c::l=>simp[vq];omega
theorem GU (c:UInt8):(gi c).length<=2:=by unfold gi;split<;>simp
theorem GS (s:By):(A9 s).length<=2*s.length+2:=by
  unfold A9;simp only[List.length_cons,List.length_append,List.length_nil]
  have:(s.flatMap gi).length<=2*s.length:=by
    induction s with
    |nil=>simp
    |cons c s ih=>rw[List.flatMap_cons,List.length_append,List.length_cons];have:=GU c;omega
  omega
theorem IB (k:Int) (t:By) (l:List By):(wA k t l).length<=2*t.length+18+2*l.length+vq l:=by
  have h1:=GS t;have h2:=Dw l;have h3:=xN l;unfold wA vh
  repeat' split
  all_goals ((try simp only[List.length_append,List.length_cons,List.length_nil]);omega)
theorem J9 (l:List By):(vh l).length<=18+vq l:=by
  have h2:=Dw l;unfold vh;simp only[List.length_append,List.length_cons,List.length_nil];omega
theorem nr:∀(l:List Tr) (s:Bool) (i:Nat),(ic s i l).length=l.length
  | [],_,_=>by rw[ic];rfl
  |_::l,s,i=>by rw[ic,List.length_cons,nr l];rfl
mutual
theorem ke:∀(x:Tr) (b:Bool),(bG b x).length+2<=x.wt
  |.mk k t l,b=>by
    have h1:=oL l (decide (k=6)) 0;have h2:=IB k t (ic (decide (k=6)) 0 l);have h3:=J9 (ic (decide (k=6)) 0 l);have h4:=nr l (decide (k=6)) 0;rw[bG,Tr.wt];split<;>omega
theorem oL:∀(l:List Tr) (s:Bool) (i:Nat),vq (ic s i l)+2*l.length<=oE l
  | [],_,_=>by rw[ic];simp[vq,oE]
  |x::l,s,i=>by
    have h1:=ke x (s && decide (i=2));have h2:=oL l s (i+1);rw[ic,oE];simp only[vq,List.map_cons,List.sum_cons,List.length_cons] at *;omega
end
def FR (j:Nat) (c:UInt8):Bool:=isLet c ||(decide (j≠0) && o8 c)
def C4 (s:By):Bool:=match s with| []=>false|c::r=>isLet c && r.all λc=>isLet c ||o8 c
theorem zX (word:By->Bool) (s:By):qY word s=(C4 s && !word s):=by cases s<;>rfl
theorem zW (s:By):C4 s=true↔s≠[]/\∀j c,s[j]? =some c->FR j c=true:=by
  cases s with
  |nil=>simp[C4]
  |cons c r =>
    simp only[C4,Bool.and_eq_true,List.all_eq_true];constructor
    · intro ⟨h1,U⟩;refine⟨by simp,λj d I=>?_⟩;cases j with
      |zero=>simp at I;subst I;unfold FR;rw[h1];rfl
      |succ j =>
        have:=U d (List.mem_of_getElem? (by simpa using I));unfold FR;simpa using this
    · intro ⟨_,h⟩;refine⟨by simpa [FR] using h 0 c rfl,λd I=>?_⟩;obtain⟨j,J⟩:=List.getElem?_of_mem I;simpa [FR] using h (j+1) d (by simpa using J)
theorem Jf (word:By->Bool){s:By}{j:Nat}{c:UInt8}(h:s[j]? =some c) (hc:FR j c=false):qY word s=false:=by
  rw[zX]
  have:¬C4 s=true:=λq=>by
    have:=((zW s).1 q).2 j c h;rw[hc] at this;cases this
  rw[Bool.eq_false_iff.2 this];rfl
theorem G4 (word:By->Bool){s:By}(h0:s≠[]) (h:∀j c,s[j]? =some c->FR j c=true):qY word s= !word s:=by
  rw[zX,(zW s).2 ⟨h0,h⟩,Bool.true_and]
theorem G3 (word:By->Bool):qY word []=false:=rfl
theorem Hl (c:UInt8):isLet c=decide ((97<=c.toNat/\c.toNat<=122)\/(65<=c.toNat/\c.toNat<=90)\/c.toNat=95):=by
  have k:∀n:Fin 256,isLet (UInt8.ofFin n)=decide ((97<=(UInt8.ofFin n).toNat/\(UInt8.ofFin n).toNat<=122)\/(65<=(UInt8.ofFin n).toNat/\(UInt8.ofFin n).toNat<=90)\/(UInt8.ofFin n).toNat=95):=by unfold isLet;decide +kernel
  exact k c.toFin
theorem Ho (c:UInt8):o8 c=decide (48<=c.toNat/\c.toNat<=57):=by
  have k:∀n:Fin 256,o8 (UInt8.ofFin n)=decide (48<=(UInt8.ofFin n).toNat/\(UInt8.ofFin n).toNat<=57):=by unfold o8;decide +kernel
  exact k c.toFin
end Go.Proofs.YtnjahnbpnpkmhaaGreatDoor
namespace Go.Proofs.YtnjahnbpnpkmhaaGreatDoor
open Go.Proofs.Tryz
open Go Go.Lw
set_option maxRecDepth 20000 set_option maxHeartbeats 4000000
section
variable {h:aq}{x:Tr}{O:Nat->Prop}{v:Value}{α:Type}
structure Gl (h:aq):Prop where
 lx:D9 h
 esc:qN h
 una:∃v,cellAt h ⟨2,0,none⟩=some v/\aL oA h (λ_=>False) v Ig
 bin:∃v,cellAt h ⟨3,0,none⟩=some v/\aL oA h (λ_=>False) v JY
theorem Gl.ah {h h':aq}(k:Gl h) (e:aj h h'):Gl h':=by
 obtain⟨h1,Z,⟨v,Y,U⟩,w,J,I⟩:=k;exact⟨h1.ah e,Z.ah e,⟨v,e.cell (λk=>k) Y,U.mv (Mv.ah e)⟩,⟨w,e.cell (λk=>k) J,I.mv (Mv.ah e)⟩⟩
theorem zf (c:UInt8):au prog 142 #[.int .u8 (c.toNat:Nat)] h (bK λr h'=>r= .bool (isLet c)/\h'=h):=by
 rw[Hl];refine bJ ?_;refine aQ ?_;refine cI ?_;refine aR ?_;refine cO ?_;refine aQ ?_;refine dU [(2,.bool (decide ((97<=c.toNat/\c.toNat<=122)\/(65<=c.toNat/\c.toNat<=90)\/c.toNat=95)))] rfl ?_ ?_
 · refine af ?_;refine cX 5 (λa=>?_) (λa=>?_)
   · have a:=of_decide_eq_true a;refine af ?_;refine cX 9 (λb=>?_) (λb=>?_)
     · have b:=of_decide_eq_true b;refine af ?_;exact aD rfl ⟨ai rfl (by rw[decide_eq_true (by omega)]),sb rfl⟩
     · have b:=of_decide_eq_false b;refine af ?_;refine cX 12 (λd=>?_) (λd=>?_)
       · have d:=of_decide_eq_true d;refine af ?_;refine cX 17 (λe=>?_) (λe=>?_)
         · have e:=of_decide_eq_true e;refine af ?_;exact aD rfl ⟨ai rfl (by rw[decide_eq_true (by omega)]),sb rfl⟩
         · have e:=of_decide_eq_false e;refine af ?_;exact aD rfl ⟨ai rfl (by rw[decide_eq_decide];omega),sb rfl⟩
       · have d:=of_decide_eq_false d
         iterate 2 refine Ks ?_
         iterate 7 refine aR ?_
         exact aD rfl ⟨ai rfl (by rw[decide_eq_decide];omega),sb rfl⟩
   · have a:=of_decide_eq_false a
     iterate 2 refine Ks ?_
     iterate 5 refine aR ?_
     refine pR (d:=12) rfl (λd=>?_) (λd=>?_)
     · have d:=of_decide_eq_true d;refine af ?_;refine cX 17 (λe=>?_) (λe=>?_)
       · have e:=of_decide_eq_true e;refine af ?_;exact aD rfl ⟨ai rfl (by rw[decide_eq_true (by omega)]),sb rfl⟩
       · have e:=of_decide_eq_false e;refine af ?_;exact aD rfl ⟨ai rfl (by rw[decide_eq_decide];omega),sb rfl⟩
     · have d:=of_decide_eq_false d;refine af ?_;exact aD rfl ⟨ai rfl (by rw[decide_eq_decide];omega),sb rfl⟩
 · refine aP ?_;exact⟨_,rfl,rfl,rfl⟩
theorem AK (c:UInt8):au prog 143 #[.int .u8 (c.toNat:Nat)] h (bK λr h'=>r= .bool (o8 c)/\h'=h):=by
 rw[Ho];refine bJ ?_;refine aQ ?_;refine cI ?_;refine aR ?_;refine cO ?_;refine aQ ?_;refine dU [(2,.bool (decide (48<=c.toNat/\c.toNat<=57)))] rfl ?_ ?_
 · refine af ?_;refine cX 5 (λa=>?_) (λa=>?_)
   · have a:=of_decide_eq_true a;refine af ?_;exact aD rfl ⟨ai rfl (by rw[decide_eq_decide];omega),sb rfl⟩
   · have a:=of_decide_eq_false a;refine af ?_;exact aD rfl ⟨ai rfl (by rw[decide_eq_false (by omega)]),sb rfl⟩
 · refine aP ?_;exact⟨_,rfl,rfl,rfl⟩
theorem oU (hg:D9 h) (s:By) (hs:s.length<=1000000):au prog 126 #[.string (bs s)] h (bK λr h'=>r= .bool (qY cY s)/\h'=h):=by
 have hbz:=aJ s;refine bJ ?_;refine af ?_;refine fK (σ:=Nat) (λi=>[(6,.int .i64 (i:Nat))]) (λi g=>g=h/\i<=s.length/\∀j c,j<i->s[j]? =some c->FR j c=true) (λi=>s.length-i) (0) ⟨rfl,Nat.zero_le _,λj c q=>by omega⟩ rfl ?_;rintro i g ⟨rfl,hi,hin⟩ ih;refine af ?_;refine aN (λhlt=>?_) (λhlt=>?_)
 · have hil:i<s.length:=by omega
   obtain⟨c,hc⟩:∃c,s[i]? =some c:=⟨_,List.getElem?_eq_getElem hil⟩
   iterate 4 refine aQ ?_
   refine cI ?_
   iterate 2 refine aR ?_
   refine cO ?_;refine aQ ?_;refine dU [(24,.bool (!FR i c))] rfl ?_ ?_
   · refine af ?_;refine xp rfl (tq rfl rfl i rfl (eH hc)) ?_;refine xo rfl (aE rfl (zf c)) ?_;rintro _ g1 ⟨rfl,hg1⟩;subst hg1;refine af ?_;refine cX 14 (λa=>?_) (λa=>?_)
     · have a:isLet c=false:=by simpa using a
       refine af ?_;refine cX 17 (λz=>?_) (λz=>?_)
       · have z:=of_decide_eq_true z;refine af ?_;exact aD rfl ⟨ai rfl (by unfold FR;rw[a,decide_eq_false (by omega)];rfl),sb rfl⟩
       · have z:=of_decide_eq_false z;refine af ?_;refine xp rfl (tq rfl rfl i rfl (eH hc)) ?_;refine xo rfl (aE rfl (AK c)) ?_;rintro _ g1 ⟨rfl,hg1⟩;subst hg1;refine af ?_;exact aD rfl ⟨ai rfl (by unfold FR;rw[a,decide_eq_true (show i≠0 by omega)];rfl),sb rfl⟩
     · have a:isLet c=true:=by simpa using a
       refine af ?_;exact aD rfl ⟨ai rfl (by unfold FR;rw[a];rfl),sb rfl⟩
   · refine jS (λhb=>?_) (λhb=>?_)
     · have hb:FR i c=false:=by simpa using hb
       refine af ?_;refine aP ?_;exact⟨_,rfl,by rw[Jf cY hc hb];rfl,rfl⟩
     · have hb:FR i c=true:=by simpa using hb
       refine af ?_;exact ih (i+1) ⟨rfl,hil,λj d hj hd=>(Nat.lt_succ_iff_lt_or_eq.1 hj).elim (λq=>hin j d q hd) (λq=>by subst q;rw[hc] at hd;cases hd;exact hb)⟩
 · iterate 2 refine aQ ?_
   refine dU [(2,.bool (qY cY s))] rfl ?_ ?_
   · refine af ?_;refine cX 28 (λa=>?_) (λa=>?_)
     · have h0:s≠[]:=λq=>by rw[q] at a;exact of_decide_eq_true a rfl
       refine af ?_;refine xo rfl (aE rfl (wg hg s hs)) ?_;rintro _ g1 ⟨rfl,hg1⟩;subst hg1;refine af ?_;exact aD rfl ⟨ai rfl (by rw[G4 cY h0 (λj c hj=>hin j c (by have:=(List.getElem?_eq_some_iff.1 hj).1;omega) hj)]),sb rfl⟩
     · have h0:s=[]:=by simpa using eq_nil (s:=s) (by simpa using a)
       refine af ?_;exact aD rfl ⟨ai rfl (by rw[h0,G3]),sb rfl⟩
   · refine aP ?_;exact⟨_,rfl,rfl,rfl⟩
theorem EO (k:Int):au prog 124 #[.int .i64 k] h (bK λr h'=>r=packed [.int .i64 ((fB k).1:Nat),.int .i64 ((fB k).2:Nat)]/\h'=h):=by
 refine bJ ?_;refine af ?_;refine aN (λY=>?_) (λY=>?_)
 · refine af ?_;refine dc rfl (by simp[Y]) ?_;refine af ?_;refine aP ?_;exact⟨_,rfl,by unfold fB;rw[if_pos (.inl Y)];rfl,rfl⟩
 · refine af ?_;refine aN (λc8=>?_) (λc8=>?_)
   · refine af ?_;refine aP ?_;exact⟨_,rfl,by unfold fB;rw[if_pos (.inr c8)];rfl,rfl⟩
   · refine af ?_;refine aN (λc5=>?_) (λc5=>?_)
     · refine af ?_;refine dc rfl (by simp[c5]) ?_;refine af ?_;refine aP ?_;exact⟨_,rfl,by unfold fB;rw[if_neg (by omega),if_pos (.inl c5)];rfl,rfl⟩
     · refine af ?_;refine aN (λZ=>?_) (λZ=>?_)
       · refine af ?_;refine aP ?_;exact⟨_,rfl,by unfold fB;rw[if_neg (by omega),if_pos (.inr Z)];rfl,rfl⟩
       · refine af ?_;refine aN (λJ=>?_) (λJ=>?_)
         · refine af ?_;refine aP ?_;exact⟨_,rfl,by unfold fB;rw[if_neg (by omega),if_neg (by omega),if_pos J];rfl,rfl⟩
         · refine af ?_;refine aN (λU=>?_) (λU=>?_)
           · refine af ?_;refine aP ?_;exact⟨_,rfl,by unfold fB;rw[if_neg (by omega),if_neg (by omega),if_neg J,if_pos U];rfl,rfl⟩
           · refine af ?_;refine aN (λI=>?_) (λI=>?_)
             · refine af ?_;refine aP ?_;exact⟨_,rfl,by unfold fB;rw[if_neg (by omega),if_neg (by omega),if_neg J,if_neg U,if_pos I];rfl,rfl⟩
             · refine af ?_;refine aP ?_;exact⟨_,rfl,by unfold fB;rw[if_neg (by omega),if_neg (by omega),if_neg J,if_neg U,if_neg I];rfl,rfl⟩
def bounds (k:Int) (n:Nat):Bool:=decide ((0<=k/\k<=10)/\(fB k).1<=n/\n<=(fB k).2)
theorem wB (word:By->Bool) (k:Int) (t:By) (n:Nat):qU word k t n=(bounds k n && jX word k t):=by
 unfold qU bounds;rw[Bool.eq_iff_iff];simp only[Bool.and_eq_true,decide_eq_true_eq];constructor
 · intro ⟨a,b,c,d,e⟩;exact⟨⟨⟨c,d⟩,a,b⟩,e⟩
 · intro ⟨⟨⟨c,d⟩,a,b⟩,e⟩;exact⟨a,b,c,d,e⟩
abbrev rR (k:Int) (t:By) (a:Option Addr) (n c:Nat):List Value:=[.int .i64 k,.string (bs t),.slice a n c]
theorem CI (hg:Gl h) (k:Int) (t:By) (a:Option Addr) (n c:Nat) (ht:t.length<=1000000) :
 au prog 94 #[.agg #[.int .i64 k,.string (bs t),.slice a n c]] h (bK λr h'=>r= .bool (qU cY k t n)/\aj h h'):=by
 rw[wB];have hbz:=aJ t;refine bJ ?_;refine af ?_;refine xo rfl (mh) ?_;rintro _ h1 ⟨rfl,k1,e1,z1⟩;have k1:aC h1 h.size 41 (rR k t a n c):=k1;refine af ?_;refine xp rfl (aA rfl (k1.cell (i:=0) rfl)) ?_;refine xo rfl (aE rfl (EO k)) ?_;rintro _ h2 ⟨rfl,hh2⟩;subst hh2
 iterate 5 refine aR ?_
 refine cO ?_
 iterate 2 refine aQ ?_
 refine dU [(32,.bool (!bounds k n))] rfl ?_ ?_
 · refine af ?_;refine xp rfl (aA rfl (k1.cell (i:=0) rfl)) ?_;refine af ?_;refine cX 14 (λa=>?_) (λa=>?_)
   · have a:=of_decide_eq_true a;refine af ?_;exact aD rfl ⟨ai rfl (by unfold bounds;rw[decide_eq_false (by omega)];rfl),sb rfl⟩
   · have a:=of_decide_eq_false a;refine af ?_;refine xp rfl (aA rfl (k1.cell (i:=0) rfl)) ?_;refine af ?_;refine cX 19 (λb=>?_) (λb=>?_)
     · have b:=of_decide_eq_true b;refine af ?_;exact aD rfl ⟨ai rfl (by unfold bounds;rw[decide_eq_false (by omega)];rfl),sb rfl⟩
     · have b:=of_decide_eq_false b;refine af ?_;refine xp rfl (aA rfl (k1.cell (i:=2) rfl)) ?_;refine af ?_;refine cX 26 (λd=>?_) (λd=>?_)
       · have d:=of_decide_eq_true d;refine af ?_;exact aD rfl ⟨ai rfl (by unfold bounds;rw[decide_eq_false (by omega)];rfl),sb rfl⟩
       · have d:=of_decide_eq_false d;refine af ?_;refine xp rfl (aA rfl (k1.cell (i:=2) rfl)) ?_;refine af ?_;exact aD rfl ⟨ai rfl (by unfold bounds;rw[<-decide_not,decide_eq_decide];omega),sb rfl⟩
 · refine jS (λhb=>?_) (λhb=>?_)
   · have hb:bounds k n=false:=by simpa using hb
     rw[hb];refine af ?_;refine aP ?_;exact⟨_,rfl,rfl,e1⟩
   · have hb:bounds k n=true:=by simpa using hb
     rw[hb,Bool.true_and];refine af ?_;refine xp rfl (aA rfl (k1.cell (i:=0) rfl)) ?_;refine af ?_;refine aN (λc0=>?_) (λc0=>?_)
     · refine af ?_;refine xp rfl (aA rfl (k1.cell (i:=1) rfl)) ?_;refine xo rfl (aE rfl (zw t)) ?_;rintro _ h3 ⟨rfl,e3⟩;refine af ?_;refine aP ?_;exact⟨_,rfl,by unfold jX;rw[if_pos c0];rfl,e1.trans e3⟩
     · refine af ?_;refine aN (λc1=>?_) (λc1=>?_)
       · refine af ?_;refine xp rfl (aA rfl (k1.cell (i:=1) rfl)) ?_;refine af ?_;refine aP ?_;exact⟨_,rfl,by unfold jX;rw[if_neg c0,if_pos c1];show Value.bool _=_;rw[hbz];simp only[Value.bool.injEq,decide_eq_decide];omega,e1⟩
       · refine af ?_;refine aN (λc2=>?_) (λc2=>?_)
         · refine aQ ?_;refine dU [(2,.bool (decide (t=gZ) ||decide (t=gC)))] rfl ?_ ?_
           · refine af ?_;refine xp rfl (aA rfl (k1.cell (i:=1) rfl)) ?_;refine af ?_;refine cX 51 (λg=>?_) (λg=>?_)
             · have g:t=gZ:=dF (m:=gZ) (of_decide_eq_true g);refine af ?_;exact aD rfl ⟨ai rfl (by rw[decide_eq_true g];rfl),sb rfl⟩
             · have g:¬t=gZ:=λq=>of_decide_eq_false g (by rw[q];rfl)
               refine af ?_;refine xp rfl (aA rfl (k1.cell (i:=1) rfl)) ?_;refine af ?_;exact aD rfl ⟨ai rfl (by rw[decide_eq_false g,Bool.false_or];exact JX t gC),sb rfl⟩
           · refine aP ?_;exact⟨_,rfl,by unfold jX;rw[if_neg c0,if_neg c1,if_pos c2];rfl,e1⟩
         · refine af ?_;refine aN (λc3=>?_) (λc3=>?_)
           · refine af ?_;refine dc rfl (by simp[c3]) ?_;refine af ?_;refine xp rfl (aA rfl (k1.cell (i:=1) rfl)) ?_;refine xo rfl (aE rfl (oU (hg.ah e1).lx t ht)) ?_;rintro _ h3 ⟨rfl,hh3⟩;refine af ?_;refine aP ?_;exact⟨_,rfl,by unfold jX;rw[if_neg c0,if_neg c1,if_neg c2,if_pos (.inl c3)];rfl,by rw[hh3];exact e1⟩
           · refine af ?_;refine aN (λc7=>?_) (λc7=>?_)
             · refine af ?_;refine dc rfl (by simp[c7]) ?_;refine af ?_;refine xp rfl (aA rfl (k1.cell (i:=1) rfl)) ?_;refine xo rfl (aE rfl (oU (hg.ah e1).lx t ht)) ?_;rintro _ h3 ⟨rfl,hh3⟩;refine af ?_;refine aP ?_;exact⟨_,rfl,by unfold jX;rw[if_neg c0,if_neg c1,if_neg c2,if_pos (.inr (.inl c7))];rfl,by rw[hh3];exact e1⟩
             · refine af ?_;refine aN (λc8=>?_) (λc8=>?_)
               · refine af ?_;refine xp rfl (aA rfl (k1.cell (i:=1) rfl)) ?_;refine xo rfl (aE rfl (oU (hg.ah e1).lx t ht)) ?_;rintro _ h3 ⟨rfl,hh3⟩;refine af ?_;refine aP ?_;exact⟨_,rfl,by unfold jX;rw[if_neg c0,if_neg c1,if_neg c2,if_pos (.inr (.inr c8))];rfl,by rw[hh3];exact e1⟩
               · refine af ?_;refine aN (λc4=>?_) (λc4=>?_)
                 · obtain⟨uv,hu1,hu2⟩:=(hg.ah e1).una;refine af ?_;refine xp rfl (aA rfl hu1) ?_;refine af ?_;refine xp rfl (aA rfl (k1.cell (i:=1) rfl)) ?_;refine xo rfl (aE rfl (rz hu2 t)) ?_;rintro _ h3 ⟨rfl,hh3⟩;refine af ?_;refine aP ?_;exact⟨_,rfl,by unfold jX;rw[if_neg c0,if_neg c1,if_neg c2,if_neg (by omega),if_pos c4];rfl,by rw[hh3];exact e1⟩
                 · refine af ?_;refine aN (λc5=>?_) (λc5=>?_)
                   · obtain⟨uv,hu1,hu2⟩:=(hg.ah e1).bin;refine af ?_;refine xp rfl (aA rfl hu1) ?_;refine af ?_;refine xp rfl (aA rfl (k1.cell (i:=1) rfl)) ?_;refine xo rfl (aE rfl (rz hu2 t)) ?_;rintro _ h3 ⟨rfl,hh3⟩;refine af ?_;refine aP ?_;exact⟨_,rfl,by unfold jX;rw[if_neg c0,if_neg c1,if_neg c2,if_neg (by omega),if_neg c4,if_pos c5];rfl,by rw[hh3];exact e1⟩
                   · refine af ?_;refine xp rfl (aA rfl (k1.cell (i:=1) rfl)) ?_;refine af ?_;refine aP ?_;exact⟨_,rfl,by unfold jX;rw[if_neg c0,if_neg c1,if_neg c2,if_neg (by omega),if_neg c4,if_neg c5];show Value.bool _=_;rw[<-BP],e1⟩
def alone (x:Tr):Bool:=decide (x.kind≠7) ||decide (x.kids.length=2)
def JE (k:Int) (i:Nat) (x:Tr):Bool:=decide (k≠6) ||(decide (i=0) ||(decide (x.kind=10) ||(decide (i≠1) && decide (x.kind=6))))
theorem Jw (k:Int) (i:Nat) (x:Tr):Jx k i x=((decide (k=10) ||alone x) && JE k i x):=by cases x;rfl
theorem JD (k:Int) (i:Nat) (x:Tr):(!JE k i x)=decide (k=6/\0<i/\x.kind≠10/\(i=1\/x.kind≠6)):=by
 unfold JE;rw[Bool.eq_iff_iff,Bool.not_eq_true',Bool.eq_false_iff];simp only[ne_eq,Bool.or_eq_true,Bool.and_eq_true,decide_eq_true_eq];omega
def Mj (x:Tr):Prop:=∀(h:aq) (O:Nat->Prop) (v:Value),Gl h->dK h O v x->au prog 53 #[v] h (bK λr h'=>r= .bool (eW cY x)/\aj h h')
theorem Cm (hs:Mj x) (hg:Gl h) (hv:dK h O v x):au prog 95 #[v] h (bK λr h'=>r= .bool (eW cY x && alone x)/\aj h h'):=by
 cases x with
 |mk k t l =>
  obtain⟨w,rfl,hw⟩:=id hv.open;obtain⟨a,n,c,rfl,hws⟩:=id hw.open;have hn:l.length=n:=hws.len;refine bJ ?_;refine af ?_;refine xo rfl (mh) ?_;rintro _ h1 ⟨rfl,k1,e1,z1⟩;have k1:aC h1 h.size 41 (rR k t a n c):=k1;have hcall:=hs h1 O _ (hg.ah e1) (hv.mv (Mv.ah e1));refine aR ?_;refine cO ?_;refine aQ ?_;refine H9 (fun(u:Unit) (h':aq)=>aj h1 h') (fun(u:Unit)=>[(2,.bool (eW cY (.mk k t l) && alone (.mk k t l)))]) rfl ?_ ?_
  · refine xp rfl (cj rfl k1.row) ?_;refine xo rfl (aE rfl hcall) ?_;rintro _ h2 ⟨rfl,e2⟩;refine af ?_;refine cX 5 (λa=>?_) (λa=>?_)
    · refine af ?_;refine xp rfl (aA rfl ((k1.ah e2).cell (i:=0) rfl)) ?_;refine af ?_;refine cX 9 (λb=>?_) (λb=>?_)
      · have b:¬k=7:=by simpa using b
        refine af ?_;exact lN () e2 ⟨ai rfl (by rw[a];unfold alone;rw[decide_eq_true (show Tr.kind (.mk k t l)≠7 from b)];rfl),sb rfl⟩
      · have b:k=7:=by simpa using b
        refine af ?_;refine xp rfl (aA rfl ((k1.ah e2).cell (i:=2) rfl)) ?_;refine af ?_;exact lN () e2 ⟨ai rfl (by rw[a,Bool.true_and];unfold alone;rw[decide_eq_false (show ¬Tr.kind (.mk k t l)≠7 from λq=>q b),Bool.false_or,<-hn,decide_eq_decide];show _↔l.length=2;omega),sb rfl⟩
    · refine af ?_;exact lN () e2 ⟨ai rfl (by rw[a];rfl),sb rfl⟩
  · rintro u h2 e2;refine aP ?_;exact⟨_,rfl,rfl,e1.trans e2⟩
theorem uC (word:By->Bool) (k:Int) (i:Nat) (x:Tr) (l:List Tr):nh word k i (x::l)=((eW word x && Jx k i x) && nh word k (i+1) l):=by rw[nh]
theorem tu (word:By->Bool) (k:Int) (t:By) (l:List Tr):eW word (.mk k t l)=(qU word k t l.length && nh word k 0 l):=by rw[eW]
theorem Em:∀(d:Nat) (x:Tr),x.dep<=d->x.wt<=1000000->Mj x:=by
 intro d
 induction d with
 |zero=>intro x hx;cases x with|mk k t l=>simp[Tr.dep] at hx
 |succ d ih =>
 intro x hd hwt h O v hg hv;cases x with
 |mk k t l =>
  obtain⟨w,rfl,hw⟩:=id hv.open;obtain⟨a,n,c,rfl,aa⟩:=id hw.open;have hn:l.length=n:=aa.len;subst hn;have ao:=aa.cap;have hle:=aa.le;simp only[maxLen] at ao;have htl:=Fu k t l;rw[tu];refine bJ ?_;refine af ?_;refine xo rfl (mh) ?_;rintro _ h1 ⟨rfl,k1,e1,z1⟩;have k1:aC h1 h.size 41 (rR k t a l.length c):=k1;refine af ?_;refine xp rfl (cj rfl k1.row) (xo rfl (aE rfl (CI (hg.ah e1) k t a l.length c (by omega))) ?_);rintro _ h2 ⟨rfl,e2⟩;have ap:=e1.trans e2;have k2:=k1.ah e2;refine af ?_;refine jS (λhs=>?_) (λhs=>?_)
  · have hs:qU cY k t l.length=false:=by simpa using hs
    refine af ?_;refine aP ?_;exact⟨_,rfl,by rw[hs];rfl,ap⟩
  · have hs:qU cY k t l.length=true:=by simpa using hs
    rw[hs,Bool.true_and];refine af ?_;refine xp rfl (aA rfl (k2.cell (i:=2) rfl)) ?_;refine af ?_;refine fK (σ:=Nat) (λi=>[(11,.int .i64 (i:Nat))]) (λi g=>i<=l.length/\aj h2 g/\nh cY k i (l.drop i)=nh cY k 0 l) (λi=>l.length-i) (0) ⟨Nat.zero_le _,Ext.refl _ _,rfl⟩ rfl ?_;rintro i g ⟨hi,eg,hq⟩ aw;have kg:=k2.ah eg;have Y:=ap.trans eg;refine af ?_;refine aN (λa7=>?_) (λa7=>?_)
    · have am:i<l.length:=by omega
      have ae:=aa.mv (Mv.ah Y);obtain⟨b,o,x,cs,ha,hob,hx,ak,hR⟩:=Sl.nd ae am;have ad:x∈l:=List.mem_of_getElem? hx;have hxw:=qO (k:=k) (t:=t) ad
      have a8:l.drop i=x::l.drop (i+1):=by
       obtain⟨h1,h2⟩:=List.getElem?_eq_some_iff.1 hx;rw[List.drop_eq_getElem_cons h1,h2]
      rw[a8,uC,Jw] at hq;obtain⟨xk,xt,xa,xn,xc,ab,hR'⟩:=(dK.of hR).get;obtain rfl:cs=[.int .i64 xk,.string (bs xt),.slice xa xn xc]:=by have:=congrArg (λv=>match v with|Value.agg cs=>cs.toList|_=>[]) ab;simpa using this
      have a1:xk=x.kind:=by cases x with|mk k' t' l'=>obtain⟨v',a6,_⟩:=lJ hR;cases a6;rfl
      have ag:=ih x (by have:=vW (k:=k) (t:=t) ad;omega) (by omega)
      iterate 4 refine aQ ?_
      refine cI (aR (xp rfl (bZ rfl rfl i rfl ha) (xp rfl (cj rfl ak) (xo rfl (cL) ?_))));rintro _ g1 ⟨rfl,kn,e3,z3⟩;refine af ?_;refine aO rfl (aZ rfl rfl kn eY) ?_;rintro _ g2 ⟨rfl,kx,x2,z2⟩;have kx:aC g2 g.size 41 [.int .i64 xk,.string (bs xt),.slice xa xn xc]:=kx;have J:aj g g2:=aj.only e3 x2 (Nat.le_refl _);have Z:=kg.ah J;have an:=hg.ah (Y.trans J);have al:=(dK.of hR).mv (Mv.ah J);have ab:=ag g2 O _ an al;have a_:=Cm ag an al;refine cO ?_
      iterate 2 refine aQ ?_
      refine H9 (fun(u:Unit) (h':aq)=>aj g2 h') (fun(u:Unit)=>[(33,.bool (!(eW cY x && (decide (k=10) ||alone x))))]) rfl ?_ ?_
      · refine af ?_;refine xp rfl (aA rfl (Z.cell (i:=0) rfl)) ?_;refine af ?_;refine cX 19 (λp=>?_) (λp=>?_)
        · have p:=of_decide_eq_true p;refine xp rfl (cj rfl kx.row) (xo rfl (aE rfl ab) ?_);rintro _ g3 ⟨rfl,U⟩;refine af ?_;refine cX 24 (λq=>?_) (λq=>?_)
          · refine af ?_;exact lN () U ⟨ai rfl (by have q:eW cY x=false:=by { simpa using q };rw[q];rfl),sb rfl⟩
          · have q:eW cY x=true:=by simpa using q
            refine af ?_;refine xp rfl (aA rfl ((Z.ah U).cell (i:=0) rfl)) ?_;refine af ?_;refine RW.bw (d:=28) (b':=false) rfl ((by rw[p];rfl)) ?_;refine af ?_;exact lN () U ⟨ai rfl (by rw[q,decide_eq_true p];rfl),sb rfl⟩
        · have p:=of_decide_eq_false p;refine af ?_;refine RW.bw (d:=24) (b':=false) rfl (rfl) (xp rfl (aA rfl (Z.cell (i:=0) rfl)) ?_);refine af ?_;refine RW.bw (d:=28) (b':=true) rfl ((by simpa using p)) (xp rfl (cj rfl kx.row) (xo rfl (aE rfl a_) ?_));rintro _ g3 ⟨rfl,U⟩;refine af ?_;exact lN () U ⟨ai rfl (by rw[decide_eq_false p,Bool.false_or]),sb rfl⟩
      · rintro u g3 U;have ar:=Z.ah U;have ac:=kx.ah U;refine jS (λhb=>?_) (λhb=>?_)
        · have hb:(eW cY x && (decide (k=10) ||alone x))=false:=by rw[Bool.not_eq_true'] at hb;exact hb
          refine af ?_;refine aP ?_;refine⟨_,rfl,?_,(Y.trans J).trans U⟩;rw[<-hq,<-Bool.and_assoc,hb];rfl
        · have hb:(eW cY x && (decide (k=10) ||alone x))=true:=by rw[Bool.not_eq_false'] at hb;exact hb
          rw[<-Bool.and_assoc,hb,Bool.true_and] at hq
          iterate 2 refine aQ ?_
          refine dU [(54,.bool (decide (k=6/\0<i/\xk≠10/\(i=1\/xk≠6))))] rfl ?_ ?_
          · refine af ?_;refine xp rfl (aA rfl (ar.cell (i:=0) rfl)) ?_;refine af ?_;refine cX 37 (λp=>?_) (λp=>?_)
            · have p:=of_decide_eq_true p;refine af ?_;refine cX 41 (λq=>?_) (λq=>?_)
              · have q:=of_decide_eq_true q;refine af ?_;refine xp rfl (aA rfl (ac.cell (i:=0) rfl)) ?_;refine af ?_;refine cX 46 (λr=>?_) (λr=>?_)
                · have r:¬xk=10:=by simpa using r
                  refine af ?_;refine cX 49 (λs=>?_) (λs=>?_)
                  · have s:=of_decide_eq_true s;refine af ?_;exact aD rfl ⟨ai rfl (by rw[decide_eq_true (by omega)]),sb rfl⟩
                  · have s:=of_decide_eq_false s;refine af ?_;refine xp rfl (aA rfl (ac.cell (i:=0) rfl)) ?_;refine af ?_;exact aD rfl ⟨ai rfl (by rw[decide_eq_decide];omega),sb rfl⟩
                · have r:xk=10:=by simpa using r
                  refine af ?_;exact aD rfl ⟨ai rfl (by rw[decide_eq_false (by omega)]),sb rfl⟩
              · have q:=of_decide_eq_false q;refine af ?_;exact aD rfl ⟨ai rfl (by rw[decide_eq_false (by omega)]),sb rfl⟩
            · have p:=of_decide_eq_false p;refine af ?_;exact aD rfl ⟨ai rfl (by rw[decide_eq_false (by omega)]),sb rfl⟩
          · rw[a1,<-JD];refine jS (λI=>?_) (λI=>?_)
            · have I:JE k i x=false:=by simpa using I
              refine af ?_;refine aP ?_;exact⟨_,rfl,by rw[<-hq,I];rfl,(Y.trans J).trans U⟩
            · have I:JE k i x=true:=by simpa using I
              rw[I,Bool.true_and] at hq;refine af ?_;exact aw (i+1) ⟨am,(eg.trans J).trans U,hq⟩
    · obtain rfl:i=l.length:=by omega
      rw[List.drop_length] at hq;refine af ?_;refine aP ?_;exact⟨_,rfl,by rw[<-hq];rfl,Y⟩
theorem Cn (hw:x.wt<=1000000) (Z:Gl h) (U:dK h O v x):au prog 28 #[v] h (bK λr h'=>r= .bool (eW cY x)/\aj h h'):=by
 obtain⟨k,t,a,n,c,rfl,hR⟩:=id U.get;refine bJ ?_;refine af ?_;refine xo rfl (mh) ?_;rintro _ h1 ⟨rfl,Y,J,z1⟩;have I:=Em _ x (Nat.le_refl _) hw h1 O _ (Z.ah J) (U.mv (Mv.ah J));refine af ?_;refine xp rfl (cj rfl Y.row) (xo rfl (aE rfl I) ?_);rintro _ h2 ⟨rfl,e2⟩;refine af ?_;refine aP ?_;exact⟨_,rfl,rfl,J.trans e2⟩
theorem nI {a:Option Addr}{n c:Nat}{l:List Tr}(Z:Sl eN h O a n c l){i:Nat}(hi:i<n) :
 ∃b o x xk xt Y J U,a=some ⟨b,o,none⟩/\l[i]? =some x/\Lw.rowAt h b (o+i*3) (rR xk xt Y J U)/\dK h O (.agg #[.int .i64 xk,.string (bs xt),.slice Y J U]) x/\xk=x.kind/\¬O b:=by
 obtain⟨b,o,x,cs,ha,aa,hx,I,hR⟩:=Sl.nd Z hi;cases x with
 |mk k t m =>
  obtain⟨v,rfl,hs⟩:=lJ hR;obtain⟨Y,J,U,rfl,_⟩:=id hs.open;exact⟨b,o,_,k,t,Y,J,U,ha,hx,I,dK.of hR,rfl,aa⟩
theorem zG {word:By->Bool}{k:Int}:∀{l:List Tr}{i:Nat}{x:Tr},nh word k i l=true->x∈l->eW word x=true
 | [],_,_,_,h=>by cases h
 |y::l,i,x,q,h=>by
  rw[uC,Bool.and_eq_true,Bool.and_eq_true] at q
  rcases List.mem_cons.1 h with rfl|h
  · exact q.1.1
  · exact zG q.2 h
theorem tD:∀(l:List Tr) (i:Nat),ic false i l=l.map (bG false)
 | [],_=>by rw[ic];rfl
 |x::l,i=>by rw[ic,tD l,Bool.false_and];rfl
theorem wz (b:Bool) (k:Int) (t:By) (l:List Tr):bG b (.mk k t l)=if k=6/\b=true then vh (ic (decide (k=6)) 0 l) else wA k t (ic (decide (k=6)) 0 l):=by rw[bG]
theorem iO {k:Int}(h:k≠6) (b:Bool) (t:By) (l:List Tr):bG b (.mk k t l)=wA k t (l.map (bG false)):=by
 rw[wz,if_neg (λq=>h q.1),decide_eq_false h,tD]
theorem Er (h:x.kind≠6) (b:Bool):bG b x=bG false x:=by
 cases x with
 |mk k t l=>have h:k≠6:=h;rw[iO h,iO h]
theorem KI (t:By) (a b c:Tr):bG false (.mk 6 t [a,b,c])=[40]++vh [bG false a,bG false b,bG true c]++[41]:=by
 rw[wz,if_neg (λq=>by cases q.2)];simp[ic,wA]
theorem CG (t:By) (a b c:Tr):bG true (.mk 6 t [a,b,c])=vh [bG false a,bG false b,bG true c]:=by
 rw[wz,if_pos ⟨rfl,rfl⟩];simp[ic]
def yL (x:Tr):Prop:=∀(h:aq) (O:Nat->Prop) (v:Value),Gl h->dK h O v x->au prog 29 #[v] h (bK λr h'=>r= .string (bs (bG false x))/\aj h h')
def Az (x:Tr):Prop:=∀(h:aq) (O:Nat->Prop) (v:Value),Gl h->dK h O v x->au prog 55 #[v] h (bK λr h'=>r= .string (bs (bG true x))/\aj h h')
theorem HG {t:By}{y z:Tr}(hw:(Tr.mk 6 t [x,y,z]).wt<=1000000) (hx:yL x) (hy:yL y) (hz:yL z) (hz2:z.kind=6->Az z):Az (.mk 6 t [x,y,z]):=by
 intro h O v hg hv;have w1:=qO (k:=6) (t:=t) (l:=[x,y,z]) (x:=x) (by simp);have w2:=qO (k:=6) (t:=t) (l:=[x,y,z]) (x:=y) (by simp);have w3:=qO (k:=6) (t:=t) (l:=[x,y,z]) (x:=z) (by simp);have p1:=ke x false;have p2:=ke y false;have p3:=ke z false;have p4:=ke z true;have q1:=aJ (bG false x);have q2:=aJ (bG false y);have q3:=aJ (bG false z);have q4:=aJ (bG true z);obtain⟨w,rfl,hw0⟩:=id hv.open;obtain⟨a,n,c,rfl,hws⟩:=id hw0.open;have hn:3=n:=hws.len;subst hn;rw[CG];refine bJ ?_;refine af ?_;refine xo rfl (mh) ?_;rintro _ h1 ⟨rfl,k1,e1,z1⟩;have k1:aC h1 h.size 41 (rR 6 t a 3 c):=k1;have hws1:=hws.mv (Mv.ah e1);obtain⟨b0,o0,x0,k0,t0,a0,n0,c0,ha0,hx0,hr0,hv0,_,_⟩:=nI hws1 (show 0<3 by decide);obtain⟨b0',o1,x1,kk1,t1,a1,n1,c1,ha1,hx1,hr1,hv1,_,_⟩:=nI hws1 (show 1<3 by decide);obtain rfl:x0=x:=by cases hx0;rfl
 obtain rfl:x1=y:=by cases hx1;rfl
 have hc0:=hx h1 O _ (hg.ah e1) hv0;refine af ?_;refine jK 15 (λ_=>False) (λi=>Nat.blt i 15) ?_;refine aF 0 ?_;refine bq 1 rfl (λh' e=>aA rfl (e.cell (λk=>k) (k1.cell (i:=2) rfl))) ?_;refine bq 2 rfl (λh' e=>bZ rfl rfl 0 rfl ha0 (by decide)) ?_;refine bq 3 rfl (λh' e=>cj rfl (e.rowAt (λk=>k) hr0)) ?_;refine aF 7 ?_;refine bq 8 rfl (λh' e=>aA rfl (e.cell (λk=>k) (k1.cell (i:=2) rfl))) ?_;refine bq 9 rfl (λh' e=>bZ rfl rfl 1 rfl ha1 (by decide)) ?_;refine bq 10 rfl (λh' e=>cj rfl (e.rowAt (λk=>k) hr1)) ?_;refine cV 4 rfl (aE rfl hc0) ?_;rintro _ h2 ⟨rfl,e2⟩;refine⟨λ_=>e2,?_⟩;have l3:(⟨#[105,102,32]⟩:ByteArray).size=3:=rfl;have l1:(⟨#[32]⟩:ByteArray).size=1:=rfl;have l6:(⟨#[32,101,108,115,101,32]⟩:ByteArray).size=6:=rfl;have hc1:=hy h2 O _ ((hg.ah e1).ah e2) (hv1.mv (Mv.ah e2));refine bq 5 rfl (λh' e=>az.bS rfl rfl (by simp only[ByteArray.size_append,l3,l1,l6,q1,q2,q3,q4];omega)) ?_;refine bq 6 rfl (λh' e=>az.bS rfl rfl (by simp only[ByteArray.size_append,l3,l1,l6,q1,q2,q3,q4];omega)) ?_;refine cV 11 rfl (aE rfl hc1) ?_;rintro _ h3 ⟨rfl,e3⟩;refine⟨λ_=>e3,?_⟩;refine bq 12 rfl (λh' e=>az.bS rfl rfl (by simp only[ByteArray.size_append,l3,l1,l6,q1,q2,q3,q4];omega)) ?_;refine bq 13 rfl (λh' e=>az.bS rfl rfl (by simp only[ByteArray.size_append,l3,l1,l6,q1,q2,q3,q4];omega)) ?_;have e23:=e2.trans e3;have e03:=e1.trans e23;have k3:=k1.ah e23;have hws3:=hws1.mv (Mv.ah e23);obtain⟨b2',o2,x2,kk2,t2,a2,n2,c2,ha2,hx2,hr2,hv2,hk2,_⟩:=nI hws3 (show 2<3 by decide);obtain rfl:x2=z:=by cases hx2;rfl
 have hg3:=hg.ah e03;refine aF 14 ?_;refine fV ?_;refine af ?_;refine xp rfl (aA rfl (k3.cell (i:=2) rfl)) ?_;refine xp rfl (bZ rfl rfl 2 rfl ha2 (by decide)) ?_;refine af ?_;refine xp rfl (aA rfl (hr2 0 _ rfl)) ?_;refine af ?_;refine aN (λc6=>?_) (λc6=>?_)
 · have hch:=hz2 (by rw[<-hk2];exact c6) h3 O _ hg3 hv2;refine af ?_;refine xp rfl (aA rfl (k3.cell (i:=2) rfl)) ?_;refine xp rfl (bZ rfl rfl 2 rfl ha2 (by decide)) ?_;refine xp rfl (cj rfl hr2) ?_;refine xo rfl (aE rfl hch) ?_;rintro _ h4 ⟨rfl,e4⟩;refine xp rfl (az.bS rfl rfl (by simp only[ByteArray.size_append,l3,l1,l6,q1,q2,q3,q4];omega)) ?_;refine af ?_;refine aP ?_;refine⟨_,rfl,?_,e03.trans e4⟩
   show Value.string (((((bs [105,102,32]++bs (bG false x0))++bs [32])++bs (bG false x1))++bs [32,101,108,115,101,32])++bs (bG true x2))=_
   simp only[cG];rfl
 · have hch:=hz h3 O _ hg3 hv2;refine af ?_;refine xp rfl (aA rfl (k3.cell (i:=2) rfl)) ?_;refine xp rfl (bZ rfl rfl 2 rfl ha2 (by decide)) ?_;refine xp rfl (cj rfl hr2) ?_;refine xo rfl (aE rfl hch) ?_;rintro _ h4 ⟨rfl,e4⟩;refine xp rfl (az.bS rfl rfl (by simp only[ByteArray.size_append,l3,l1,l6,q1,q2,q3,q4];omega)) ?_;refine af ?_;refine aP ?_;refine⟨_,rfl,?_,e03.trans e4⟩;rw[Er (show x2.kind≠6 from λq=>c6 (by rw[hk2];exact q)) true]
   show Value.string (((((bs [105,102,32]++bs (bG false x0))++bs [32])++bs (bG false x1))++bs [32,101,108,115,101,32])++bs (bG false x2))=_
   simp only[cG];rfl
theorem nB {enc:α->Value}{base:Nat}{T:TypeId}{I:Option Addr}{vn U:Nat}{xs:List α}(k:bN enc h base T (.slice I vn U) xs) (i:Nat){x:α}(J:xs[i]? =some x) :
 ∃g,I=some ⟨g,0,none⟩/\i<vn/\vn=xs.length/\cellAt h ⟨g,0+i*1,none⟩=some (enc x):=by
 obtain⟨g,c,Y,_,_,hc,_⟩:=k.at J;cases Y;exact⟨g,rfl,(List.getElem?_eq_some_iff.1 J).1,rfl,hc⟩
theorem MM {l:List α}(h:l.length=1):∃a,l=[a]:=List.length_eq_one_iff.1 h
theorem ML {l:List α}(h:l.length=2):∃a b,l=[a,b]:=by
 match l,h with
 | [a,b],_=>exact⟨a,b,rfl⟩
theorem Of {l:List α}(h:l.length=3):∃a b c,l=[a,b,c]:=by
 match l,h with
 | [a,b,c],_=>exact⟨a,b,c,rfl⟩
theorem KH {k:Int}{t:By}{l:List Tr}(hw:(Tr.mk k t l).wt<=1000000) (hva:eW cY (.mk k t l)=true) (hsk:∀y∈l,yL y) (hch:k=6->Az (.mk k t l)):yL (.mk k t l):=by
 intro h O v hg hv;obtain⟨w,rfl,hw0⟩:=id hv.open;obtain⟨a,n,c,rfl,hws⟩:=id hw0.open;have hn:l.length=n:=hws.len;subst hn;have hcap:=hws.cap;have hle:=hws.le;simp only[maxLen] at hcap;have wt0:=Fu k t l;have qt:=aJ t
 have hkl:∀y∈l,(bs (bG false y)).size<=1000000:=λy hy=>by
  have:=qO (k:=k) (t:=t) hy;have:=ke y false;rw[aJ];omega
 have hsum:(iu (l.map (bG false))).length<=1000000:=by
  have h1:=xN (ic false 0 l);have h2:=oL l false 0;have h3:=nr l false 0;rw[<-tD l 0];have h4:(Tr.mk k t l).wt=2*t.length+20+oE l:=by rw[Tr.wt]
  omega
 rw[tu,wB,Bool.and_eq_true,Bool.and_eq_true] at hva;obtain⟨⟨hbd,_⟩,hvq⟩:=hva;have hbd:(0<=k/\k<=10)/\(fB k).1<=l.length/\l.length<=(fB k).2:=of_decide_eq_true hbd
 have hll:l.length<=1000000:=by
  have h2:=oL l false 0;have h4:(Tr.mk k t l).wt=2*t.length+20+oE l:=by rw[Tr.wt]
  omega
 have m40:(⟨#[40]⟩:ByteArray).size=1:=rfl;have m41:(⟨#[41]⟩:ByteArray).size=1:=rfl;have m32:(⟨#[32]⟩:ByteArray).size=1:=rfl;have mlet:(⟨#[108,101,116,32]⟩:ByteArray).size=4:=rfl;have mlet2:(⟨#[40,108,101,116,32]⟩:ByteArray).size=5:=rfl;have meq:(⟨#[32,61,32]⟩:ByteArray).size=3:=rfl;have min_:(⟨#[32,105,110,32]⟩:ByteArray).size=4:=rfl;have mfun:(⟨#[40,102,117,110,32]⟩:ByteArray).size=5:=rfl;have marr:(⟨#[32,45,62,32]⟩:ByteArray).size=4:=rfl;have mopn:(⟨#[123,32]⟩:ByteArray).size=2:=rfl;have mcls:(⟨#[32,125]⟩:ByteArray).size=2:=rfl;refine bJ ?_;refine af ?_;refine xo rfl (mh) ?_;rintro _ h1 ⟨rfl,k1,e1,z1⟩;have k1:aC h1 h.size 41 (rR k t a l.length c):=k1;refine af ?_;refine xp rfl (aA rfl (k1.cell (i:=2) rfl)) ?_;refine af ?_;refine fK (σ:=Nat×Value) (λw=>[(3,w.2),(9,.int .i64 (w.1:Nat))]) (λw g=>w.1<=l.length/\aj h1 g/\bN BI g h1.size 9 w.2 ((l.map (bG false)).take w.1)) (λw=>l.length-w.1) ((0,.slice none 0 0)) ⟨Nat.zero_le _,Ext.refl _ _,bN.nil _ _ _ _⟩ rfl ?_;rintro⟨i,ov⟩ g ⟨hi,eg,ho⟩ ih
 try dsimp only
 dsimp only at hi ho;have kg:=k1.ah eg;have e0g:=e1.trans eg;have hho:aB g h1.size 9 1 ov ((l.map (bG false)).take i).length (((l.map (bG false)).take i).map BI):=ho;have hlt0:((l.map (bG false)).take i).length=i:=by rw[List.length_take,List.length_map];omega
 rw[hlt0] at hho;obtain⟨va,vc,rfl,_⟩:=hho.open;refine af ?_;refine aN (λhlt=>?_) (λhlt=>?_)
 · have hil:i<l.length:=by omega
   obtain⟨b,o,x,xk,xt,xa,xn,xc,ha,hx,hrow,hnx,_,_⟩:=nI (hws.mv (Mv.ah e0g)) hil;have hxm:x∈l:=List.mem_of_getElem? hx
   iterate 4 refine aQ ?_
   refine cI ?_;refine xp rfl (bZ rfl rfl i rfl ha) ?_;refine xp rfl (cj rfl hrow) ?_;refine xo rfl (cL) ?_;rintro _ g1 ⟨rfl,kn,e3,z3⟩;refine aO rfl (aZ rfl rfl kn eY) ?_;rintro _ g2 ⟨rfl,kx,x2,z2⟩;have kx:aC g2 g.size 41 (rR xk xt xa xn xc):=kx;have eg2:aj g g2:=aj.only e3 x2 (Nat.le_refl _);have hcall:=hsk x hxm g2 O _ (hg.ah (e0g.trans eg2)) (hnx.mv (Mv.ah eg2));refine af ?_;refine xp rfl (cj rfl kx.row) ?_;refine xo rfl (aE rfl hcall) ?_;rintro _ g3 ⟨rfl,e4⟩;have e24:=eg2.trans e4;refine xo rfl (iD [_]) ?_;rintro _ _ ⟨rfl,rfl⟩;refine xo rfl (vL rfl rfl ((hho.gR e24)) rfl rfl (by omega) (by have:=eg.size;have:=e24.size;omega)) ?_;rintro v5 g5 ⟨ho5,hx5,hx5',hv5⟩
   have ho5:bN BI g5 h1.size 9 v5 ((l.map (bG false)).take (i+1)):=by
    rw[List.take_add_one,List.getElem?_map,hx];exact bN.of ho5 hlt0.symm rfl rfl
   refine af ?_;exact ih (i+1,v5) ⟨hil,Ext.own (eg.trans e24) (hho.gR e24) (Nat.le_refl _) hx5,ho5⟩
 · obtain rfl:i=l.length:=by omega
   rw[show (l.map (bG false)).take l.length=l.map (bG false) from List.take_of_length_le (by simp)] at ho;refine af ?_;refine xp rfl (aA rfl (kg.cell (i:=0) rfl)) ?_;refine af ?_;refine aN (λc1=>?_) (λc1=>?_)
   · refine af ?_;refine xp rfl (aA rfl (kg.cell (i:=1) rfl)) ?_;refine xo rfl (aE rfl (CQ (hg.ah e0g).esc t (by omega))) ?_;rintro _ g2 ⟨rfl,e2⟩;refine af ?_;refine aP ?_;exact⟨_,rfl,by rw[iO (by omega),c1];rfl,e0g.trans e2⟩
   · refine af ?_;refine aN (λc4=>?_) (λc4=>?_)
     · subst c4;have hbd2:1<=l.length/\l.length<=1:=hbd.2;obtain⟨x0,rfl⟩:=MM (show l.length=1 by omega);have hb0:=hkl x0 (by simp);obtain⟨rg,rfl,_,_,hc0⟩:=nB ho 0 (x:=bG false x0) rfl;refine af ?_;refine bF rfl (aA rfl (kg.cell (i:=1) rfl)) ?_;refine bF rfl (az.bS rfl rfl (by first|omega|(simp only[ByteArray.size_append];omega))) ?_;refine bF rfl (az.bS rfl rfl (by first|omega|(simp only[ByteArray.size_append];omega))) ?_;refine jD ?_;refine bF rfl (bZ rfl rfl 0 rfl rfl (by simp)) ?_;refine bF rfl (aA rfl hc0) ?_;refine bF rfl (az.bS rfl rfl (by first|omega|(simp only[ByteArray.size_append];omega))) ?_;refine bF rfl (az.bS rfl rfl (by first|omega|(simp only[ByteArray.size_append];omega))) ?_;refine af ?_;refine aP ?_;refine⟨_,rfl,?_,e0g⟩;rw[iO (by decide)]
       show Value.string ((((bs [40]++bs t)++bs [32])++bs (bG false x0))++bs [41])=_
       simp only[cG];rfl
     · refine af ?_;refine aN (λc5=>?_) (λc5=>?_)
       · subst c5;have hbd2:2<=l.length/\l.length<=2:=hbd.2;obtain⟨x0,x1,rfl⟩:=ML (show l.length=2 by omega);have hb0:=hkl x0 (by simp);have hb1:=hkl x1 (by simp);obtain⟨rg,rfl,_,_,hc0⟩:=nB ho 0 (x:=bG false x0) rfl;obtain⟨rg',hrg,_,_,hc1⟩:=nB ho 1 (x:=bG false x1) rfl;cases hrg;refine aQ ?_;refine rP ?_;refine jD ?_;refine bF rfl (bZ rfl rfl 0 rfl rfl (by simp)) ?_;refine bF rfl (aA rfl hc0) ?_;refine bF rfl (az.bS rfl rfl (by first|omega|(simp only[ByteArray.size_append];omega))) ?_;refine bF rfl (az.bS rfl rfl (by first|omega|(simp only[ByteArray.size_append];omega))) ?_;refine af ?_;refine bF rfl (aA rfl (kg.cell (i:=1) rfl)) ?_;refine bF rfl (az.bS rfl rfl (by first|omega|(simp only[ByteArray.size_append];omega))) ?_;refine bF rfl (az.bS rfl rfl (by first|omega|(simp only[ByteArray.size_append];omega))) ?_;refine jD ?_;refine bF rfl (bZ rfl rfl 1 rfl rfl (by simp)) ?_;refine bF rfl (aA rfl hc1) ?_;refine bF rfl (az.bS rfl rfl (by first|omega|(simp only[ByteArray.size_append];omega))) ?_;refine bF rfl (az.bS rfl rfl (by first|omega|(simp only[ByteArray.size_append];omega))) ?_;refine af ?_;refine aP ?_;refine⟨_,rfl,?_,e0g⟩;rw[iO (by decide)]
         show Value.string ((((((bs [40]++bs (bG false x0))++bs [32])++bs t)++bs [32])++bs (bG false x1))++bs [41])=_
         simp only[cG];rfl
       · refine af ?_;refine aN (λc6=>?_) (λc6=>?_)
         · subst c6;have hbd2:3<=l.length/\l.length<=3:=hbd.2;have hcall:=hch rfl g O _ (hg.ah e0g) (hv.mv (Mv.ah e0g));have hpl:=ke (.mk 6 t l) true;have hq:=aJ (bG true (.mk 6 t l));refine af ?_;refine xp rfl (cj rfl kg.row) ?_;refine xo rfl (aE rfl hcall) ?_;rintro _ g2 ⟨rfl,e2⟩;refine xp rfl (az.bS rfl rfl (by first|omega|(simp only[ByteArray.size_append];omega))) ?_;refine xp rfl (az.bS rfl rfl (by first|omega|(simp only[ByteArray.size_append];omega))) ?_;refine af ?_;refine aP ?_;refine⟨_,rfl,?_,e0g.trans e2⟩;obtain⟨x0,x1,x2,rfl⟩:=Of (show l.length=3 by omega);rw[KI,<-CG t]
           show Value.string ((bs [40]++bs (bG true (.mk 6 t [x0,x1,x2])))++bs [41])=_
           simp only[cG]
         · rw[iO c6];refine af ?_;refine aN (λc7=>?_) (λc7=>?_)
           · subst c7;have hbd2:1<=l.length/\l.length<=2:=hbd.2;refine af ?_;refine aN (λhone=>?_) (λhone=>?_)
             · obtain⟨x0,rfl⟩:=MM (show l.length=1 by omega);have hb0:=hkl x0 (by simp);obtain⟨rg,rfl,_,_,hc0⟩:=nB ho 0 (x:=bG false x0) rfl;refine af ?_;refine bF rfl (aA rfl (kg.cell (i:=1) rfl)) ?_;refine bF rfl (az.bS rfl rfl (by first|omega|(simp only[ByteArray.size_append];omega))) ?_;refine bF rfl (az.bS rfl rfl (by first|omega|(simp only[ByteArray.size_append];omega))) ?_;refine jD ?_;refine bF rfl (bZ rfl rfl 0 rfl rfl (by simp)) ?_;refine bF rfl (aA rfl hc0) ?_;refine bF rfl (az.bS rfl rfl (by first|omega|(simp only[ByteArray.size_append];omega))) ?_;refine af ?_;refine aP ?_;refine⟨_,rfl,?_,e0g⟩
               show Value.string (((bs [108,101,116,32]++bs t)++bs [32,61,32])++bs (bG false x0))=_
               simp only[cG];rfl
             · obtain⟨x0,x1,rfl⟩:=ML (show l.length=2 by omega);have hb0:=hkl x0 (by simp);have hb1:=hkl x1 (by simp);obtain⟨rg,rfl,_,_,hc0⟩:=nB ho 0 (x:=bG false x0) rfl;obtain⟨rg',hrg,_,_,hc1⟩:=nB ho 1 (x:=bG false x1) rfl;cases hrg;refine af ?_;refine bF rfl (aA rfl (kg.cell (i:=1) rfl)) ?_;refine bF rfl (az.bS rfl rfl (by first|omega|(simp only[ByteArray.size_append];omega))) ?_;refine bF rfl (az.bS rfl rfl (by first|omega|(simp only[ByteArray.size_append];omega))) ?_;refine jD ?_;refine bF rfl (bZ rfl rfl 0 rfl rfl (by simp)) ?_;refine bF rfl (aA rfl hc0) ?_;refine bF rfl (az.bS rfl rfl (by first|omega|(simp only[ByteArray.size_append];omega))) ?_;refine bF rfl (az.bS rfl rfl (by first|omega|(simp only[ByteArray.size_append];omega))) ?_;refine jD ?_;refine bF rfl (bZ rfl rfl 1 rfl rfl (by simp)) ?_;refine bF rfl (aA rfl hc1) ?_;refine bF rfl (az.bS rfl rfl (by first|omega|(simp only[ByteArray.size_append];omega))) ?_;refine bF rfl (az.bS rfl rfl (by first|omega|(simp only[ByteArray.size_append];omega))) ?_;refine af ?_;refine aP ?_;refine⟨_,rfl,?_,e0g⟩
               show Value.string ((((((bs [40,108,101,116,32]++bs t)++bs [32,61,32])++bs (bG false x0))++bs [32,105,110,32])++bs (bG false x1))++bs [41])=_
               simp only[cG];rfl
           · refine af ?_;refine aN (λc8=>?_) (λc8=>?_)
             · subst c8;have hbd2:1<=l.length/\l.length<=1:=hbd.2;obtain⟨x0,rfl⟩:=MM (show l.length=1 by omega);have hb0:=hkl x0 (by simp);obtain⟨rg,rfl,_,_,hc0⟩:=nB ho 0 (x:=bG false x0) rfl;refine af ?_;refine bF rfl (aA rfl (kg.cell (i:=1) rfl)) ?_;refine bF rfl (az.bS rfl rfl (by first|omega|(simp only[ByteArray.size_append];omega))) ?_;refine bF rfl (az.bS rfl rfl (by first|omega|(simp only[ByteArray.size_append];omega))) ?_;refine jD ?_;refine bF rfl (bZ rfl rfl 0 rfl rfl (by simp)) ?_;refine bF rfl (aA rfl hc0) ?_;refine bF rfl (az.bS rfl rfl (by first|omega|(simp only[ByteArray.size_append];omega))) ?_;refine bF rfl (az.bS rfl rfl (by first|omega|(simp only[ByteArray.size_append];omega))) ?_;refine af ?_;refine aP ?_;refine⟨_,rfl,?_,e0g⟩
               show Value.string ((((bs [40,102,117,110,32]++bs t)++bs [32,45,62,32])++bs (bG false x0))++bs [41])=_
               simp only[cG];rfl
             · refine af ?_;refine aN (λc9=>?_) (λc9=>?_)
               · subst c9;have hbd2:2<=l.length/\l.length<=2:=hbd.2;obtain⟨x0,x1,rfl⟩:=ML (show l.length=2 by omega);have hb0:=hkl x0 (by simp);have hb1:=hkl x1 (by simp);obtain⟨rg,rfl,_,_,hc0⟩:=nB ho 0 (x:=bG false x0) rfl;obtain⟨rg',hrg,_,_,hc1⟩:=nB ho 1 (x:=bG false x1) rfl;cases hrg;refine aQ ?_;refine rP ?_;refine jD ?_;refine bF rfl (bZ rfl rfl 0 rfl rfl (by simp)) ?_;refine bF rfl (aA rfl hc0) ?_;refine bF rfl (az.bS rfl rfl (by first|omega|(simp only[ByteArray.size_append];omega))) ?_;refine jD ?_;refine bF rfl (bZ rfl rfl 1 rfl rfl (by simp)) ?_;refine bF rfl (aA rfl hc1) ?_;refine bF rfl (az.bS rfl rfl (by first|omega|(simp only[ByteArray.size_append];omega))) ?_;refine bF rfl (az.bS rfl rfl (by first|omega|(simp only[ByteArray.size_append];omega))) ?_;refine af ?_;refine aP ?_;refine⟨_,rfl,?_,e0g⟩
                 show Value.string (((bs (bG false x0)++bs [40])++bs (bG false x1))++bs [41])=_
                 simp only[cG];rfl
               · refine af ?_;refine aN (λc10=>?_) (λc10=>?_)
                 · subst c10;have hq:=aJ (iu (l.map (bG false)));refine af ?_;refine xo rfl (aE rfl (Fq (bN.read (h1:=λ_=>rfl) ho (λ_ _ k=>k)) (by omega))) ?_;rintro _ g2 ⟨rfl,e2⟩;refine xp rfl (az.bS rfl rfl (by first|omega|(simp only[ByteArray.size_append];omega))) ?_;refine xp rfl (az.bS rfl rfl (by first|omega|(simp only[ByteArray.size_append];omega))) ?_;refine af ?_;refine aP ?_;refine⟨_,rfl,?_,e0g.trans e2⟩
                   show Value.string ((bs [123,32]++bs (iu (l.map (bG false))))++bs [32,125])=_
                   simp only[cG];rfl
                 · refine af ?_;refine xp rfl (aA rfl (kg.cell (i:=1) rfl)) ?_;refine af ?_;refine aP ?_;refine⟨_,rfl,?_,e0g⟩;unfold wA;rw[if_neg c1,if_neg c4,if_neg c5,if_neg c6,if_neg c7,if_neg c8,if_neg c9,if_neg c10];rfl
theorem IA:∀(d:Nat) (x:Tr),x.dep<=d->x.wt<=1000000->eW cY x=true->yL x/\(x.kind=6->Az x):=by
 intro d
 induction d with
 |zero=>intro x hx;cases x with|mk k t l=>simp[Tr.dep] at hx
 |succ d ih =>
 intro x hd hw I;cases x with
 |mk k t l =>
  have Y:=I;rw[tu,wB,Bool.and_eq_true,Bool.and_eq_true] at I;obtain⟨⟨J,_⟩,aa⟩:=I;have J:(0<=k/\k<=10)/\(fB k).1<=l.length/\l.length<=(fB k).2:=of_decide_eq_true J;have hk:∀y∈l,yL y/\(y.kind=6->Az y):=λy U=>ih y (by have:=vW (k:=k) (t:=t) U;omega) (by have:=qO (k:=k) (t:=t) U;omega) (zG aa U)
  have Z:k=6->Az (.mk k t l):=λq=>by
   subst q;have hbd2:3<=l.length/\l.length<=3:=J.2;obtain⟨x0,x1,x2,rfl⟩:=Of (show l.length=3 by omega);exact HG hw (hk x0 (by simp)).1 (hk x1 (by simp)).1 (hk x2 (by simp)).1 (hk x2 (by simp)).2
  exact⟨KH hw Y (λy U=>(hk y U).1) Z,Z⟩
def wv (x:Tr):By:=if eW cY x=true then bG false x else []
theorem yK (hw:x.wt<=1000000) (hg:Gl h) (Z:dK h O v x):au prog 11 #[v] h (bK λr h'=>r= .string (bs (wv x))/\aj h h'):=by
 obtain⟨k,t,a,n,c,rfl,hR⟩:=id Z.get;refine bJ ?_;refine af ?_;refine xo rfl (mh) ?_;rintro _ h1 ⟨rfl,k1,U,z1⟩;refine af ?_;refine xp rfl (cj rfl k1.row) (xo rfl (aE rfl (Cn hw (hg.ah U) (Z.mv (Mv.ah U)))) ?_);rintro _ h2 ⟨rfl,Y⟩;refine af ?_;refine jS (λI=>?_) (λI=>?_)
 · have I:eW cY x=false:=by simpa using I
   refine af ?_;refine aP ?_;exact⟨_,rfl,by unfold wv;rw[I];rfl,U.trans Y⟩
 · have I:eW cY x=true:=by simpa using I
   have J:=(IA _ x (Nat.le_refl _) hw I).1 h2 O _ (hg.ah (U.trans Y)) (Z.mv (Mv.ah (U.trans Y)));refine af ?_;refine xp rfl (cj rfl (k1.ah Y).row) (xo rfl (aE rfl J) ?_);rintro _ h3 ⟨rfl,e3⟩;refine af ?_;refine aP ?_;exact⟨_,rfl,by unfold wv;rw[if_pos I];rfl,(U.trans Y).trans e3⟩
end
end Go.Proofs.YtnjahnbpnpkmhaaGreatDoor
namespace Go.Proofs.YtnjahnbpnpkmhaaGreatDoor
open Go Go.Lw
set_option maxRecDepth 20000
theorem drop_cons {α:Type}{l:List α}{i:Nat}{x:α}(h:l[i]? =some x):l.drop i=x::l.drop (i+1):=by
  obtain⟨h1,I⟩:=List.getElem?_eq_some_iff.1 h;rw[List.drop_eq_getElem_cons h1,I]
theorem IE {l I:List Tr}(h:l.length≠I.length):om l I=false:=by
  rw[Bool.eq_false_iff];intro q;rw[tG] at q;rw[q] at h;exact h rfl
end Go.Proofs.YtnjahnbpnpkmhaaGreatDoor

/- What the proof of the statement leans on (part 26). -/
import Derived.Below
import Derived.Lib.TrimUEq
import Derived.Test.YtdgckfkoihcmjaaGreatDoorQy

namespace Go.Proofs.YtdgckfkoihcmjaaGreatDoor
open Go.Proofs.Tryz
open Go Go.Lw
set_option maxRecDepth 20000 set_option maxHeartbeats 4000000
section
variable {h:ai}{p:Value}
def Lz (h:ai):Prop:=(∀c,c<256->cellAt h ⟨8,c,none⟩=some (.int .u8 (Lib.firstT c))) /\
 (∀i,i<16->cellAt h ⟨9,2*i,none⟩=some (.int .u8 (Lib.accLo i))/\cellAt h ⟨9,2*i+1,none⟩=some (.int .u8 (Lib.accHi i)))
structure C0 (h:ai):Prop where
 sg:∃lim,lim<=h.size/\Sg h lim
 tens:sL h
 rules:mF h
 utf:Lz h
 most:∃m,cellAt h ⟨7,0,none⟩=some (.int .i64 m)
theorem C0.ah {h h':ai}(k:C0 h) (e:aj h h'):C0 h':=by
 obtain⟨⟨lim,h1,h2⟩,h3,h4,h5,m,h6⟩:=k;have hz:=e.size;exact⟨⟨lim,by omega,h2.ext e (fun _ k=>k.elim)⟩,h3.ah e,h4.ah e,⟨fun c hc=>e.cell (fun k=>k) (h5.1 c hc),fun i hi=>⟨e.cell (fun k=>k) (h5.2 i hi).1,e.cell (fun k=>k) (h5.2 i hi).2⟩⟩,m,e.cell (fun k=>k) h6⟩
theorem AS (hg:C0 h) (l:By) (hl:l≠[]):au Tryz.prog 105 #[.string (bs l)] h (bL fun r h'=>(∃x:Nat,r= .tuple #[.int .i32 (x:Nat),.int .i64 (qD l:Nat)])/\aj h h'):=by
 refine au.qK fun w hw=>?_
 subst hw;have hT:Lib.Utf8Tabs 8 9 w:=⟨fun c hc=>by rw[dm];exact hg.utf.1 c hc,fun i hi=>⟨by rw[dm];exact(hg.utf.2 i hi).1,by rw[dm];exact(hg.utf.2 i hi).2⟩⟩
 refine(Tryz.utf8_DecodeRuneInString (bs l) w hT).mono ?_;rintro e w' ⟨rfl,hb⟩
 have hn:(Lib.decodeGo (bs l)).2=qD l:=by
  have h0:¬(bs l).size=0:=by rw[aK];have:=List.length_pos_iff.2 hl;omega
  unfold Lib.decodeGo;rw[if_neg h0,Lib.decode_N,gj];rfl
 refine⟨_,rfl,⟨⟨(Lib.decodeGo (bs l)).1,by rw[hn]⟩,⟨hb.size,fun b hlt _=>hb.block b hlt⟩⟩,hb.os,hb.tape,hb.output⟩
theorem nM (hg:C0 h) (s t:By) (hs:s.length<=1000000):au Tryz.prog 107 #[.string (bs s),.string (bs t)] h (bL fun r h'=>r= .bool (Lib.contains s t)/\h'=h):=by
 obtain⟨m,hm⟩:=hg.most;refine au.qK fun w hw=>?_
 subst hw;refine(Tryz.strings_Contains (bs s) (bs t) m w (by rw[aK];omega) (by rw[dm];exact hm)).mono ?_;rintro e w' ⟨rfl,rfl⟩;rw[gj,gj];exact⟨_,rfl,⟨rfl,rfl⟩,rfl,rfl,rfl⟩
theorem uG (hg:C0 h) (s:By) (hs:s.length<=1000000):au Tryz.prog 70 #[.string (bs s)] h (bL fun r h'=>r= .bool (aW s)/\h'=h):=by
 have hbs:=aK s
 have e1:((⟨#[32]⟩:ByteArray)++bs s)++⟨#[32]⟩=bs (32::(s++[32])):=by
  rw[show (⟨#[32]⟩:ByteArray)=bs [32] from rfl,cL,cL];rfl
 have w1:(⟨#[32]⟩:ByteArray).size=1:=rfl;refine b9 ?_;refine bl ?_;refine cW ?_;refine bz ?_;refine dH ?_;refine bl ?_;refine gG [(2,.bool (aW s))] rfl ?_ ?_
 · refine af ?_;refine dV 5 (fun hc=>?_) (fun hc=>?_)
   · have hc':decide (s≠[])=true:=decide_eq_true (fun e=>of_decide_eq_true hc (by rw[e];rfl));refine af ?_;refine xo rfl (aF rfl (nM hg s [32] hs)) ?_;rintro _ h0 ⟨rfl,hh0⟩;subst hh0;refine af ?_;refine dV 10 (fun hc2=>?_) (fun hc2=>?_)
     · iterate 2 refine bz ?_
       refine xp rfl (az.bK rfl rfl (by rw[ByteArray.size_append];omega)) ?_;rw[e1];refine xo rfl (aF rfl (nM hg GZ (32::(s++[32])) (by decide))) ?_;rintro _ h1 ⟨rfl,hh1⟩;subst hh1;refine af ?_;exact aH rfl ⟨av rfl (by rw[aW,hc',hc2,Bool.true_and,Bool.true_and]),sb rfl⟩
     · refine af ?_;exact aH rfl ⟨av rfl (by rw[aW,hc',hc2,Bool.true_and,Bool.false_and]),sb rfl⟩
   · refine af ?_;exact aH rfl ⟨av rfl (by rw[aW,decide_eq_false (fun k=>of_decide_eq_false hc (fun e=>k (bu (m:=[]) e))),Bool.false_and]),sb rfl⟩
 · refine bw ?_;exact⟨_,rfl,rfl,rfl⟩
theorem Gg {m:Nat}(hm:m<3){i:Nat}:(pJ m)[i]?.map (fun r=>(r.2.1,r.2.2))=(qR m)[i]? :=by
 have h:(pJ m).map (fun r=>(r.2.1,r.2.2))=qR m:=by
  match m,hm with
  | 0,_=>decide
  | 1,_=>decide
  | 2,_=>decide
 rw[<-h,List.getElem?_map]
theorem se {m:Int}(h:m<0\/3<=m):qR m=[]:=by
 unfold qR;rw[if_neg (by omega),if_neg (by omega),if_neg (by omega)]
theorem Gq {α:Type}{l:List α}{kn:Nat}{n:Int}(hk:l.length=kn) (hn:¬n<0):decide ((kn:Int)<=n)= !(l[n.toNat]?).isSome:=by
 cases hq:l[n.toNat]? with
 |none=>have:=List.getElem?_eq_none_iff.1 hq;simp;omega
 |some v=>have:=(List.getElem?_eq_some_iff.1 hq).1;simp;omega
theorem wk (hg:C0 h) (m n:Int):au Tryz.prog 106 #[.int .i64 m,.int .i64 n] h (bL fun r h'=>(∃x:By×Int×Int,r= .tuple #[.agg (eX x).toArray,.bool (iK m n).isSome]/\∀p,iK m n=some p->(x.2.1,x.2.2)=p)/\aj h h'):=by
 refine b9 ?_;refine af ?_;refine xo rfl (cH) ?_;rintro _ h1 ⟨rfl,k1,e1,z1⟩;have k1:aD h1 h.size 146 [.string ⟨#[]⟩,.int .i64 0,.int .i64 0]:=k1
 have hrow:∀mm:Nat,mm<3->∃oa kn kc,cellAt h1 ⟨0,0+mm*1,none⟩=some (.slice oa kn kc)/\Sl Mm h1 (fun _=>False) oa kn kc (pJ mm):=fun mm hmm=>by
  obtain⟨v,hv,hsl⟩:=(hg.rules.ah e1) mm hmm;obtain⟨oa,kn,kc,rfl,h2⟩:=hsl.open;exact⟨oa,kn,kc,by rw[Nat.mul_one,Nat.zero_add];exact hv,h2⟩
 have hlenT:∀mm:Nat,mm<3->(pJ mm).length=(qR mm).length:=fun mm hmm=>by
  match mm,hmm with
  | 0,_=>rfl
  | 1,_=>rfl
  | 2,_=>rfl
 refine bz ?_;refine dH ?_
 iterate 2 refine bl ?_
 refine gG [(23,.bool (!(iK m n).isSome))] rfl ?_ ?_
 · refine af ?_;refine dV 8 (fun c1=>?_) (fun c1=>?_)
   · have c1':=of_decide_eq_true c1;refine af ?_;exact aH rfl ⟨av rfl (by rw[iK,se (.inl c1')];simp),sb rfl⟩
   · have c1':=of_decide_eq_false c1;refine af ?_;refine dV 12 (fun c2=>?_) (fun c2=>?_)
     · have c2':=of_decide_eq_true c2;refine af ?_;exact aH rfl ⟨av rfl (by rw[iK,se (.inr c2')];simp),sb rfl⟩
     · have c2':=of_decide_eq_false c2;refine af ?_;refine dV 16 (fun c3=>?_) (fun c3=>?_)
       · have c3':=of_decide_eq_true c3;refine af ?_;exact aH rfl ⟨av rfl (by rw[iK,if_pos c3'];rfl),sb rfl⟩
       · have c3':=of_decide_eq_false c3;obtain⟨mm,rfl⟩:=Int.eq_ofNat_of_zero_le (show 0<=m by omega);have hmm:mm<3:=by omega
         obtain⟨oa,kn,kc,hv,hsl⟩:=hrow mm hmm;have hkl:=hsl.len;rw[hlenT mm hmm] at hkl
         iterate 2 refine bz ?_
         refine xp rfl (Be rfl rfl mm rfl (by omega)) ?_;refine xp rfl (aA rfl hv) ?_;refine af ?_;exact aH rfl ⟨av rfl (by rw[iK,if_neg c3'];exact Gq hkl c3'),sb rfl⟩
 · rcases hf:iK m n with _|p
   · refine fH rfl (by simp) ?_;refine af ?_;refine xp rfl (aq (H.Mt ) rfl) ?_;refine aN rfl (aV rfl rfl k1) ?_;rintro _ h2 ⟨rfl,k2,x2,z2⟩;refine af ?_;have k2:aD h2 h.size 146 (eX ([],0,0)):=k2;refine cn (cg rfl k2.row (eD cm)) ?_;exact⟨_,rfl,⟨([],0,0),rfl,fun p hp=>by cases hp⟩,e1.only x2 (Nat.le_refl _)⟩
   · have hn0:0<=n:=by
      by_cases q:n<0
      · rw[iK,if_pos q] at hf;cases hf
      · omega
     have hm0:0<=m/\m<3:=by
      by_cases q:m<0\/3<=m
      · rw[iK,se q] at hf;simp at hf
      · omega
     obtain⟨mm,rfl⟩:=Int.eq_ofNat_of_zero_le hm0.1;obtain⟨i,rfl⟩:=Int.eq_ofNat_of_zero_le hn0;have hmm:mm<3:=by omega
     obtain⟨oa,kn,kc,hv,hsl⟩:=hrow mm hmm;have hkl:=hsl.len;rw[iK,if_neg (by omega),Int.toNat_natCast,<-Gg hmm] at hf;obtain⟨r,hr,hrp⟩:=Option.map_eq_some_iff.1 hf;obtain⟨b3,o3,cs3,ha3,_,hrow3,rfl⟩:=hsl.get i r hr;have hil:=(List.getElem?_eq_some_iff.1 hr).1;refine gm rfl (by simp) ?_
     iterate 2 refine bl ?_
     refine cW ?_;refine bz ?_;refine xp rfl (Be rfl rfl mm rfl (by omega)) ?_;refine xp rfl (aA rfl hv) ?_;refine bz ?_;refine xp rfl (cM rfl rfl i rfl ha3) ?_;refine xp rfl (b7 rfl hrow3) ?_;refine aN rfl (aV rfl rfl k1 (qx r)) ?_;rintro _ h2 ⟨rfl,k2,x2,z2⟩;refine af ?_;have k2:aD h2 h.size 146 (eX r):=k2;refine cn (cg rfl k2.row (eD cm)) ?_;exact⟨_,rfl,⟨r,rfl,fun p hp=>by cases hp;exact hrp⟩,e1.only x2 (Nat.le_refl _)⟩
theorem DL (hg:C0 h) (m n:Int):au Tryz.prog 69 #[.int .i64 m,.int .i64 n] h (bL fun r h'=>r= .int .i64 (nF m n)/\aj h h'):=by
 refine b9 ?_;refine af ?_;refine xo rfl (aF rfl (wk hg m n)) ?_;rintro _ h1 ⟨⟨x,rfl,hx⟩,e1⟩;refine af ?_;refine xo rfl (cH) ?_;rintro _ h2 ⟨rfl,k2,e2,z2⟩;refine aN rfl (aV rfl rfl k2 (qx x)) ?_;rintro _ h3 ⟨rfl,k3,x3,z3⟩;have k3:aD h3 h1.size 146 (eX x):=k3;have e3:aj h1 h3:=e2.only x3 (Nat.le_refl _)
 rcases hf:iK m n with _|p
 · refine af ?_;refine fH rfl (by simp) ?_;refine af ?_;refine bw ?_;exact⟨_,rfl,by rw[nF,hf];rfl,e1.trans e3⟩
 · have hp:=hx p hf;refine af ?_;refine gm rfl (by simp) ?_;refine af ?_;refine xp rfl (aA rfl (k3.cell (i:=1) rfl)) ?_;refine af ?_;refine bw ?_;exact⟨_,rfl,by rw[nF,hf,<-hp];rfl,e1.trans e3⟩
def bR (s:uB):List Value:=[.int .i64 s.1,.int .i64 s.2]
theorem gR (s:uB):∀v∈bR s,v.oneCell'=true:=fun v hv=>by simp[bR] at hv;rcases hv with rfl|rfl<;>rfl
def JF (i:Int):Prop:= -9223372036854775808<=i/\i<=9223372036854775807
theorem tR (hg:C0 h) (s:uB) (n:Int) (hs:JF s.2):au Tryz.prog 71 #[.agg (bR s).toArray,.int .i64 n] h (bL fun r h'=>r= .agg (bR (jP s n)).toArray/\aj h h'):=by
 obtain⟨m,d⟩:=s;obtain⟨hd1,hd2⟩:=hs;simp only at hd1 hd2;refine b9 ?_;refine af ?_;refine xo rfl (kH) ?_;rintro _ h1 ⟨rfl,k1,e1,z1⟩;refine xo rfl (cH) ?_;rintro _ h2 ⟨rfl,k2,e2,z2⟩;have k1:aD h1 h.size 54 [.int .i64 m,.int .i64 d]:=k1;have k2:aD h2 h1.size 54 [.int .i64 0,.int .i64 0]:=k2;have e02:=e1.trans e2;have q1:=k1.ah e2;refine af ?_;refine xp rfl (aA rfl (q1.cell (i:=0) rfl)) ?_;refine af ?_;refine xo rfl (aF rfl (wk (hg.ah e02) m n)) ?_;rintro _ h3 ⟨⟨x,rfl,hx⟩,e3⟩;refine af ?_;refine xo rfl (cH) ?_;rintro _ h4 ⟨rfl,k4,e4,z4⟩;refine aN rfl (aV rfl rfl k4 (qx x)) ?_;rintro _ h5 ⟨rfl,k5,x5,z5⟩;have k5:aD h5 h3.size 146 (eX x):=k5;have e45:aj h3 h5:=e4.only x5 (Nat.le_refl _);have e25:=e3.trans e45;have e05:=e02.trans e25;have s1:=q1.ah e25;have s2:=k2.ah e25;have hz1:=e1.size;have hz2:=e2.size;have hz5:=e25.size;have hne:¬h.size=h1.size:=by omega
 have hout:∀{g:ai},Ext (fun b=>b=h1.size) h5 g->aj h g:=fun e=>aj.only e05 e hz1
 rcases hf:iK m n with _|p
 · have haf:jP (m,d) n=(m,d):=by unfold jP;rw[hf]
   refine af ?_;refine fH rfl (by simp) ?_;refine af ?_;refine fH rfl (by simp) ?_;refine af ?_;refine xp rfl (b7 rfl s1.row) ?_;refine aN rfl (aV rfl rfl s2) ?_;rintro _ h6 ⟨rfl,k6,x6,z6⟩;refine af ?_;have k6:aD h6 h1.size 54 (bR (m,d)):=k6;refine cn (cg rfl k6.row cm) ?_;exact⟨_,rfl,by rw[haf];rfl,hout x6⟩
 · have hp:=hx p hf;obtain⟨hp1,hp2⟩:=Prod.mk.inj hp;have haf:jP (m,d) n=if x.2.2=0 then (m,d) else if x.2.2=1 then (1,0) else if x.2.2=3 then (2,min (max d 0) 16383+1) else if x.2.2=4/\1<d then (m,d-1) else (0,0):=by unfold jP;rw[hf,<-hp]
   refine af ?_;refine gm rfl (by simp) ?_;refine af ?_;refine xp rfl (aA rfl (k5.cell (i:=2) rfl)) ?_;refine af ?_;refine aX (fun h0=>?_) (fun h0=>?_)
   · rw[if_pos h0] at haf;refine af ?_;refine xp rfl (b7 rfl s1.row) ?_;refine aN rfl (aV rfl rfl s2) ?_;rintro _ h6 ⟨rfl,k6,x6,z6⟩;refine af ?_;have k6:aD h6 h1.size 54 (bR (m,d)):=k6;refine cn (cg rfl k6.row cm) ?_;exact⟨_,rfl,by rw[haf];rfl,hout x6⟩
   · rw[if_neg h0] at haf;refine af ?_;refine xp rfl (aA rfl (k5.cell (i:=2) rfl)) ?_;refine af ?_;refine aX (fun h1'=>?_) (fun h1'=>?_)
     · rw[if_pos h1'] at haf;refine af ?_;refine xp rfl (aq (H.Mq _) rfl) ?_;refine aN rfl (aV rfl rfl s2) ?_;rintro _ h6 ⟨rfl,k6,x6,z6⟩;refine af ?_;have k6:aD h6 h1.size 54 (bR (1,0)):=k6;refine cn (cg rfl k6.row cm) ?_;exact⟨_,rfl,by rw[haf];rfl,hout x6⟩
     · rw[if_neg h1'] at haf;refine af ?_;refine xp rfl (aA rfl (k5.cell (i:=2) rfl)) ?_;refine af ?_;refine aX (fun h3'=>?_) (fun h3'=>?_)
       · rw[if_pos h3'] at haf;refine af ?_;refine xp rfl (aA rfl (s1.cell (i:=1) rfl)) ?_;refine af ?_;refine xp rfl (aq (H.Jj _ _) rfl) ?_;refine aN rfl (aV rfl rfl s2) ?_;rintro _ h6 ⟨rfl,k6,x6,z6⟩;refine af ?_;have hmm:(if (16383:Int)<if d<0 then 0 else d then 16383 else if d<0 then 0 else d)=min (max d 0) 16383:=by split<;>split<;>omega
         have k6:aD h6 h1.size 54 (bR (2,min (max d 0) 16383+1)):=by rw[<-hmm];exact k6
         refine cn (cg rfl k6.row cm) ?_;exact⟨_,rfl,by rw[haf];rfl,hout x6⟩
       · rw[if_neg h3'] at haf;refine bl ?_;refine gG [(36,.bool (decide (x.2.2=4/\1<d)))] rfl ?_ ?_
         · refine af ?_;refine xp rfl (aA rfl (k5.cell (i:=2) rfl)) ?_;refine af ?_;refine dV 40 (fun hc=>?_) (fun hc=>?_)
           · have hc':=of_decide_eq_true hc;refine af ?_;refine xp rfl (aA rfl (s1.cell (i:=1) rfl)) ?_;refine af ?_;exact aH rfl ⟨av rfl (by simp[hc']),sb rfl⟩
           · have hc':=of_decide_eq_false hc;refine af ?_;exact aH rfl ⟨av rfl (by simp[hc']),sb rfl⟩
         · refine aX (fun h4'=>?_) (fun h4'=>?_)
           · rw[if_pos h4'] at haf;refine af ?_;refine xp rfl (aA rfl (s1.cell (i:=1) rfl)) ?_;refine af ?_;refine aN rfl (bV H.mW rfl rfl rfl (s1.cell (i:=1) rfl) s1.nf) ?_;rintro _ h6 ⟨rfl,hg6⟩;have s6:=s1.set 1 (.int .i64 (d-1));have x6:Ext (fun b=>b=h.size) h5 h6:=by rw[hg6];exact Ext.dW _ _ _ rfl
             have s6:aD h6 h.size 54 (bR (m,d-1)):=by rw[hg6];exact s6
             refine af ?_;refine xp rfl (b7 rfl s6.row) ?_;refine aN rfl (aV rfl rfl ((s2.ext x6 (fun k=>by omega))) (gR _)) ?_;rintro _ h7 ⟨rfl,k7,x7,z7⟩;refine af ?_;have k7:aD h7 h1.size 54 (bR (m,d-1)):=k7;refine cn (cg rfl k7.row cm) ?_;have hz6:=x6.size;exact⟨_,rfl,by rw[haf];rfl,aj.only (aj.only e05 x6 (Nat.le_refl _)) x7 hz1⟩
           · rw[if_neg h4'] at haf;refine af ?_;refine xp rfl (aq (H.Oa ) rfl) ?_;refine aN rfl (aV rfl rfl s2) ?_;rintro _ h6 ⟨rfl,k6,x6,z6⟩;refine af ?_;have k6:aD h6 h1.size 54 (bR (0,0)):=k6;refine cn (cg rfl k6.row cm) ?_;exact⟨_,rfl,by rw[haf];rfl,hout x6⟩
theorem CE (hg:C0 h) (s:By) (k:Nat) (hk:k<s.length) (hs:s.length<=1000000):au Tryz.prog 68 #[.string (bs s),.int .i64 (k:Nat)] h (bL fun r h'=>(∃(x:Nat) (ok:Bool),r= .tuple #[.int .i32 (x:Nat),.int .i64 (qD (s.drop k):Nat),.bool ok])/\aj h h'):=by
 have hbs:=aK s;have hne:s.drop k≠[]:=fun e=>by have:=congrArg List.length e;rw[List.length_drop] at this;simp at this;omega
 refine b9 ?_;refine bl ?_;refine cW ?_
 iterate 3 refine bz ?_
 refine dH ?_
 iterate 2 refine bl ?_
 refine gG [(14,.bool false)] rfl ?_ ?_
 · refine af ?_;refine RW.cy (d:=9) (b':=false) rfl ((by simp)) ?_;refine af ?_;exact aH rfl ⟨av rfl (by simp;omega),sb rfl⟩
 · refine gm rfl (by decide) ?_;refine af ?_;refine xp rfl (az.iq underlying9 rfl rfl k rfl (by omega)) ?_;rw[oD];refine xo rfl (aF rfl (AS hg (s.drop k) hne)) ?_;rintro _ h1 ⟨⟨x,rfl⟩,e1⟩;generalize hn:qD (s.drop k)=n
   iterate 5 refine bz ?_
   refine dH ?_;refine bl ?_;refine gG [(4,.int .i32 (x:Nat)),(5,.int .i64 (n:Nat)),(6,.bool (decide (¬(x:Int)=65533\/(1:Int)<n)))] rfl ?_ ?_
   · refine af ?_;refine dV 26 (fun hc=>?_) (fun hc=>?_)
     · have hc':=of_decide_eq_true hc;refine af ?_;exact aH rfl ⟨rfl,rfl,av rfl (by rw[decide_eq_true (Or.inl hc')]),sb rfl⟩
     · have hc':=of_decide_eq_false hc;refine af ?_;exact aH rfl ⟨rfl,rfl,av rfl (by simp only[decide_eq_decide];exact⟨fun q=>.inr q,fun q=>q.resolve_left hc'⟩),sb rfl⟩
   · refine bw ?_;exact⟨_,rfl,⟨x,_,rfl⟩,e1⟩
theorem Cf (k:pH h p):au Tryz.prog 66 #[p] h (bL fun r h'=>r= .bool false/\h'=h):=by
 obtain⟨lb,vm,rfl,hk,⟨oa,n,c,rfl,hl,_⟩⟩:=k;have hl:n=3:=by rw[<-hl];rfl
 subst hl;refine b9 ?_;refine bl ?_;refine cW ?_;refine bz ?_;refine dH ?_;refine bl ?_;refine gG [(2,.bool false)] rfl ?_ ?_
 · refine bz ?_;refine xp rfl (az.so underlying50 rfl rfl) ?_;refine af ?_;refine RW.cy (d:=5) (b':=false) rfl (rfl) ?_;refine af ?_;refine xp rfl (aA rfl (hk.cell (i:=0) rfl)) ?_;refine af ?_;exact aH rfl ⟨av rfl (rfl),sb rfl⟩
 · refine bw ?_;exact⟨_,rfl,rfl,rfl⟩
def DG (m:Int) (l:By):Int:=if 0<=m/\m<3 then (aJ (l7 (oK m)) l 0 0 (0,-1)).2.2 else 0
theorem Gb (m:Nat) (hm:m<3) (s:By) (k:Nat) (hk:k<=s.length):dc (l7 (oK m)) s k=((eW m (s.drop k)).1,(eW m (s.drop k)).2,DG m (s.drop k)):=by
 obtain⟨ss,st,h1,h2,h3,h4,h5⟩:=vI m hm;have hok:=oA h2;have hsp:=yR hok.1 hok.2;have htl:=Dh hok.1 hsp.1 hsp.2.2.2.2 hok.2 hsp.2.1 (fun w=>(hsp.2.2.2.1 w).symm) s k;have htm:=Bx h2 s k;have hst:=(gy h1).stl
 have hM:Av (iw m) s k=eW m (s.drop k):=by
  unfold Av DC;rw[h1];simp only;rw[if_neg (by omega),Int.toNat_natCast,h4]
 rw[hM] at htm
 have hA:(dc (l7 (oK m)) s k).2.2=DG m (s.drop k):=by
  rw[DG,if_pos (show (0:Int)<=m/\(m:Int)<3 by omega),dc,if_neg (by have:=hsp.2.1;omega),Int.toNat_natCast]
 rw[<-hA];refine Prod.ext ?_ (Prod.ext ?_ rfl)
 · rw[<-htl.1];exact(Prod.mk.inj htm).1
 · rw[<-htl.2.1];exact(Prod.mk.inj htm).2
theorem Io {m:Int}(h:m<0\/3<=m) (l:By):eW m l=(0,-1):=by
 unfold eW;rw[if_neg (by omega),if_neg (by omega),if_neg (by omega)]
theorem Aw (k:pH h p) (s:By) (i:Nat) (hi:i<=s.length) (hs:s.length<=1000000) (m:Int) :
 au Tryz.prog 67 #[p,.string (bs s),.int .i64 (i:Nat),.int .i64 m] h (bL fun r h'=>r= .tuple #[.int .i64 (eW m (s.drop i)).1,.int .i64 (eW m (s.drop i)).2,.int .i64 (DG m (s.drop i))]/\h'=h):=by
 obtain⟨lb,vm,rfl,hk,hv⟩:=k;obtain⟨oa,n,c,rfl,hsl⟩:=hv.open;have hl:n=3:=by rw[<-hsl.len];rfl
 subst hl;refine b9 ?_;refine bl ?_;refine cW ?_
 iterate 3 refine bz ?_
 refine dH ?_
 iterate 2 refine bl ?_
 refine gG [(21,.bool (decide (m<0\/3<=m)))] rfl ?_ ?_
 · refine af ?_;refine dV 13 (fun hc=>?_) (fun hc=>?_)
   · have hc':=of_decide_eq_true hc;refine af ?_;exact aH rfl ⟨av rfl (by simp[hc']),sb rfl⟩
   · have hc':=of_decide_eq_false hc;refine af ?_;refine xp rfl (aA rfl (hk.cell (i:=0) rfl)) ?_;refine af ?_;exact aH rfl ⟨av rfl (by simp only[decide_eq_decide];omega),sb rfl⟩
 · refine aX (fun hout=>?_) (fun hout=>?_)
   · rw[Io hout];refine af ?_;refine bw ?_;exact⟨_,rfl,by rw[DG,if_neg (by omega)];rfl,rfl⟩
   · obtain⟨mm,rfl⟩:=Int.eq_ofNat_of_zero_le (show 0<=m by omega);have hmm:mm<3:=by omega
     have hx:(vJ 3)[mm]? =some (l7 (oK mm)):=by
      match mm,hmm with
      | 0,_=>rfl
      | 1,_=>rfl
      | 2,_=>rfl
     obtain⟨b3,o3,cs3,ha3,_,hrow3,db,rfl,htab⟩:=hsl.get mm _ hx;obtain⟨ss,st,h1,h2,h3,h4,h5⟩:=vI mm hmm;have hok:=oA h2;have hsp:=yR hok.1 hok.2;refine af ?_;refine xp rfl (aA rfl (hk.cell (i:=0) rfl)) ?_;refine bz ?_;refine xp rfl (cM rfl rfl mm rfl ha3) ?_;refine xp rfl (aA rfl (hrow3 0 _ rfl)) ?_;refine af ?_;refine xo rfl (aF rfl (AP (s:=s) (a:=(i:Int)) (.inr ⟨db,rfl,htab.rd⟩) hsp.1 hs)) ?_;rintro _ h0 ⟨rfl,hh0⟩;subst hh0;rw[Gb mm hmm s i hi];refine af ?_;refine bw ?_;exact⟨_,rfl,rfl,rfl⟩
def fE (t:Tk):List Value:=[.int .i64 t.1,.int .i64 t.2.1,.int .i64 t.2.2]
theorem pI (t:Tk):∀v∈fE t,v.oneCell'=true:=fun v hv=>by simp[fE] at hv;rcases hv with rfl|rfl|rfl<;>rfl
theorem GL {s:uB}(h:JF s.2) (n:Int):JF (jP s n).2:=by
 unfold JF at *;unfold jP;split
 · exact h
 · split
   · exact h
   · split
     · simp only;omega
     · split
       · simp only;omega
       · split
         · simp only;omega
         · simp only;omega
theorem JV {s:uB}(h:JF s.2) (l:By):JF (pO l s).2:=by
 unfold pO;split
 · exact h
 · exact GL h _
theorem jB {h':ai}{b:Nat}{t:TypeId}{cs:List Value}(k:aD h b t cs) (k':aD h' b t cs) (e:Ext (fun x=>x=b) h h'):aj h h':=⟨e.size,fun x hx _=>by
 by_cases q:x=b
 · subst q;exact k'.trans k.symm
 · exact e.block x hx q⟩
def L6 (s:By) (i:Nat) (st:uB):Value:=.tuple #[.agg (fE (oL (s.drop i) st.1,(i:Int),((i+dO (s.drop i) st.1:Nat):Int))).toArray,.agg (bR (pO (s.drop i) st)).toArray,.int .i64 (DG st.1 (s.drop i))]
theorem FX (hg:C0 h) (k:pH h p) (s:By) (i:Nat) (hi:i<s.length) (hs:s.length<=1000000) (st:uB) (hst:JF st.2) :
 au Tryz.prog 29 #[p,.string (bs s),.int .i64 (i:Nat),.agg (bR st).toArray] h (bL fun r h'=>r=L6 s i st/\aj h h'):=by
 have hbs:=aK s;unfold L6;have hne:s.drop i≠[]:=fun e=>by have:=congrArg List.length e;rw[List.length_drop] at this;simp at this;omega
 have hll:=Ch st.1 (s.drop i);have hrl:=BP hne;rw[List.length_drop] at hll hrl;refine b9 ?_;refine af ?_;refine xo rfl (kH) ?_;rintro _ h1 ⟨rfl,k7,e1,z1⟩;refine xo rfl (cH) ?_;rintro _ h2 ⟨rfl,k8,e2,z2⟩;refine xo rfl (cH) ?_;rintro _ h3 ⟨rfl,k9,e3,z3⟩;have k7:aD h1 h.size 54 (bR st):=k7;have k8:aD h2 h1.size 92 (fE (0,0,0)):=k8;have k9:aD h3 h2.size 54 (bR (0,0)):=k9;have e03:=(e1.trans e2).trans e3;have q7:=(k7.ah e2).ah e3;have q8:=k8.ah e3;have y1:=e1.size;have y2:=e2.size;have hout:∀{g g2 g3:ai},aj h3 g->Ext (fun b=>b=h1.size) g g2->Ext (fun b=>b=h2.size) g2 g3->aj h g3:=fun ea eb ec=>aj.only (aj.only (e03.trans ea) eb (by omega)) ec (by omega)
 refine bz ?_;refine dH ?_
 iterate 2 refine bl ?_
 refine gG [(27,.bool false)] rfl ?_ ?_
 · refine af ?_;refine xo rfl (aF rfl (Cf (k.ah e03))) ?_;rintro _ h4 ⟨rfl,hh4⟩;subst hh4;refine af ?_;refine RW.cy (d:=18) (b':=false) rfl (rfl) ?_;refine af ?_;refine RW.cy (d:=22) (b':=false) rfl ((by simp)) ?_;refine af ?_;exact aH rfl ⟨av rfl (by simp;omega),sb rfl⟩
 · refine gm rfl (by decide) ?_;refine af ?_;refine xp rfl (aA rfl (q7.cell (i:=0) rfl)) ?_;refine xo rfl (aF rfl (Aw (k.ah e03) s i (by omega) hs st.1)) ?_;rintro _ h4 ⟨rfl,hh4⟩;subst hh4;refine af ?_;refine aX (fun hz=>?_) (fun hz=>?_)
   · have hlen:dO (s.drop i) st.1=qD (s.drop i):=by rw[dO,if_pos hz]
     have hknd:oL (s.drop i) st.1=0:=by rw[oL,if_pos hz]
     have hnxt:pO (s.drop i) st=st:=by rw[pO,if_pos hz]
     rw[hlen,hknd,hnxt];refine af ?_;refine xo rfl (aF rfl (CE (hg.ah e03) s i hi hs)) ?_;rintro _ h5 ⟨⟨x,ok,rfl⟩,e5⟩;have r7:=q7.ah e5;have r8:=q8.ah e5;have r9:=k9.ah e5;have y5:=e5.size;have hM7:¬(h.size=h1.size\/h.size=h2.size\/Array.size h5<=h.size):=by have:=e03.size;omega
     refine af ?_;refine lO 10 (fun b=>b=Array.size h1\/b=Array.size h2\/Array.size h5<=b) (fun i=>Nat.blt i 9) ?_;refine aG 0 ?_;refine aG 1 ?_;refine aG 2 ?_;refine aG 3 ?_;refine bJ 4 rfl (fun h' e=>aq (H.wU _ _ _) rfl) ?_;refine bJ 5 rfl (fun h' e=>b7 rfl (e.rowAt hM7 r7.row)) ?_;refine aG 6 ?_;refine jZ 7 rfl (aV rfl rfl r8) ?_;rintro _ h6 ⟨rfl,w8,x6,z6⟩;refine⟨fun _=>x6.mono (fun _ _ k=>.inl k),?_⟩;refine jZ 8 rfl (aV rfl rfl ((r9.ext x6 (fun k=>by omega))) (gR st)) ?_;rintro _ h7 ⟨rfl,w9,x7,z7⟩;refine⟨fun _=>x7.mono (fun _ _ k=>.inr (.inl k)),?_⟩;have w8:aD h6 h1.size 92 (fE (0,(i:Int),((i+qD (s.drop i):Nat):Int))):=by rw[Int.natCast_add];exact w8
     have w8:=w8.ext x7 (show ¬h1.size=h2.size by omega);have w9:aD h7 h2.size 54 (bR st):=w9;refine aG 9 ?_;refine iO ?_;refine cn (cg rfl w8.row (cg rfl w9.row (eD cm))) ?_;exact⟨_,rfl,rfl,hout e5 x6 x7⟩
   · obtain⟨L,hL⟩:=Int.eq_ofNat_of_zero_le hll.1;have hL0:0<L:=by omega
     have hlen:dO (s.drop i) st.1=L:=by rw[dO,if_neg hz,hL];rfl
     have hknd:oL (s.drop i) st.1=if nF st.1 (eW st.1 (s.drop i)).2=3/\aW ((s.drop i).take L)=true then 4 else nF st.1 (eW st.1 (s.drop i)).2:=by rw[oL,if_neg hz,hL];rfl
     have hnxt:pO (s.drop i) st=jP st (eW st.1 (s.drop i)).2:=by rw[pO,if_neg hz]
     rw[hlen,hknd,hnxt,hL];generalize (eW st.1 (s.drop i)).2=rl at *;rw[hL] at hll;refine af ?_;refine xp rfl (aA rfl (q7.cell (i:=0) rfl)) ?_;refine af ?_;refine xo rfl (aF rfl (DL (hg.ah e03) st.1 rl)) ?_;rintro _ h5 ⟨rfl,e5⟩;refine af ?_;refine xp rfl (aq (H.wU _ _ _) rfl) ?_;refine aN rfl (aV rfl rfl ((q8.ah e5))) ?_;rintro _ h6 ⟨rfl,w8,x6,z6⟩;have w8:aD h6 h1.size 92 (fE (nF st.1 rl,(i:Int),((i+L:Nat):Int))):=by rw[Int.natCast_add];exact w8
     generalize nF st.1 rl=kd at *;have hcut:(bs s).extract i (i+L)=bs ((s.drop i).take L):=by rw[uy s i (i+L) (by omega),List.drop_take,Nat.add_sub_cancel_left]
     have y6:=x6.size;have e06:aj h h6:=aj.only (e03.trans e5) x6 (by omega);have r7:=(q7.ah e5).ext x6 (show ¬h.size=h1.size by omega);have r9:=(k9.ah e5).ext x6 (show ¬h2.size=h1.size by omega);refine dH ?_
     iterate 2 refine bl ?_
     refine gG [(76,.bool (decide (kd=3/\aW ((s.drop i).take L)=true)))] rfl ?_ ?_
     · refine af ?_;refine xp rfl (aA rfl (w8.cell (i:=0) rfl)) ?_;refine af ?_;refine dV 68 (fun hc=>?_) (fun hc=>?_)
       · have hc':kd=3:=of_decide_eq_true hc;refine af ?_;refine xp rfl (aA rfl (w8.cell (i:=1) rfl)) ?_;refine af ?_;refine xp rfl (aA rfl (w8.cell (i:=2) rfl)) ?_;refine xp rfl (az.uR underlying9 rfl rfl i rfl rfl (i+L) rfl (by omega) (by omega)) ?_;rw[hcut];refine xo rfl (aF rfl (uG (hg.ah e06) ((s.drop i).take L) (by rw[List.length_take,List.length_drop];omega))) ?_;rintro _ h7 ⟨rfl,hh7⟩;subst hh7;refine af ?_;exact aH rfl ⟨av rfl (by simp[hc']),sb rfl⟩
       · have hc':¬kd=3:=of_decide_eq_false hc;refine af ?_;exact aH rfl ⟨av rfl (by simp[hc']),sb rfl⟩
     · refine aX (fun hw=>?_) (fun hw=>?_)
       · refine af ?_;refine aN rfl (bV H.mW rfl rfl rfl (w8.cell (i:=0) rfl) w8.nf) ?_;rintro _ h7 ⟨rfl,hg7⟩;have w7:=w8.set 0 (.int .i64 4);have x7:Ext (fun b=>b=h1.size) h6 h7:=by rw[hg7];exact Ext.dW _ _ _ rfl
         have w7:aD h7 h1.size 92 (fE (4,(i:Int),((i+L:Nat):Int))):=by rw[hg7];exact w7
         have y7:=x7.size;have e07:aj h h7:=aj.only e06 x7 (by omega);have p7:=r7.ext x7 (show ¬h.size=h1.size by omega);have p9:=r9.ext x7 (show ¬h2.size=h1.size by omega);have hMa:¬(h1.size=h2.size\/Array.size h7<=h1.size):=by have:=e03.size;have:=e5.size;omega
         have hMb:¬(h.size=h2.size\/Array.size h7<=h.size):=by have:=e03.size;have:=e5.size;omega
         refine af ?_;refine lO 8 (fun b=>b=Array.size h2\/Array.size h7<=b) (fun i=>Nat.blt i 7) ?_;refine bJ 0 rfl (fun h' e=>b7 rfl (e.rowAt hMa w7.row)) ?_;refine bJ 1 rfl (fun h' e=>b7 rfl (e.rowAt hMb p7.row)) ?_;refine aG 2 ?_;refine aG 4 ?_;refine dR 3 rfl (aF rfl (tR (hg.ah e07) st rl hst)) ?_;rintro _ h8 ⟨rfl,e8⟩;refine⟨fun _=>e8.mono (fun _ _ k=>k.elim),?_⟩;have w8':=w7.ah e8;refine jZ 5 rfl (aV rfl rfl w8' (pI _)) ?_;rintro _ h9 ⟨rfl,w9',x9,z9⟩;refine⟨fun _=>(jB w8' w9' x9).mono (fun _ _ k=>k.elim),?_⟩;have w9':aD h9 h1.size 92 (fE (4,(i:Int),((i+L:Nat):Int))):=w9';have e9:=jB w8' w9' x9;have p9':=(p9.ah e8).ah e9;refine jZ 6 rfl (aV rfl rfl p9' (gR _)) ?_;rintro _ h10 ⟨rfl,w10,x10,z10⟩;refine⟨fun _=>x10.mono (fun _ _ k=>.inl k),?_⟩;have w10:aD h10 h2.size 54 (bR (jP st rl)):=w10;have w11:=w9'.ext x10 (show ¬h1.size=h2.size by omega);refine aG 7 ?_;refine iO ?_;refine cn (cg rfl w11.row (cg rfl w10.row (eD cm))) ?_;have y10:=x10.size;exact⟨_,rfl,by rw[if_pos hw];rfl,aj.only ((e07.trans e8).trans e9) x10 (by omega)⟩
       · have hMa:¬(h1.size=h2.size\/Array.size h6<=h1.size):=by have:=e03.size;have:=e5.size;omega
         have hMb:¬(h.size=h2.size\/Array.size h6<=h.size):=by have:=e03.size;have:=e5.size;omega
         refine af ?_;refine lO 8 (fun b=>b=Array.size h2\/Array.size h6<=b) (fun i=>Nat.blt i 7) ?_;refine bJ 0 rfl (fun h' e=>b7 rfl (e.rowAt hMa w8.row)) ?_;refine bJ 1 rfl (fun h' e=>b7 rfl (e.rowAt hMb r7.row)) ?_;refine aG 2 ?_;refine aG 4 ?_;refine dR 3 rfl (aF rfl (tR (hg.ah e06) st rl hst)) ?_;rintro _ h8 ⟨rfl,e8⟩;refine⟨fun _=>e8.mono (fun _ _ k=>k.elim),?_⟩;have w8':=w8.ah e8;refine jZ 5 rfl (aV rfl rfl w8' (pI _)) ?_;rintro _ h9 ⟨rfl,w9',x9,z9⟩;refine⟨fun _=>(jB w8' w9' x9).mono (fun _ _ k=>k.elim),?_⟩;have w9':aD h9 h1.size 92 (fE (kd,(i:Int),((i+L:Nat):Int))):=w9';have e9:=jB w8' w9' x9;have p9':=(r9.ah e8).ah e9;refine jZ 6 rfl (aV rfl rfl p9' (gR _)) ?_;rintro _ h10 ⟨rfl,w10,x10,z10⟩;refine⟨fun _=>x10.mono (fun _ _ k=>.inl k),?_⟩;have w10:aD h10 h2.size 54 (bR (jP st rl)):=w10;have w11:=w9'.ext x10 (show ¬h1.size=h2.size by omega);refine aG 7 ?_;refine iO ?_;refine cn (cg rfl w11.row (cg rfl w10.row (eD cm))) ?_;have y10:=x10.size;exact⟨_,rfl,by rw[if_neg hw];rfl,aj.only ((e06.trans e8).trans e9) x10 (by omega)⟩
end
end Go.Proofs.YtdgckfkoihcmjaaGreatDoor
namespace Go.Proofs.YtdgckfkoihcmjaaGreatDoor
open Go
theorem Jr (n a:Nat) (st:uB):iN n [] a st=([],st):=by cases n<;>simp[iN]
theorem GK {n:Nat}{l:By}(hl:l≠[]) (hn:l.length<=n) (a:Nat) (st:uB) :
    iN n l a st=((oL l st.1,(a:Int),((a+dO l st.1:Nat):Int))::(iN n (l.drop (dO l st.1)) (a+dO l st.1) (pO l st)).1,(iN n (l.drop (dO l st.1)) (a+dO l st.1) (pO l st)).2):=by
  have hp:=List.length_pos_iff.2 hl;have hk:=nD hl st.1;obtain⟨m,rfl⟩:∃m,n=m+1:=⟨n-1,by omega⟩
  rw[sH (m+1) (m+1) (l.drop (dO l st.1)) _ _ (by rw[List.length_drop];omega) (by rw[List.length_drop];omega),<-sH m (m+1) (l.drop (dO l st.1)) (a+dO l st.1) (pO l st) (by rw[List.length_drop];omega) (by rw[List.length_drop];omega)];rw[iN,if_neg hl]
theorem xd:∀(n:Nat) (l:By) (a:Nat) (st:uB),(iN n l a st).1.length<=l.length
  | 0,l,a,st=>by simp[iN]
  |n+1,l,a,st=>by
    rw[iN];split
    · simp
    · rename_i h;have h1:=nD h st.1;have h2:=xd n (l.drop (dO l st.1)) (a+dO l st.1) (pO l st);rw[List.length_drop] at h2;simp only[List.length_cons];omega
end Go.Proofs.YtdgckfkoihcmjaaGreatDoor
namespace Go.Proofs.YtdgckfkoihcmjaaGreatDoor
open Go.Proofs.Tryz
open Go Go.Lw
set_option maxRecDepth 20000 set_option maxHeartbeats 4000000
section
variable {h:ai}{α:Type}{i n c:Nat}{s:By}{v w:Value}{ts:List Tok}{t:Tok}{a e:Int}{O:Nat->Prop}{x:Vl}
theorem JU {p:Value}{b:Bool}(hn:∀g,aj h g->au Tryz.prog 66 #[p] g (bL fun r h'=>r= .bool b/\h'=g)) (s:By) (i:Int) (hs:s.length<=1000000) (st:uB) (hb:b=true\/i<0\/(s.length:Int)<=i) :
 au Tryz.prog 29 #[p,.string (bs s),.int .i64 i,.agg (bR st).toArray] h (bL fun r h'=>r= .tuple #[.agg (fE (0,0,0)).toArray,.agg (bR st).toArray,.int .i64 0]/\aj h h'):=by
 have hbs:=aK s;refine b9 ?_;refine af ?_;refine xo rfl (kH) ?_;rintro _ h1 ⟨rfl,k7,e1,z1⟩;refine xo rfl (cH) ?_;rintro _ h2 ⟨rfl,k8,e2,z2⟩;refine xo rfl (cH) ?_;rintro _ h3 ⟨rfl,k9,e3,z3⟩;have k7:aD h1 h.size 54 (bR st):=k7;have k8:aD h2 h1.size 92 (fE (0,0,0)):=k8;have k9:aD h3 h2.size 54 (bR (0,0)):=k9;have e03:=(e1.trans e2).trans e3;have q7:=(k7.ah e2).ah e3;have q8:=k8.ah e3;have y1:=e1.size;have y2:=e2.size;refine bz ?_;refine dH ?_
 iterate 2 refine bl ?_
 refine gG [(27,.bool true)] rfl ?_ ?_
 · refine af ?_;refine xo rfl (aF rfl (hn _ e03)) ?_;rintro _ h4 ⟨rfl,hh4⟩;subst hh4;refine af ?_;refine dV 18 (fun c1=>?_) (fun c1=>?_)
   · refine af ?_;exact aH rfl ⟨av rfl (rfl),sb rfl⟩
   · refine af ?_;refine dV 22 (fun c2=>?_) (fun c2=>?_)
     · refine af ?_;exact aH rfl ⟨av rfl (rfl),sb rfl⟩
     · have c2':=of_decide_eq_false c2;refine af ?_;exact aH rfl ⟨av rfl (by rw[decide_eq_true_iff];rcases hb with k|k|k;rw[c1] at k;cases k;exact absurd k c2';omega),sb rfl⟩
 · refine fH rfl (by decide) ?_;have hM:¬(h.size=h1.size\/Array.size h3<=h.size):=by have:=e03.size;omega
   refine af ?_;refine lO 5 (fun b=>b=Array.size h1\/Array.size h3<=b) (fun i=>Nat.blt i 3) ?_;refine bJ 0 rfl (fun h' e=>aq (H.N7 ) rfl) ?_;refine bJ 1 rfl (fun h' e=>b7 rfl (e.rowAt hM q7.row)) ?_;refine jZ 2 rfl (aV rfl rfl q8) ?_;rintro _ h4 ⟨rfl,w8,x4,zz4⟩;refine⟨fun _=>x4.mono (fun _ _ k=>.inl k),?_⟩;have w8:aD h4 h1.size 92 (fE (0,0,0)):=w8;refine jZ 3 rfl (aV rfl rfl ((k9.ext x4 (show ¬h2.size=h1.size by omega))) (gR st)) ?_;rintro _ h5 ⟨rfl,w9,x5,z5⟩;refine⟨nofun,?_⟩;refine aG 4 ?_;refine iO ?_;have w9:aD h5 h2.size 54 (bR st):=w9;have w8:=w8.ext x5 (show ¬h1.size=h2.size by omega);refine cn (cg rfl w8.row (cg rfl w9.row (eD cm))) ?_;exact⟨_,rfl,rfl,aj.only (aj.only e03 x4 (by omega)) x5 (by omega)⟩
def Ku:gN Tk:=.record 3 (by decide) fE (fun _=>rfl) pI
def lH (p:UInt8×UInt8):List Value:=[.int .u8 p.1.toNat,.int .u8 p.2.toNat]
def Mk:List Value:=iR.flatMap lH
def n8 (h:ai):Prop:=Lw.rowAt h 1 0 Mk
theorem n8.ah {h':ai}(k:n8 h) (e:aj h h'):n8 h':=e.rowAt (fun k=>k) k
theorem Mj (i:Nat) (hi:i<6):Mk.toArray.extract (i*2) (i*2+2)=(lH (iR.getD i (0,0))).toArray:=by
 match i,hi with
 | 0,_=>rfl
 | 1,_=>rfl
 | 2,_=>rfl
 | 3,_=>rfl
 | 4,_=>rfl
 | 5,_=>rfl
theorem HU (p:UInt8×UInt8):∀v∈lH p,v.oneCell'=true:=fun v hv=>by simp[lH] at hv;rcases hv with rfl|rfl<;>rfl
theorem LK (a b:UInt8):((a.toNat:Int)=(b.toNat:Int))↔a=b:=⟨fun h=>UInt8.toNat_inj.1 (Int.ofNat.inj h),fun h=>by rw[h]⟩
theorem nK {p:α->Bool}{l:List α}(h:∀a∈l.take i,p a=false) (hi:i=l.length):l.find? p=none:=by
 subst hi;rw[List.take_length] at h;rw[List.find?_eq_none];intro a ha;rw[h a ha];simp
theorem EV {p:α->Bool}{l:List α}{a:α}(h:∀a∈l.take i,p a=false) (ha:l[i]? =some a) (hp:p a=true):l.find? p=some a:=by
 induction l generalizing i with
 |nil=>simp at ha
 |cons b l ih =>
  cases i with
  |zero=>simp at ha;subst ha;rw[List.find?_cons_of_pos hp]
  |succ i =>
   rw[List.find?_cons_of_neg (by rw[h b (by simp)];simp)];exact ih (i:=i) (fun a ha=>h a (by simp[ha])) (by simpa using ha)
theorem xT (hg:n8 h) (s:By):au Tryz.prog 73 #[.string (bs s)] h (bL fun r h'=>r= .int .u8 (qW s).toNat/\aj h h'):=by
 have hbs:=aK s;refine b9 ?_;refine af ?_;refine aX (fun hlt=>?_) (fun hlt=>?_)
 · refine af ?_;refine bw ?_;have h1:s[1]? =none:=List.getElem?_eq_none (by omega);exact⟨_,rfl,by unfold qW;rw[h1];rfl,Ext.refl _ _⟩
 · obtain⟨c,hc⟩:∃c,s[1]? =some c:=⟨_,List.getElem?_eq_getElem (show 1<s.length by omega)⟩
   have hE:qW s=Kp c:=by unfold qW;rw[hc]
   rw[hE];refine af ?_;refine xp rfl (b7 rfl hg) ?_;refine af ?_;refine jd (σ:=Nat) (fun i=>[(9,.int .i64 (i:Nat))]) (fun i h'=>aj h h'/\i<=6/\∀p∈iR.take i,(p.1 ==c)=false) (fun i=>6-i) (0) ⟨Ext.refl _ _,by omega,by simp⟩ rfl ?_;rintro i g ⟨eg,hi,hin⟩ ih;refine af ?_;refine aX (fun hi6=>?_) (fun hi6=>?_)
   · have hil:i<6:=by omega
     obtain⟨p,hp⟩:∃p,iR[i]? =some p:=⟨_,List.getElem?_eq_getElem (show i<iR.length from hil)⟩
     have hpd:iR.getD i (0,0)=p:=by rw[List.getD_eq_getElem?_getD,hp];rfl
     have hcut:=Mj i hil;rw[hpd] at hcut;refine af ?_;refine xp rfl (az.Gk underlying215 H.Hr H.Lv rfl rfl i rfl hil hcut) ?_;refine xo rfl (cH) ?_;rintro _ g1 ⟨rfl,k1,e1,z1⟩;refine aN rfl (aV rfl rfl k1 (HU p)) ?_;rintro _ g2 ⟨rfl,k2,x2,z2⟩;have k2:aD g2 g.size 214 (lH p):=k2;have e02:aj h g2:=aj.only (eg.trans e1) x2 (by have:=eg.size;omega);refine dH ?_;refine bl ?_;refine sQ (fun b=>Array.size g2<=b) (fun i=>Nat.blt i 5) (sz:=5) (listed:= #[false,false,false,false,false]) func73 H.mixed rfl rfl rfl ?_;refine aG 0 ?_;refine bJ 1 rfl (fun h' e=>aA rfl (e.old (k2.cell (i:=0) rfl))) ?_;refine aG 2 ?_;refine bJ 3 rfl (fun h' e=>Bc rfl rfl 1 rfl (ic hc)) ?_;refine aG 4 ?_;refine iO ?_;refine aX (fun he=>?_) (fun he=>?_)
     · have he:p.1=c:=(LK _ _).1 (by omega);refine af ?_;refine xp rfl (aA rfl (k2.cell (i:=1) rfl)) ?_;refine af ?_;refine bw ?_;refine⟨_,rfl,?_,e02⟩;unfold Kp;rw[EV hin hp (by rw[he];simp)];rfl
     · have he:¬p.1=c:=fun q=>he (by rw[q])
       refine af ?_;exact ih (i+1) ⟨e02,by omega,fun q hq=>by rw[List.take_add_one,hp,List.mem_append] at hq;rcases hq with hq|hq;exact hin q hq;simp at hq;subst hq;simpa using he⟩
   · obtain rfl:i=6:=by omega
     refine af ?_;refine xp rfl (Bc rfl rfl 1 rfl (ic hc)) ?_;refine af ?_;refine bw ?_;refine⟨_,rfl,?_,eg⟩;unfold Kp;rw[nK hin rfl];rfl
theorem xV {tb:Nat}(hb:aD h tb 9 [.string (bs s)]) (t:Tok):au Tryz.prog 109 #[.agg (fE t).toArray,ptr tb] h (bL fun r h'=>r= .bool (!ES s t)/\aj h h'):=by
 have hbs:=aK s;refine b9 ?_;refine af ?_;refine xo rfl (kH) ?_;rintro _ h1 ⟨rfl,k1,e1,z1⟩;have k1:aD h1 h.size 92 (fE t):=k1;have hb1:=hb.ah e1;refine bz ?_;refine dH ?_;refine bl ?_;refine gG [(3,.bool (!ES s t))] rfl ?_ ?_
 · refine af ?_;refine xp rfl (aA rfl (k1.cell (i:=1) rfl)) ?_;refine af ?_;refine dV 7 (fun g=>?_) (fun g=>?_)
   · have g:=of_decide_eq_true g;refine af ?_;exact aH rfl ⟨av rfl (by unfold ES;rw[decide_eq_false (by omega)];rfl),sb rfl⟩
   · have g:=of_decide_eq_false g;refine af ?_;refine xp rfl (aA rfl (k1.cell (i:=2) rfl)) ?_;refine xp rfl (aA rfl (hb1.cell (i:=0) rfl)) ?_;refine af ?_;refine dV 14 (fun g2=>?_) (fun g2=>?_)
     · have g2:=of_decide_eq_true g2;refine af ?_;exact aH rfl ⟨av rfl (by unfold ES;rw[decide_eq_true (show 0<=t.2.1 by omega),decide_eq_false (by omega)];rfl),sb rfl⟩
     · have g2:=of_decide_eq_false g2;refine af ?_;refine xp rfl (aA rfl (k1.cell (i:=1) rfl)) ?_;refine af ?_;refine xp rfl (aA rfl (k1.cell (i:=2) rfl)) ?_;refine af ?_;exact aH rfl ⟨av rfl (by unfold ES;rw[decide_eq_true (show 0<=t.2.1 by omega),decide_eq_true (show t.2.2<=s.length by omega),Bool.true_and,Bool.true_and,<-decide_not,decide_eq_decide];omega),sb rfl⟩
 · refine bw ?_;exact⟨_,rfl,rfl,e1⟩
theorem AJ {gf:FuncId}{caps:List Value}(hf:ME Tryz.prog gf) (hv:aZ Ku h (fun _=>False) v ts) (p:Tok->Bool)
 (hp:∀t g,aj h g->au Tryz.prog gf ([Value.agg (fE t).toArray]++caps).toArray g (bL fun r h'=>r= .bool (p t)/\aj g h')) :
 au Tryz.prog 144 #[v,.func (.func gf) #[] caps.toArray] h (bL fun r h'=>(∃i:Int,r= .int .i64 i/\decide (0<=i)=ts.any p)/\aj h h'):=by
 obtain⟨va,vn,vc,rfl,hvs⟩:=hv.open;have hvl:ts.length=vn:=hvs.len;subst hvl;have hvm:=hvs.cap;have hvc:=hvs.le;simp only[maxLen] at hvm;refine b9 ?_;refine af ?_;refine jd (σ:=Nat) (fun i=>[(8,.int .i64 (i:Nat))]) (fun i h'=>aj h h'/\i<=ts.length/\(ts.take i).any p=false) (fun i=>ts.length-i) (0) ⟨Ext.refl _ _,Nat.zero_le _,by simp⟩ rfl ?_;rintro i g ⟨eg,hi,hin⟩ ih;refine af ?_;refine aX (fun hlt=>?_) (fun hlt=>?_)
 · have hil:i<ts.length:=by omega
   have hvg:=hvs.mv (Mv.ah eg);obtain⟨b,o,t,ha,_,ht,hrow⟩:=hvg.xZ hil;have hpt:=hp t g eg
   iterate 4 refine bl ?_
   refine cW ?_
   iterate 2 refine bz ?_
   refine dH ?_;refine bl ?_;refine cW ?_
   iterate 3 refine bz ?_
   refine xp rfl (cM rfl rfl i rfl ha) ?_;refine xp rfl (b7 rfl hrow) ?_;refine xo rfl (aQ.Lq (vs:=[_]) rfl hf rfl (au.JM (hpt))) ?_;rintro _ g1 ⟨rfl,e1⟩;refine af ?_;refine jo (fun hb=>?_) (fun hb=>?_)
   · have hb:p t=true:=hb;refine af ?_;refine bw ?_;refine⟨_,rfl,⟨i,rfl,?_⟩,eg.trans e1⟩;rw[decide_eq_true (by omega)];exact(List.any_eq_true.2 ⟨t,List.mem_of_getElem? ht,hb⟩).symm
   · have hb:p t=false:=hb;refine af ?_;exact ih (i+1) ⟨eg.trans e1,by omega,by rw[List.take_add_one,ht,List.any_append,hin];simp[hb]⟩
 · obtain rfl:i=ts.length:=by omega
   rw[List.take_length] at hin;refine af ?_;refine bw ?_;exact⟨_,rfl,⟨-1,rfl,by rw[hin];rfl⟩,eg⟩
theorem ud {h1:ai}(hv:aZ Ku h1 (fun _=>False) v ts) (k1:aD h1 h.size 9 [.string (bs s)]):au Tryz.prog 108 #[v,.func (.func 109) #[] #[ptr h.size]] h1 (bL fun r h'=>r= .bool (ts.any fun t=> !ES s t)/\aj h1 h'):=by
 have hi:=AJ (h:=h1) (gf:=109) (caps:=[ptr h.size]) ⟨_,func109,rfl,by kernel_rfl⟩ hv (fun t=> !ES s t) (fun t g eg=>xV (k1.ah eg) t);refine b9 ?_;refine af ?_;refine xo rfl (aF rfl hi) ?_;rintro _ h2 ⟨⟨i,rfl,hi2⟩,e2⟩;refine af ?_;refine bw ?_;exact⟨_,rfl,by rw[<-hi2];rfl,e2⟩
theorem xR (hv:aZ Ku h (fun _=>False) v ts) (s:By):au Tryz.prog 72 #[.string (bs s),v] h (bL fun r h'=>r= .bool (ts.all (ES s))/\aj h h'):=by
 refine b9 ?_;refine af ?_;refine xo rfl (kH) ?_;rintro _ h1 ⟨rfl,k1,e1,z1⟩;have hc:=ud (hv.ah e1) (show aD h1 h.size 9 [.string (bs s)] from k1);refine af ?_;refine xp rfl (az.makeFunc (vs:=[_]) rfl) ?_;refine xo rfl (aF rfl hc) ?_;rintro _ h2 ⟨rfl,e2⟩;refine af ?_;refine bw ?_;refine⟨_,rfl,?_,e1.trans e2⟩;rw[List.all_eq_not_any_not];rfl
theorem IG (h:ES s t=true):∃f q:Nat,t.2.1=f/\t.2.2=q/\f<=q/\q<=s.length/\cz s t=(s.take q).drop f:=by
 unfold ES at h;simp only[Bool.and_eq_true,decide_eq_true_eq] at h;obtain⟨⟨h1,h2⟩,h3⟩:=h;refine⟨t.2.1.toNat,t.2.2.toNat,by omega,by omega,by omega,by omega,?_⟩;unfold cz;rw[List.drop_take]
theorem Fv (s:By) (t:Tok):(cz s t).length<=s.length:=by
 unfold cz;rw[List.length_take,List.length_drop];omega
theorem Db (h:ts[i]? =some t) (out:List Un) (op:Bool) :
 j9 s (ts.drop i) out op=match js s out op t with|.er a e=>.er a e|.go out op=>j9 s (ts.drop (i+1)) out op:=by
 obtain⟨hi,rfl⟩:=List.getElem?_eq_some_iff.1 h;rw[List.drop_eq_getElem_cons hi];rfl
theorem HC (pre:List α) (u y:α):(pre++[u]).set pre.length y=pre++[y]:=by
 rw[List.set_append_right _ _ (Nat.le_refl _),Nat.sub_self];rfl
theorem oC {T:TypeId}(c:UInt8):aZ .byte (h.push (.cells #[.int .u8 c.toNat] T)) (fun _=>False) (.slice (some ⟨h.size,0,none⟩) 1 1) [c] :=
 Eh.read (lM tY h T [c] 1 rfl (by decide) 0 (Nat.zero_le _) rfl) (fun _ _ k=>k)
def Rd (h':ai) (r:Value):(Int×Int) ⊕ List Un->Prop
 |.inl p=>r=packed [.slice none 0 0,.int .i64 p.1,.int .i64 p.2]
 |.inr us=>us.length<=500/\∃uv,r=packed [uv,.int .i64 0,.int .i64 0]/\aZ Qg h' (fun _=>False) uv us
theorem zD (hg:n8 h) (hv:aZ Ku h (fun _=>False) v ts) (s:By) (st:uB) (hb:ts.length*(s.length+2)<=1000000000000) (hsl:s.length<=1000000000000) :
 au Tryz.prog 30 #[.string (bs s),v,.agg (bR st).toArray] h (bL fun r h'=>aj h h'/\Rd h' r (ie s ts st.1)):=by
 obtain⟨va,vn,vc,rfl,hvs⟩:=id hv.open;have hvl:ts.length=vn:=hvs.len;subst hvl;have hvm:=hvs.cap;have hvc:=hvs.le;simp only[maxLen] at hvm;refine b9 ?_;refine af ?_;refine xo rfl (kH) ?_;rintro _ h1 ⟨rfl,k1,e1,z1⟩;refine af ?_;refine xo rfl (aF rfl (xR (hv.ah e1) s)) ?_;rintro _ h2 ⟨rfl,e2⟩;have k1:aD h2 h.size 54 (bR st):=k1.ah e2;have e02:=e1.trans e2;refine af ?_;refine jo (fun hw=>?_) (fun hw=>?_)
 · have hw:ts.all (ES s)=false:=by simpa using hw
   refine af ?_;refine bw ?_;refine⟨_,rfl,e02,?_⟩;unfold ie;rw[if_neg (by rw[hw];simp)];rfl
 · have hw:ts.all (ES s)=true:=by simpa using hw
   have hU:ie s ts st.1=match j9 s ts [] false with|.er a e=>.inl (a,e)|.go out op=>if op=true\/st.1≠0 then .inl (s.length,10) else .inr out:=by
    unfold ie;rw[if_pos hw];rfl
   rw[hU];generalize htg0:j9 s ts [] false=tgt;refine af ?_;refine jd (σ:=Nat×List Un×Bool×Value) (fun w=>[(6,w.2.2.2),(9,.bool w.2.2.1),(19,.int .i64 (w.1:Nat))]) (fun w g=>w.1<=ts.length/\aj h2 g/\h2.size<=g.size/\lQ 3 sr g h2.size 172 w.2.2.2 w.2.1/\j9 s (ts.drop w.1) w.2.1 w.2.2.1=tgt/\w.2.1.length<=500/\(w.2.2.1=true->w.2.1≠[])/\(∀u∈w.2.1,u.2.1.length<=w.1*(s.length+2))) (fun w=>ts.length-w.1) ((0,[],false,.slice none 0 0)) ⟨Nat.zero_le _,Ext.refl _ _,Nat.le_refl _,lQ.nil _ _ _ _ _,htg0,by simp,(fun k=>by cases k),by simp⟩ rfl ?_;rintro⟨i,out,op,ov⟩ g ⟨hi,eg,hz,how,htg,hol,hop,hut⟩ ih
   try dsimp only
   dsimp only at hi how htg hol hop hut;have hho:aB g h2.size 172 3 ov out.length (out.flatMap sr):=how;obtain⟨oa,oc,rfl,_⟩:=hho.open;refine af ?_;refine aX (fun hlt=>?_) (fun hlt=>?_)
   · have hil:i<ts.length:=by omega
     have hmul:(i+1)*(s.length+2)<=ts.length*(s.length+2):=Nat.mul_le_mul_right _ hil;have hsuc:(i+1)*(s.length+2)=i*(s.length+2)+(s.length+2):=Nat.succ_mul _ _;have hbig:∀n,n<=i*(s.length+2)->n<=(i+1)*(s.length+2):=fun n hn=>by omega
     have hvg:=hvs.mv (Mv.ah (e02.trans eg));obtain⟨b,o,t,ha,_,ht,hrow⟩:=hvg.xZ hil;have hint:ES s t=true:=List.all_eq_true.1 hw t (List.mem_of_getElem? ht);obtain⟨f,q,hf,hq,hfq,hqs,htx⟩:=IG hint;have htl:=Fv s t;have hstep:=Db (s:=s) ht out op;have hbz:=aK s
     iterate 4 refine bl ?_
     refine cW ?_;refine xp rfl (cM rfl rfl i rfl ha) ?_;refine xp rfl (b7 rfl hrow) ?_;refine xo rfl (cH) ?_;rintro _ g1 ⟨rfl,k2,e3,z3⟩;refine aN rfl (aV rfl rfl k2 (pI t)) ?_;rintro _ g2 ⟨rfl,kt,x2,z2⟩;have kt:aD g2 g.size 92 (fE t):=kt;have eg2:aj g g2:=aj.only e3 x2 (Nat.le_refl _);have how2:=how.ah eg2;have hho2:aB g2 h2.size 172 3 (.slice oa out.length oc) out.length (out.flatMap sr):=how2;have egg:=eg.trans eg2;refine af ?_;refine xp rfl (aA rfl (kt.cell (i:=1) rfl)) ?_;refine af ?_;refine xp rfl (aA rfl (kt.cell (i:=2) rfl)) ?_;refine xp rfl (az.uR underlying9 rfl rfl f hf rfl q hq hfq (by omega)) ?_;rw[uy _ _ _ hfq,<-htx];refine af ?_;refine xp rfl (aA rfl (kt.cell (i:=0) rfl)) ?_;refine af ?_;refine aX (fun h0=>?_) (fun h0=>?_)
     · have hu:js s out op t= .er t.2.1 10:=by unfold js;rw[if_pos h0]
       rw[hstep,hu] at htg;refine af ?_;refine cG rfl (aA rfl (kt.cell (i:=1) rfl)) ?_;refine af ?_;refine bw ?_;exact⟨_,rfl,e02.trans egg,by rw[<-htg];rfl⟩
     · rcases op with _|_
       · refine bl ?_;refine gG [(35,.bool false)] rfl ?_ ?_
         · refine af ?_;refine RW.cy (d:=37) (b':=false) rfl (rfl) ?_;refine af ?_;exact aH rfl ⟨av rfl (rfl),sb rfl⟩
         · refine gm rfl (by simp) ?_;refine bl ?_;refine gG [(46,.bool false)] rfl ?_ ?_
           · refine af ?_;refine RW.cy (d:=48) (b':=false) rfl (rfl) ?_;refine af ?_;exact aH rfl ⟨av rfl (rfl),sb rfl⟩
           · refine gm rfl (by simp) ?_;refine af ?_;refine gm rfl (by simp) ?_
             have hu0:js s out false t=(if t.1=1\/t.1=2\/t.1=11 then .go out false else if out.length=500 then .er t.2.1 3 else .go (out++[(t.1,if t.1=9 then [] else cz s t,t.2.1)]) (decide (t.1=9))):=by
              unfold js;rw[if_neg h0];rfl
             refine af ?_;refine xp rfl (aA rfl (kt.cell (i:=0) rfl)) ?_;refine af ?_;refine aX (fun c1=>?_) (fun c1=>?_)
             · refine af ?_;refine fH rfl (by simp[c1]) ?_;refine af ?_;exact ih (i+1,out,false,(.slice oa out.length oc)) ⟨by show i+1<=ts.length;omega,egg,by have:=(egg).size;omega,how2,by rw[hstep,(hu0.trans (if_pos (.inl c1)))] at htg;exact htg,hol,(fun k=>by cases k),(fun u hu=>hbig _ (hut u hu))⟩
             · refine af ?_;refine xp rfl (aA rfl (kt.cell (i:=0) rfl)) ?_;refine af ?_;refine aX (fun c2=>?_) (fun c2=>?_)
               · refine af ?_;refine fH rfl (by simp[c2]) ?_;refine af ?_;exact ih (i+1,out,false,(.slice oa out.length oc)) ⟨by show i+1<=ts.length;omega,egg,by have:=(egg).size;omega,how2,by rw[hstep,(hu0.trans (if_pos (.inr (.inl c2))))] at htg;exact htg,hol,(fun k=>by cases k),(fun u hu=>hbig _ (hut u hu))⟩
               · refine af ?_;refine xp rfl (aA rfl (kt.cell (i:=0) rfl)) ?_;refine af ?_;refine aX (fun c3=>?_) (fun c3=>?_)
                 · refine af ?_;exact ih (i+1,out,false,(.slice oa out.length oc)) ⟨by show i+1<=ts.length;omega,egg,by have:=(egg).size;omega,how2,by rw[hstep,(hu0.trans (if_pos (.inr (.inr c3))))] at htg;exact htg,hol,(fun k=>by cases k),(fun u hu=>hbig _ (hut u hu))⟩
                 · rw[if_neg (fun q=>by omega)] at hu0;refine af ?_;refine xp rfl (aA rfl (kt.cell (i:=0) rfl)) ?_;refine af ?_;refine aX (fun c9=>?_) (fun c9=>?_)
                   · refine af ?_;refine aX (fun c500=>?_) (fun c500=>?_)
                     · have c500:out.length=500:=by omega
                       rw[if_pos c500] at hu0;rw[hstep,hu0] at htg;refine af ?_;refine cG rfl (aA rfl (kt.cell (i:=1) rfl)) ?_;refine af ?_;refine bw ?_;exact⟨_,rfl,e02.trans egg,by rw[<-htg];rfl⟩
                     · have c500:¬out.length=500:=by omega
                       rw[if_neg c500] at hu0;refine af ?_;refine xp rfl (aA rfl (kt.cell (i:=0) rfl)) ?_;refine af ?_;refine xp rfl (aA rfl (kt.cell (i:=1) rfl)) ?_;refine xp rfl (aq (H.tP _ _ _) rfl) ?_;refine xo rfl (rJ) ?_;rintro _ _ ⟨rfl,rfl⟩;refine xo rfl (aQ.gK underlying95 H.I9 rfl rfl (hho2) rfl rfl (zN (t.1,([]:By),t.2.1)) (by omega) (by decide) (by omega)) ?_;rintro v2 g4 ⟨ho4,hx4,hx4',hv4⟩;have ho5:lQ 3 sr g4 h2.size 172 v2 (out++[(t.1,([]:By),t.2.1)]):=lQ.of ho4 rfl rfl;have e24:aj h2 g4:=Ext.own egg hho2 (Nat.le_refl _) hx4;have hu1:js s out false t= .go (out++[(t.1,([]:By),t.2.1)]) true:=hu0.trans (by simp[c9]);refine af ?_;exact ih (i+1,(out++[(t.1,([]:By),t.2.1)]),true,v2) ⟨by show i+1<=ts.length;omega,e24,by have:=(e24).size;omega,ho5,by rw[hstep,hu1] at htg;exact htg,(by rw[List.length_append];simp only[List.length_singleton];omega),(fun _=>by simp),(fun u hu=>(List.mem_append.1 hu).elim (fun hu=>hbig _ (hut u hu)) (fun hu=>by simp only[List.mem_singleton] at hu;subst hu;show List.length (([]:By))<=(i+1)*(s.length+2);have hz0:List.length ([]:By)=0:=rfl;omega))⟩
                   · refine af ?_;refine aX (fun c500=>?_) (fun c500=>?_)
                     · have c500:out.length=500:=by omega
                       rw[if_pos c500] at hu0;rw[hstep,hu0] at htg;refine af ?_;refine cG rfl (aA rfl (kt.cell (i:=1) rfl)) ?_;refine af ?_;refine bw ?_;exact⟨_,rfl,e02.trans egg,by rw[<-htg];rfl⟩
                     · have c500:¬out.length=500:=by omega
                       rw[if_neg c500] at hu0;refine af ?_;refine xp rfl (aA rfl (kt.cell (i:=0) rfl)) ?_;refine af ?_;refine xp rfl (aA rfl (kt.cell (i:=1) rfl)) ?_;refine xp rfl (aq (H.tP _ _ _) rfl) ?_;refine xo rfl (rJ) ?_;rintro _ _ ⟨rfl,rfl⟩;refine xo rfl (aQ.gK underlying95 H.I9 rfl rfl (hho2) rfl rfl (zN (t.1,(cz s t),t.2.1)) (by omega) (by decide) (by omega)) ?_;rintro v2 g4 ⟨ho4,hx4,hx4',hv4⟩;have ho5:lQ 3 sr g4 h2.size 172 v2 (out++[(t.1,(cz s t),t.2.1)]):=lQ.of ho4 rfl rfl;have e24:aj h2 g4:=Ext.own egg hho2 (Nat.le_refl _) hx4;have hu1:js s out false t= .go (out++[(t.1,(cz s t),t.2.1)]) false:=hu0.trans (by simp[c9]);refine af ?_;exact ih (i+1,(out++[(t.1,(cz s t),t.2.1)]),false,v2) ⟨by show i+1<=ts.length;omega,e24,by have:=(e24).size;omega,ho5,by rw[hstep,hu1] at htg;exact htg,(by rw[List.length_append];simp only[List.length_singleton];omega),(fun _=>by simp),(fun u hu=>(List.mem_append.1 hu).elim (fun hu=>hbig _ (hut u hu)) (fun hu=>by simp only[List.mem_singleton] at hu;subst hu;show List.length ((cz s t))<=(i+1)*(s.length+2);have hz0:List.length ([]:By)=0:=rfl;omega))⟩
       · have hne:=hop rfl
         obtain⟨pre,u,hpre⟩:∃pre u,out=pre++[u]:=by
          rcases List.eq_nil_or_concat out with q|⟨p,u,q⟩
          · exact absurd q hne
          · exact⟨p,u,by simpa using q⟩
         have hlen:out.length=pre.length+1:=by rw[hpre];simp
         have hgu:out[pre.length]? =some u:=by rw[hpre];simp
         have hul:=hut u (by rw[hpre];simp);obtain⟨gb,gc,hgv,hgb,hgl,hgr,hgf,hgs⟩:=lQ.put (enc:=sr) (fun _=>rfl) how2 hgu;have hga:oa=some ⟨gb,0,none⟩:=by cases hgv;rfl
         have hu0:js s out true t=(if t.1=9/\cz s t=[34] then .go out false else if t.1=10 then .go (iU [qW (cz s t)] out) true else .go (iU (cz s t) out) true):=by
          unfold js;rw[if_neg h0];rfl
         have hadd:∀x,iU x out=pre++[(u.1,u.2.1++x,u.2.2)]:=fun x=>by rw[hpre];exact sK x pre u
         have hset:∀x,out.set pre.length (u.1,u.2.1++x,u.2.2)=iU x out:=fun x=>by rw[hadd,hpre];exact HC _ _ _
         have hadl:∀x,x.length<=s.length+1->∀u∈iU x out,u.2.1.length<=(i+1)*(s.length+2):=fun x hx u' hu'=>by
          rw[hadd,List.mem_append] at hu'
          rcases hu' with hu'|hu'
          · exact hbig _ (hut u' (by rw[hpre];simp[hu']))
          · simp only[List.mem_singleton] at hu';subst hu';simp only[List.length_append];omega
         have hown:∀x g',g'=dW g2 ⟨gb,0+pre.length*3+1,none⟩ x->aj h2 g':=fun x g' hg'=>by rw[hg'];exact aj.set egg hgb x
         refine bl ?_;refine gG [(35,.bool (decide (t.1=9/\cz s t=[34])))] rfl ?_ ?_
         · refine af ?_;refine RW.cy (d:=37) (b':=true) rfl (rfl) ?_;refine af ?_;refine xp rfl (aA rfl (kt.cell (i:=0) rfl)) ?_;refine af ?_;refine dV 42 (fun g9=>?_) (fun g9=>?_)
           · have g9:=of_decide_eq_true g9;refine af ?_;exact aH rfl ⟨av rfl (by rw[Bool.eq_iff_iff,decide_eq_true_iff,decide_eq_true_iff];exact⟨fun q=>⟨g9,bu q⟩,fun q=>congrArg bs q.2⟩),sb rfl⟩
           · have g9:=of_decide_eq_false g9;refine af ?_;exact aH rfl ⟨av rfl (by rw[decide_eq_false (fun q=>g9 q.1)]),sb rfl⟩
         · refine aX (fun c9=>?_) (fun c9=>?_)
           · rw[if_pos c9] at hu0;refine af ?_;exact ih (i+1,out,false,(.slice oa out.length oc)) ⟨by show i+1<=ts.length;omega,egg,by have:=(egg).size;omega,how2,by rw[hstep,hu0] at htg;exact htg,hol,(fun k=>by cases k),(fun u hu=>hbig _ (hut u hu))⟩
           · rw[if_neg c9] at hu0;refine bl ?_;refine gG [(46,.bool (decide (t.1=10)))] rfl ?_ ?_
             · refine af ?_;refine RW.cy (d:=48) (b':=true) rfl (rfl) ?_;refine af ?_;refine xp rfl (aA rfl (kt.cell (i:=0) rfl)) ?_;refine af ?_;exact aH rfl ⟨av rfl (rfl),sb rfl⟩
             · refine aX (fun c10=>?_) (fun c10=>?_)
               · rw[if_pos c10] at hu0;refine af ?_;refine lO 15 (fun _=>False) (fun i=>Nat.blt i 14) ?_;refine aG 0 ?_;refine aG 1 ?_;refine aG 2 ?_;refine aG 3 ?_;refine bJ 4 rfl (fun h' e=>cM rfl rfl pre.length (by omega) hga) ?_;refine aG 5 ?_;refine bJ 6 rfl (fun h' e=>aA rfl (e.cell (fun k=>k) (hgr 1 _ rfl))) ?_;refine aG 7 ?_;refine dR 8 rfl (aF rfl (xT (hg.ah (e02.trans egg)) (cz s t))) ?_;rintro _ g3 ⟨rfl,e3'⟩;refine⟨fun _=>e3',?_⟩;refine dR 9 rfl (jb [_]) ?_;rintro _ g4 ⟨rfl,hg4⟩;refine⟨fun _=>(by rw[hg4];exact Ext.push _ _ _),?_⟩;have e34:aj g3 g4:=by rw[hg4];exact Ext.push _ _ _
                 have e24:aj g2 g4:=e3'.trans e34;have hby:aZ .byte g4 (fun _=>False) (.slice (some ⟨g3.size,0,none⟩) 1 1) [qW (cz s t)]:=by rw[hg4];exact oC _
                 obtain⟨gb',gc',hgv',hgb',hgl',hgr',hgf',hgs'⟩:=lQ.put (enc:=sr) (fun _=>rfl) (how2.ah e24) hgu;obtain rfl:gb=gb':=by rw[hga] at hgv';cases hgv';rfl
                 have hbu:=aK u.2.1;refine bJ 10 rfl (fun h' e=>MV rfl (hby.ah e)) ?_;refine bJ 11 rfl (fun h' e=>az.bK rfl rfl (by show (bs u.2.1).size+1<=_;omega)) ?_;refine OI 12 rfl (cM rfl rfl pre.length (by omega) hga) ?_;refine aG 13 ?_;refine jZ 14 rfl (bV H.Ew rfl rfl rfl (hgr' 1 _ rfl) (hgf' _)) ?_;rintro _ g5 ⟨rfl,hg5⟩;refine⟨nofun,?_⟩
                 have hfin:lQ 3 sr g5 h2.size 172 (.slice oa out.length oc) (iU [qW (cz s t)] out):=by
                  rw[hg5,<-hset];exact hgs' 1 _ _ (by decide) (by show [Value.int .i64 u.1,Value.string (bs u.2.1++⟨[qW (cz s t)].toArray⟩),Value.int .i64 u.2.2]=_;rw[show (⟨[qW (cz s t)].toArray⟩:ByteArray)=bs [qW (cz s t)] from rfl,cL];rfl)
                 have e25:aj h2 g5:=by rw[hg5];exact aj.set (egg.trans e24) hgb _
                 have hlena:(iU [qW (cz s t)] out).length=out.length:=xh _ _;refine iO ?_;refine af ?_;exact ih (i+1,iU [qW (cz s t)] out,true,.slice oa out.length oc) ⟨by show i+1<=ts.length;omega,e25,by have:=e25.size;omega,hfin,by rw[hstep,hu0] at htg;exact htg,by show (iU _ out).length<=500;omega,fun _ q=>hne (List.eq_nil_of_length_eq_zero (hlena.symm.trans (congrArg List.length q))),hadl _ (by simp)⟩
               · rw[if_neg c10] at hu0;refine af ?_;refine fH rfl (by simp) ?_;have hbu:=aK u.2.1;have hbt:=aK (cz s t);refine bl ?_;refine cW ?_
                 iterate 4 refine bz ?_
                 refine xp rfl (cM rfl rfl pre.length (by omega) hga) ?_;refine af ?_;refine xp rfl (aA rfl (hgr 1 _ rfl)) ?_
                 iterate 2 refine bz ?_
                 refine xp rfl (cM rfl rfl pre.length (by omega) hga) ?_;refine af ?_;refine aN rfl (bV H.Ew rfl rfl rfl (hgr 1 _ rfl) (hgf _)) ?_;rintro _ g5 ⟨rfl,hg5⟩
                 have hfin:lQ 3 sr g5 h2.size 172 (.slice oa out.length oc) (iU (cz s t) out):=by
                  rw[hg5,<-hset];exact hgs 1 _ _ (by decide) (by show [Value.int .i64 u.1,Value.string (bs u.2.1++bs (cz s t)),Value.int .i64 u.2.2]=_;rw[cL];rfl)
                 have e25:aj h2 g5:=hown _ _ hg5;have hlena:(iU (cz s t) out).length=out.length:=xh _ _;refine af ?_;exact ih (i+1,iU (cz s t) out,true,.slice oa out.length oc) ⟨by show i+1<=ts.length;omega,e25,by have:=e25.size;omega,hfin,by rw[hstep,hu0] at htg;exact htg,by show (iU _ out).length<=500;omega,fun _ q=>hne (List.eq_nil_of_length_eq_zero (hlena.symm.trans (congrArg List.length q))),hadl (cz s t) (by omega)⟩
   · obtain rfl:i=ts.length:=by omega
     rw[List.drop_length] at htg;have htg:UR.go out op=tgt:=htg;rw[<-htg];dsimp only
     iterate 3 refine bl ?_
     refine gG [(114,.bool (decide (op=true\/st.1≠0)))] rfl ?_ ?_
     · rcases op with _|_
       · refine af ?_;refine RW.cy (d:=110) (b':=false) rfl (rfl) ?_;refine af ?_;refine xp rfl (aA rfl ((k1.ah eg).cell (i:=0) rfl)) ?_;refine af ?_;exact aH rfl ⟨av rfl (by simp),sb rfl⟩
       · refine af ?_;refine RW.cy (d:=110) (b':=true) rfl (rfl) ?_;refine af ?_;exact aH rfl ⟨av rfl (by simp),sb rfl⟩
     · refine aX (fun co=>?_) (fun co=>?_)
       · rw[if_pos co];refine af ?_;refine bw ?_;have hbz:=aK s;exact⟨_,rfl,e02.trans eg,by rw[<-hbz];rfl⟩
       · rw[if_neg co];refine af ?_;refine bw ?_;exact⟨_,rfl,e02.trans eg,hol,_,rfl,lQ.read how (fun _ _ k=>k)⟩
theorem G5 {out:List Un}{op:Bool}(h:js s out op t= .er a e):e≠0:=by
 unfold js at h;split at h
 · cases h;decide
 · split at h
   · split at h
     · cases h
     · split at h<;>cases h
   · split at h
     · cases h
     · split at h
       · cases h;decide
       · cases h
theorem Bt {s:By}{a e:Int}:∀(l:List Tok) (out:List Un) (op:Bool),j9 s l out op= .er a e->e≠0
 | [],_,_,h=>by cases h
 |t::l,out,op,h=>by
  rw[j9] at h;split at h
  · rename_i q;cases h;exact G5 q
  · exact Bt l _ _ h
theorem Fs {l:List Tok}{m:Int}(h:ie s l m= .inl (a,e)):e≠0:=by
 unfold ie at h;split at h
 · split at h
   · rename_i q;cases h;exact Bt _ _ _ q
   · split at h
     · cases h;decide
     · cases h
 · cases h;decide
theorem HM {us:List Un}{b:Bool}{m:Int}{s:PS}(h:Qj us i b m s):(b=false->s.len=us.length-i)/\(b=true->s= .bad m)/\s.bI=b:=by
 cases s with
 |ok r=>obtain⟨rfl,rfl⟩:=h;exact⟨fun _=>by simp[PS.len],fun k=>(by cases k),rfl⟩
 |bad k=>obtain⟨rfl,rfl⟩:=h;exact⟨fun k=>(by cases k),fun _=>rfl,rfl⟩
theorem A2 {s:PS}(h:s.bI=true):s.len=0/\∀e,cB e s=s:=by cases s with|ok r=>cases h|bad m=>exact⟨rfl,fun _=>rfl⟩
theorem th {l:List Tr}{s:PS} {y} (h:dG e n l s=some y) (h0:s.len=0):y=(l,s):=by
 cases n with
 |zero=>cases h
 |succ n=>rw[dG,if_pos h0] at h;exact(Option.some.inj h).symm
def Qi (c:PC) (hb g:ai) (kv:Value) (l:List Tr) (s:PS):Prop :=
 rG c g s/\Ext (fun b=>b=c.pb) hb g/\cF eN (fun b=>b<hb.size) g hb.size 27 kv l
theorem cF.lower {α:Type}{e:gN α}{O:Nat->Prop}{h:ai}{base base':Nat}{t:TypeId}{v:Value}{xs:List α}(k:cF e O h base t v xs) (hb:base'<=base):cF e O h base' t v xs:=by
 obtain⟨css,h1,h2,h3⟩:=k;exact⟨css,h1,h2.lower hb,h3⟩
theorem C3 (hg:n8 h) (hv:aZ Ku h (fun _=>False) v ts) (s:By) (st:uB) (hb:ts.length*(s.length+2)<=1000000000000) (hsl:s.length<=1000000000000)
 {k:List Tr}(hP:cU s ts st.1 k a e) :
 au Tryz.prog 14 #[.string (bs s),v,.agg (bR st).toArray] h (bL fun r h'=>aj h h'/\∃lv,r=packed [lv,.int .i64 a,.int .i64 e]/\cF eN (fun b=>b<h.size) h' h.size 27 lv k):=by
 have hbz:=aK s;refine b9 ?_;refine af ?_;refine xo rfl (kH) ?_;rintro _ h1 ⟨rfl,k1,e1,z1⟩;have k1:aD h1 h.size 54 (bR st):=k1;have hun:=zD (hg.ah e1) (hv.ah e1) s st hb hsl
 rcases hU:ie s ts st.1 with ⟨a1,c1⟩|us
 · rw[hU] at hun;have hce:=Fs hU
   obtain⟨rfl,rfl,rfl⟩:k=[]/\a=a1/\e=c1:=by
    cases hP with
    |units h=>rw[hU] at h;cases h;exact⟨rfl,rfl,rfl⟩
    |bad h _=>rw[hU] at h;cases h
    |ok h _=>rw[hU] at h;cases h
   refine af ?_;refine xp rfl (b7 rfl k1.row) ?_;refine xo rfl (aF rfl hun) ?_;rintro _ h2 ⟨e2,rfl⟩;refine af ?_;refine fH rfl (by simpa using hce) ?_;refine af ?_;refine bw ?_;exact⟨_,rfl,e1.trans e2,_,rfl,cF.nil _ _ _ _ _⟩
 · rw[hU] at hun
   obtain⟨n,K,F,hm,hend⟩:∃n K F,dG s.length n [] (.ok us)=some (K,F)/\(∀m,F= .bad m->k=[]/\a=m/\e=10)/\(F.bI=false->k=K/\a=0/\e=0):=by
    cases hP with
    |units h=>rw[hU] at h;cases h
    |bad h h2=>rw[hU] at h;cases h;exact⟨_,_,_,h2,fun m q=>by cases q;exact⟨rfl,rfl,rfl⟩,fun q=>by cases q⟩
    |ok h h2=>rw[hU] at h;cases h;exact⟨_,_,_,h2,fun m q=>(by cases q),fun _=>⟨rfl,rfl,rfl⟩⟩
   refine af ?_;refine xp rfl (b7 rfl k1.row) ?_;refine xo rfl (aF rfl hun) ?_;rintro _ h2 ⟨e2,hu500,uv,rfl,huv⟩;refine af ?_;refine gm rfl (by simp) ?_;obtain⟨ua,un,uc,rfl,huvs⟩:=huv.open;refine af ?_;refine xp rfl (aq (H.GG _ _ _ _) rfl) ?_;refine xo rfl (kH) ?_;rintro _ h3 ⟨rfl,kp,e3,z3⟩;have kp:aD h3 h2.size 100 [.slice ua un uc,.int .i64 (0:Nat),.int .i64 (s.length:Nat),.bool false,.int .i64 0]:=by rw[hbz] at kp;exact kp
   have e13:aj h h3:=(e1.trans e2).trans e3;obtain⟨c,hc⟩:∃c:PC,c=⟨h2.size,.slice ua un uc,h3.size,us,s.length⟩:=⟨_,rfl⟩
   have hz13:=e13.size;have hz2:=e2.size;have hz1:=e1.size;have hpb:c.pb=h2.size:=by rw[hc]
   have hce:c.e=s.length:=by rw[hc]
   have hcu:c.us=us:=by rw[hc]
   have hst3:rG c h3 (.ok us):=by
    rw[hc];exact⟨0,false,0,kp,huv.mv (Mv.cu e3 fun b hb _=>⟨fun k=>k,fun q=>by have:=e3.size;dsimp only at q;omega⟩),Nat.zero_le _,⟨rfl,rfl⟩,by show h2.size<h3.size;omega,Nat.le_refl _,by show us.length<=1000;omega⟩
   rw[<-hce] at hm;have hI3:Qi c h3 h3 (.slice none 0 0) [] (.ok us):=⟨hst3,Ext.refl _ _,cF.nil _ _ _ _ _⟩
   rw[<-hpb];refine af ?_;refine jd (σ:=Nat×List Tr×Value×PS) (fun w=>[(6,w.2.2.1)]) (fun w g=>Qi c h3 g w.2.2.1 w.2.1 w.2.2.2/\(w.2.2.2.bI=true->w.2.2.2=F)/\(w.2.2.2.bI=false->dG c.e w.1 w.2.1 w.2.2.2=some (K,F)/\w.2.1.length+w.2.2.2.len<=us.length)) (fun w=>w.1) ((n,[],.slice none 0 0,.ok us)) ⟨hI3,fun q=>(by cases q),fun _=>⟨hm,by simp[PS.len]⟩⟩ rfl ?_;rintro⟨m,l,kv,sI⟩ g ⟨⟨hst,xg,how⟩,hbad,hok⟩ ih
   try dsimp only
   dsimp only at hst how hbad hok;obtain⟨pi,pbb,pm,pk,psl,pil,ps,_⟩:=id hst;obtain⟨OR,OQ,Px⟩:=HM ps;rw[hcu] at OR;have hpil:pi<=us.length:=by rw[<-hcu];exact pil
   have hlv:c.lv= .slice ua us.length uc:=by rw[hc];have:=huvs.len;subst this;rfl
   rw[hlv] at pk;have hsize:c.pb<h3.size:=by rw[hpb];omega
   have how0:aB g h3.size 27 3 kv l.length _:=(how.own).choose_spec;obtain⟨ka,kc,rfl,_⟩:=how0.open;have kown:∀b,(Value.slice ka l.length kc).ownBlock=some b->h3.size<=b/\b<g.size:=fun b q=>how0.lt q
   iterate 2 refine bl ?_
   refine LI 17 (fun b=>Array.size g<=b) (fun i=>Nat.blt i 17) [(46,.bool (decide (sI.len≠0)))] rfl ?_ ?_
   · refine aG 0 ?_;refine aG 1 ?_;refine aG 2 ?_;refine bJ 3 rfl (fun h' e=>aA rfl (e.old (pk.cell (i:=1) rfl))) ?_;refine aG 4 ?_;refine aG 5 ?_;refine aG 6 ?_;refine bJ 7 rfl (fun h' e=>aA rfl (e.old (pk.cell (i:=0) rfl))) ?_;refine aG 8 ?_;refine aG 9 ?_;refine aG 10 ?_;refine P6 40 (fun g1=>?_) (fun g1=>?_)
     · have g1:=of_decide_eq_true g1;refine aG 11 ?_;refine aG 12 ?_;refine aG 13 ?_;refine bJ 14 rfl (fun h' e=>aA rfl (e.old (pk.cell (i:=3) rfl))) ?_;refine aG 15 ?_;refine aG 16 ?_;exact JG rfl ⟨av rfl (by cases pbb with|true=>rw[OQ rfl];rfl|false=>rw[OR rfl,decide_eq_true (by omega)];rfl),sb rfl⟩
     · have g1:=of_decide_eq_false g1;refine Bf 11 ?_;refine Bf 12 ?_;refine Bf 13 ?_;refine Bf 14 ?_;refine Bf 15 ?_;refine aG 16 ?_;exact JG rfl ⟨av rfl (by cases pbb with|true=>rw[OQ rfl];rfl|false=>rw[OR rfl,decide_eq_false (by omega)]),sb rfl⟩
   · refine aX (fun hgo=>?_) (fun hgo=>?_)
     · obtain⟨r,hr⟩:∃r,sI= .ok r:=by cases sI with|ok r=>exact⟨r,rfl⟩|bad q=>exact absurd rfl hgo
       obtain⟨hm,hll⟩:=hok (by rw[hr];rfl);obtain⟨m,rfl⟩:∃m',m=m'+1:=by cases m with|zero=>cases hm|succ m=>exact⟨m,rfl⟩
       rw[dG,if_neg hgo] at hm
       rcases hv1:pM c.e m .stmt sI with _|⟨tv,s2⟩
       rw[hv1] at hm;cases hm;rw[hv1] at hm;simp only[Option.bind_some] at hm;have hvl:=iz hv1;refine af ?_;refine xo rfl (aF rfl ((JT m).stmt _ _ _ _ _ hst hv1)) ?_;rintro r6 h6 ⟨y6,hp6,t6,hn6,ht6⟩;have z6:=y6.size;obtain⟨mk,mt,ma,mn,mc,rfl,hr6⟩:=hn6.get;have ho6:=how.rL y6 (fun b q q2=>by have:=kown b q;omega) (fun b hb q=>by omega) (fun _ _ q=>q);obtain⟨css,hc1,hc2,hc3⟩:=id ho6;refine xo rfl (rJ) ?_;rintro _ _ ⟨rfl,rfl⟩;refine xo rfl (xO rfl rfl hc2 rfl rfl) ?_;rintro v7 h7 ⟨ho7,hx7,hx7',hv7⟩;have z7:=hx7.size
       have hr6':eN.R h6 (fun b=>cx (Value.slice ka l.length kc).ownBlock b\/b<h3.size) [.int .i64 mk,.string (bs mt),.slice ma mn mc] t6:=bM hr6 (Ext.refl (fun _=>False) _) (fun b hb q=>⟨fun k=>k,fun q2=>by
        rcases q2 with q2|q2
        · have:=kown _ q2.symm;omega
        · have:=xg.size;omega⟩)
       have ho7x:cF eN (fun b=>b<h3.size) h7 h3.size 27 v7 (l++[t6]):=cF.fq hc1 hc3 ho7 hx7 hv7 hr6';have hst7:rG c h7 s2:=hp6.ext hx7 (fun b hb q=>by have:=kown _ q.symm;rw[hc] at hb;dsimp only at hb;omega);have x7:Ext (fun b=>b=c.pb) h3 h7:=(xg.trans y6).bH hx7 (fun i hi q=>by have:=kown _ q.symm;omega);refine af ?_;refine xo rfl (jb [_]) ?_;rintro _ w9 ⟨rfl,hw9⟩;have y9:aj h7 w9:=by rw[hw9];exact Ext.push _ _ _
       have ts9:aZ oz w9 (fun _=>False) (.slice (some ⟨Array.size h7,0,none⟩) 1 1) [[59]]:=by rw[hw9];exact bB _ [[59]] _ rfl (by simp[maxLen]) rfl
       refine xo rfl (aF rfl (bA (hst7.ah y9) 6 ts9)) ?_;rintro _ h9 ⟨rfl,hp9,x9⟩;have x9:=y9.of.trans x9
       rcases hq9:bE 6 [[59]] s2 with ⟨o9,s9⟩
       rw[hq9] at hp9 hm;have hp9:rG c h9 s9:=hp9;have how9:=ho7x.rL x9 (fun b q q2=>by have:=ho7.lt q;omega) (fun b hb q=>by omega) (fun _ _ q=>q);have x39:=x7.trans x9;have hgood:∀sN:PS,(sN.bI=false->s9.bI=false)->sN.bI=false->t6=tv:=fun sN q1 q2=>ht6 (aL hq9 (q1 q2))
       have hfinB:∀sN:PS,dG c.e m (l++[tv]) sN=some (K,F)->sN.bI=true->sN=F:=fun sN q1 q2=>by have:=th q1 (A2 q2).1;cases this;rfl
       rcases o9 with _|w9
       · simp only at hm;have e9:=aE hq9;obtain⟨qi,qbb,qm,qk,qsl,qil,qs,_⟩:=(show rG c h9 s9 from hp9)
         obtain⟨ql1,ql2,ql3⟩:=HM qs;rw[hcu] at ql1;rw[hlv] at qk
         iterate 5 refine bz ?_
         refine dH ?_;refine bl ?_;refine LI 14 (fun b=>Array.size h9<=b) (fun i=>Nat.blt i 14) [(71,.bool (decide (qi<us.length)))] rfl ?_ ?_
         · refine aG 0 ?_;refine aG 1 ?_;refine aG 2 ?_;refine RD.cy (d:=60) (b':=true) rfl (rfl) ?_;refine aG 3 ?_;refine aG 4 ?_;refine aG 5 ?_;refine bJ 6 rfl (fun h' e=>aA rfl (e.old (qk.cell (i:=1) rfl))) ?_;refine aG 7 ?_;refine aG 8 ?_;refine aG 9 ?_;refine bJ 10 rfl (fun h' e=>aA rfl (e.old (qk.cell (i:=0) rfl))) ?_;refine aG 11 ?_;refine aG 12 ?_;refine aG 13 ?_;exact JG rfl ⟨av rfl (by rw[decide_eq_decide];omega),sb rfl⟩
         · refine aX (fun hgo2=>?_) (fun hgo2=>?_)
           · have hsN:(if s9.len=0 then s9 else cB c.e s9)=cB c.e s9:=by
              split
              · rename_i q;cases qbb with
                |true=>exact((A2 ql3).2 _).symm
                |false=>have:=ql1 rfl;omega
              · rfl
             rw[hsN] at hm;have hfb:(cB c.e s9).bI=true:=by obtain⟨q,hq⟩:=zh c.e s9;rw[hq];rfl
             refine af ?_;refine xo rfl (aF rfl (eE hp9)) ?_;rintro _ h10 ⟨rfl,hp10,x10⟩;have how10:=how9.rL x10 (fun b q q2=>by have:=ho7.lt q;omega) (fun b hb q=>by omega) (fun _ _ q=>q);refine af ?_;exact ih (m,l++[t6],v7,cB c.e s9) ⟨⟨hp10,x39.trans x10,how10⟩,fun q=>hfinB _ hm q,fun q=>(by have q:(cB c.e s9).bI=false:=q;rw[hfb] at q;cases q)⟩ (Nat.lt_succ_self _)
           · have hs0:s9.len=0:=by
              cases qbb with
              |true=>exact(A2 ql3).1
              |false=>have:=ql1 rfl;omega
             rw[if_pos hs0] at hm;refine af ?_;exact ih (m,l++[t6],v7,s9) ⟨⟨hp9,x39,how9⟩,fun q=>hfinB _ hm q,fun q=>⟨by dsimp only;rw[hgood s9 id q];exact hm,by dsimp only;rw[List.length_append,List.length_singleton,hs0];omega⟩⟩ (Nat.lt_succ_self _)
       · simp only at hm;have hl9:=ct hq9
         iterate 5 refine bz ?_
         refine dH ?_;refine bl ?_;refine LI 14 (fun b=>Array.size h9<=b) (fun i=>Nat.blt i 14) [(71,.bool false)] rfl ?_ ?_
         · refine aG 0 ?_;refine aG 1 ?_;refine aG 2 ?_;refine RD.cy (d:=60) (b':=false) rfl (rfl) ?_;refine Bf 3 ?_;refine Bf 4 ?_;refine Bf 5 ?_;refine Bf 6 ?_;refine Bf 7 ?_;refine Bf 8 ?_;refine Bf 9 ?_;refine Bf 10 ?_;refine Bf 11 ?_;refine Bf 12 ?_;refine aG 13 ?_;exact JG rfl ⟨av rfl (rfl),sb rfl⟩
         · refine gm rfl (by simp) ?_;refine af ?_;exact ih (m,l++[t6],v7,s9) ⟨⟨hp9,x39,how9⟩,fun q=>hfinB _ hm q,fun q=>⟨by dsimp only;rw[hgood s9 id q];exact hm,by dsimp only;rw[List.length_append,List.length_singleton];omega⟩⟩ (Nat.lt_succ_self _)
     · have h0:sI.len=0:=by simpa using hgo
       refine af ?_;refine xp rfl (aA rfl (pk.cell (i:=3) rfl)) ?_;refine af ?_
       rcases pbb with _|_
       · refine gm rfl (by simp) ?_;obtain⟨r,hr⟩:∃r,sI= .ok r:=by cases sI with|ok r=>exact⟨r,rfl⟩|bad q=>cases Px
         obtain⟨hm,hll⟩:=hok (by rw[hr];rfl);have hz:=th hm h0;obtain⟨rfl,rfl,rfl⟩:=hend.2 (by cases hz;rw[hr];rfl);have hKl:k=l:=by cases hz;rfl
         refine af ?_;refine bw ?_;exact⟨_,rfl,aj.only e13 xg (by omega),_,rfl,by rw[hKl];exact(cF.lower how (by omega)).rL (Ext.refl (fun _=>False) _) (fun _ _ q=>q) (fun _ _ q=>q.elim) (fun b hb q=>by omega)⟩
       · have hF:F= .bad pm:=by rw[<-hbad Px];exact OQ rfl
         obtain⟨rfl,rfl,rfl⟩:=hend.1 pm hF;refine fH rfl (by simp) ?_;refine af ?_;refine cG rfl (aA rfl (pk.cell (i:=4) rfl)) ?_;refine af ?_;refine bw ?_;exact⟨_,rfl,aj.only e13 xg (by omega),_,rfl,cF.nil _ _ _ _ _⟩
theorem qn (hg:n8 h) (hv:aZ Ku h (fun _=>False) v ts) (s:By) (st:uB) (hb:ts.length*(s.length+2)<=1000000000000) (hsl:s.length<=1000000000000)
 {k:List Tr}(hP:cU s ts st.1 k a e) :
 au Tryz.prog 14 #[.string (bs s),v,.agg (bR st).toArray] h (bL fun r h'=>aj h h'/\∃lv,r=packed [lv,.int .i64 a,.int .i64 e]/\aZ eN h' (fun b=>b<h.size) lv k) :=
 (C3 hg hv s st hb hsl hP).ret fun _ _ ⟨e1,lv,h1,h2⟩=>⟨e1,lv,h1,h2.read (fun _ hb q=>Nat.not_lt.2 hb q) (fun _ _ q=>q)⟩
theorem Cz {h':ai}{O2:Nat->Prop}{cs:List Value}(q:eV.R h O cs x) (e:aj h h') (hO:∀b,b<h.size->O2 b->O b):eV.R h' O2 cs x :=
 eV.mv q ⟨e.size,fun b hb hn=>⟨e.block b hb (fun k=>k),fun k=>hn (hO b hb k)⟩⟩
theorem jr {xs:List Bd}(hv:aZ eB h O v xs) (hx:xs.length<=1000000) (t:By) (hw:cQ h O w x) :
 au Tryz.prog 86 #[v,.string (bs t),w] h (bL fun r h'=>cF eB O h' h.size 32 r (xs++[(t,x)])/\aj h h'):=by
 obtain⟨nk,nt,a,n,c,ea,en,ec,rfl,hb,hR,he⟩:=cQ.get hw;refine b9 ?_;refine af ?_;refine xo rfl (kH) ?_;rintro _ h1 ⟨rfl,k1,e1,z1⟩;have k1:aD h1 h.size 30 (jV x.kind x.num x.gr x.self nk nt a n c ea en ec):=k1;have hcl:=mC (hv.ah e1) hx;refine af ?_;refine LH 8 8 ?_;refine aG 0 ?_;refine aG 2 ?_;refine bJ 3 rfl (fun h' e=>b7 rfl (e.Ao k1.row)) ?_;refine bJ 4 rfl (fun h' e=>aq (H.lJ _ _ _ _ _ _ _ _ _) rfl) ?_;refine P7 1 5 rfl rfl (aF rfl hcl) (rJ) ?_ ?_
 · rintro v2 h2 ⟨ho2,e2⟩;refine⟨fun _=>e2.of,?_⟩;obtain⟨css,hc1,hc2,hc3⟩:=id ho2;have hz2:=e2.size;refine dR 5 rfl (rJ) ?_;rintro _ _ ⟨rfl,rfl⟩;refine⟨fun _=>by first|exact Ext.push _ _ _|assumption,?_⟩;refine dR 6 rfl (xO rfl rfl hc2 rfl rfl (by omega) (by have:=e2.size;omega)) ?_;rintro v3 h3 ⟨ho3,hx3,hx3',hv3⟩;refine⟨fun _=>hx3'.mono (fun b _ q=>(hc2.lt q.symm).1),?_⟩;refine aG 7 ?_;refine iO ?_;refine bw ?_;have e12:=e1.trans e2;have hy:eB.R h2 (fun b=>cx v2.ownBlock b\/O b) (.string (bs t)::jV x.kind x.num x.gr x.self nk nt a n c ea en ec) (t,x):=⟨_,rfl,Cz hR e12 (fun b hb q=>q.elim (fun q=>by have:=(hc2.lt q.symm).1;omega) id)⟩
   have hP:=cF.fq hc1 hc3 ho3 hx3 hv3 hy;exact⟨_,rfl,cF.lower hP (by omega),⟨by have:=hx3.size;have:=e12.size;omega,fun b hb _=>(hx3.block b (by have:=e12.size;omega) (fun q=>by have:=(hc2.lt q.symm).1;omega)).trans (e12.block b hb (fun k=>k))⟩⟩
 · rintro _ h2 ⟨rfl,hh2⟩;refine⟨fun _=>(by rw[hh2];exact Ext.push _ _ _),?_⟩;have e2:aj h1 h2:=by rw[hh2];exact Ext.push _ _ _
   have z2:h2.size=h1.size+1:=by rw[hh2];simp
   have hrow:Lw.rowAt h2 h1.size 0 (.string (bs t)::jV x.kind x.num x.gr x.self nk nt a n c ea en ec):=by rw[hh2];exact nh _ _ _
   have e12:=e1.trans e2;refine dR 1 rfl (aF rfl (mC (hv.ah e12) hx)) ?_;rintro v3 h3 ⟨ho3,e3⟩;refine⟨fun _=>e3.of,?_⟩;obtain⟨css,hc1,hc2,hc3⟩:=id ho3;have e13:=e12.trans e3;refine dR 6 rfl (aQ.append underlying28 H.Ks rfl rfl hc2 rfl (.inr ⟨_,_,rfl,e3.rowAt (fun k=>k) hrow⟩) (by simp[Value.oneCell']) (by simp only[maxLen];omega) (by omega) e3.size) ?_;rintro v4 h4 ⟨ho4,hx4,_,hv4⟩;refine⟨fun _=>hx4.mono (fun b _ q=>by have:=(hc2.lt q.symm).1;omega),?_⟩;refine aG 7 ?_;refine iO ?_;refine bw ?_;have hy:eB.R h3 (fun b=>cx v3.ownBlock b\/O b) (.string (bs t)::jV x.kind x.num x.gr x.self nk nt a n c ea en ec) (t,x):=⟨_,rfl,Cz hR e13 (fun b hb q=>q.elim (fun q=>by have:=(hc2.lt q.symm).1;omega) id)⟩
   have hP:=cF.fq hc1 hc3 ho4 hx4 hv4 hy;exact⟨_,rfl,cF.lower hP (by have:=e2.size;omega),⟨by have:=hx4.size;have:=e13.size;omega,fun b hb _=>(hx4.block b (by have:=e13.size;omega) (fun q=>by have:=(hc2.lt q.symm).1;omega)).trans (e13.block b hb (fun k=>k))⟩⟩
theorem yL (hw:cQ h O w x) (t:By) :
 au Tryz.prog 85 #[w,.string (bs t)] h (bL fun r h'=>cQ h' O r (jg x t)/\aj h h'):=by
 obtain⟨nk,nt,a,n,c,ea,en,ec,rfl,hb,hR,he⟩:=cQ.get hw;obtain⟨k,m,s,f,b,e⟩:=x;dsimp only[Vl.kind,Vl.num,Vl.gr,Vl.self,Vl.body,Vl.env] at hR ⊢;refine b9 ?_;refine af ?_;refine xo rfl (kH) ?_;rintro _ h1 ⟨rfl,k1,e1,z1⟩;refine xo rfl (cH) ?_;rintro _ h2 ⟨rfl,k2,e2,z2⟩;have k1:aD h2 h.size 30 (jV k m s f nk nt a n c ea en ec):=k1.ah e2;have e12:=e1.trans e2;refine dH ?_
 iterate 2 refine bl ?_
 refine gG [(12,.bool (decide (k=4/\f=[])))] rfl ?_ ?_
 · refine af ?_;refine xp rfl (aA rfl (k1.cell (i:=0) rfl)) ?_;refine af ?_;refine dV 8 (fun p=>?_) (fun p=>?_)
   · have p:=of_decide_eq_true p;refine af ?_;refine xp rfl (aA rfl (k1.cell (i:=3) rfl)) ?_;refine af ?_;exact aH rfl ⟨av rfl (by rw[decide_eq_decide];exact⟨fun q=>⟨p,bu (m:=[]) q⟩,fun q=>by rw[q.2];rfl⟩),sb rfl⟩
   · have p:=of_decide_eq_false p;refine af ?_;exact aH rfl ⟨av rfl (by rw[decide_eq_false (fun q=>p q.1)]),sb rfl⟩
 · refine jo (fun hc=>?_) (fun hc=>?_)
   · have hc:=of_decide_eq_true hc;refine af ?_;refine aN rfl (mG rfl rfl k1) ?_;rintro _ h3 ⟨rfl,k3,x3,z3⟩;have k3:aD h3 h.size 30 (jV k m s t nk nt a n c ea en ec):=k3;have e3:aj h h3:=aj.only e12 x3 (Nat.le_refl _);refine af ?_;refine xp rfl (b7 rfl k3.row) ?_;refine aN rfl (aV rfl rfl ((k2.ext x3 (by omega))) fT) ?_;rintro _ h4 ⟨rfl,k4,x4,z4⟩;refine af ?_;refine cn (cg rfl k4.row cm) ?_;have e4:aj h h4:=aj.only e3 x4 (by omega);refine⟨_,rfl,?_,e4⟩;have:jg (.mk k m s f b e) t= .mk k m s t b e:=if_pos hc;rw[this];exact cQ.of (L2 (Cz hR e4 fun _ _ q=>q) t)
   · have hc:=of_decide_eq_false hc;refine af ?_;refine xp rfl (b7 rfl k1.row) ?_;refine aN rfl (aV rfl rfl k2 fT) ?_;rintro _ h4 ⟨rfl,k4,x4,z4⟩;refine af ?_;refine cn (cg rfl k4.row cm) ?_;have e4:aj h h4:=aj.only e12 x4 (by omega);refine⟨_,rfl,?_,e4⟩;have:jg (.mk k m s f b e) t= .mk k m s f b e:=if_neg hc;rw[this];exact cQ.of (Cz hR e4 fun _ _ q=>q)
theorem Bu (hw:cQ h O w x) (op:By) :
 au Tryz.prog 46 #[.string (bs op),w] h (bL fun r h'=>∃v,r=packed [v,.int .i64 (zO op x).2]/\cQ h' O v (zO op x).1/\aj h h'):=by
 obtain⟨nk,nt,a,n,c,ea,en,ec,rfl,hb,hR,he⟩:=cQ.get hw;refine b9 ?_;refine af ?_;refine xo rfl (kH) ?_;rintro _ h1 ⟨rfl,k1,e1,z1⟩;refine xo rfl (cH) ?_;rintro _ h2 ⟨rfl,k2,e2,z2⟩;have k1:aD h2 h.size 30 (jV x.kind x.num x.gr x.self nk nt a n c ea en ec):=k1.ah e2;have e12:=e1.trans e2;refine bz ?_;refine dH ?_
 iterate 3 refine bl ?_
 refine gG [(6,.bool (decide (op=kI/\x.kind=2)))] rfl ?_ ?_
 · refine af ?_;refine dV 9 (fun p1=>?_) (fun p1=>?_)
   · have p1:op=kI:=bu (of_decide_eq_true p1);refine af ?_;refine xp rfl (aA rfl (k1.cell (i:=0) rfl)) ?_;refine af ?_;exact aH rfl ⟨av rfl (by rw[decide_eq_decide];exact⟨fun q=>⟨p1,q⟩,fun q=>q.2⟩),sb rfl⟩
   · have p1:¬op=kI:=fun q=>of_decide_eq_false p1 (by rw[q];rfl)
     refine af ?_;exact aH rfl ⟨av rfl (by rw[decide_eq_false (fun q=>p1 q.1)]),sb rfl⟩
 · refine jo (fun hc=>?_) (fun hc=>?_)
   · have hc:=of_decide_eq_true hc;refine af ?_;refine xp rfl (aA rfl (k1.cell (i:=1) rfl)) ?_;refine af ?_;refine xo rfl (aF rfl (dh _)) ?_;rintro _ h3 ⟨rfl,e3⟩;refine aN rfl (aV rfl rfl ((k2.ah e3)) fT) ?_;rintro _ h4 ⟨rfl,k4,x4,z4⟩;refine af ?_;refine cn (cg rfl k4.row (eD cm)) ?_;have hu:zO op x=(iP (decide (x.num=0)),0):=if_pos hc;rw[hu];exact⟨_,rfl,_,rfl,oO _ _ _,aj.only (e12.trans e3) x4 (by omega)⟩
   · have hc:=of_decide_eq_false hc;refine bl ?_;refine gG [(18,.bool (decide (op=[45]/\x.kind=1/\x.num≠ -9223372036854775808)))] rfl ?_ ?_
     · refine af ?_;refine dV 21 (fun p1=>?_) (fun p1=>?_)
       · have p1:op=[45]:=bu (of_decide_eq_true p1);refine af ?_;refine xp rfl (aA rfl (k1.cell (i:=0) rfl)) ?_;refine af ?_;refine dV 26 (fun p2=>?_) (fun p2=>?_)
         · have p2:=of_decide_eq_true p2;refine af ?_;refine xp rfl (aA rfl (k1.cell (i:=1) rfl)) ?_;refine af ?_;exact aH rfl ⟨av rfl (by rw[decide_eq_decide];exact⟨fun q=>⟨p1,p2,q⟩,fun q=>q.2.2⟩),sb rfl⟩
         · have p2:=of_decide_eq_false p2;refine af ?_;exact aH rfl ⟨av rfl (by rw[decide_eq_false (fun q=>p2 q.2.1)]),sb rfl⟩
       · have p1:¬op=[45]:=fun q=>of_decide_eq_false p1 (by rw[q];rfl)
         refine af ?_;exact aH rfl ⟨av rfl (by rw[decide_eq_false (fun q=>p1 q.1)]),sb rfl⟩
     · refine jo (fun hd=>?_) (fun hd=>?_)
       · have hd:=of_decide_eq_true hd;refine af ?_;refine xp rfl (aA rfl (k1.cell (i:=1) rfl)) ?_;refine xp rfl (KN rfl) ?_;refine xp rfl (aq (H.fV _ _) rfl) ?_;refine aN rfl (aV rfl rfl k2 fT) ?_;rintro _ h4 ⟨rfl,k4,x4,z4⟩;refine af ?_;refine cn (cg rfl k4.row (eD cm)) ?_;have hu:zO op x=(fR (wrap64 (0-x.num)),0):=(if_neg hc).trans (if_pos hd);rw[hu];exact⟨_,rfl,_,rfl,vg _ _ _,aj.only e12 x4 (by omega)⟩
       · have hd:=of_decide_eq_false hd;refine af ?_;refine xp rfl (aq (H.dU ) rfl) ?_;refine aN rfl (aV rfl rfl k2) ?_;rintro _ h4 ⟨rfl,k4,x4,z4⟩;refine af ?_;refine cn (cg rfl k4.row (eD cm)) ?_;have hu:zO op x=(gY,2):=(if_neg hc).trans (if_neg hd);rw[hu];exact⟨_,rfl,_,rfl,gX _ _,aj.only e12 x4 (by omega)⟩
theorem pE (O:Nat->Prop) (op:By) (way:Int) :
 au Tryz.prog 88 #[.string (bs op),.int .i64 way] h (bL fun r h'=>∃v,r=packed [v,.int .i64 (gZ op way).2]/\cQ h' O v (gZ op way).1/\aj h h'):=by
 refine b9 ?_;refine af ?_;refine xo rfl (cH) ?_;rintro _ h1 ⟨rfl,k1,e1,z1⟩;refine af ?_;refine aX (fun c1=>?_) (fun c1=>?_)
 · have c1:op=[61,61]:=bu c1;refine af ?_;refine xo rfl (aF rfl (dh _)) ?_;rintro _ h3 ⟨rfl,e3⟩;refine aN rfl (aV rfl rfl ((k1.ah e3)) fT) ?_;rintro _ h4 ⟨rfl,k4,x4,z4⟩;refine af ?_;refine cn (cg rfl k4.row (eD cm)) ?_;rw[show gZ op way=(iP (decide (way=0)),0) by unfold gZ;skip;rw[if_pos c1]];exact⟨_,rfl,_,rfl,oO _ _ _,aj.only (e1.trans e3) x4 (Nat.le_refl _)⟩
 · have c1:¬op=[61,61]:=fun q=>c1 (by rw[q];rfl)
   refine af ?_;refine aX (fun c2=>?_) (fun c2=>?_)
   · have c2:op=[33,61]:=bu c2;refine af ?_;refine xo rfl (aF rfl (dh _)) ?_;rintro _ h3 ⟨rfl,e3⟩;refine aN rfl (aV rfl rfl ((k1.ah e3)) fT) ?_;rintro _ h4 ⟨rfl,k4,x4,z4⟩;refine af ?_;refine cn (cg rfl k4.row (eD cm)) ?_;rw[show gZ op way=(iP (decide (¬way=0)),0) by unfold gZ;rw[if_neg c1];rw[if_pos c2]];exact⟨_,rfl,_,rfl,oO _ _ _,aj.only (e1.trans e3) x4 (Nat.le_refl _)⟩
   · have c2:¬op=[33,61]:=fun q=>c2 (by rw[q];rfl)
     refine af ?_;refine aX (fun c3=>?_) (fun c3=>?_)
     · have c3:op=[60]:=bu c3;refine af ?_;refine xo rfl (aF rfl (dh _)) ?_;rintro _ h3 ⟨rfl,e3⟩;refine aN rfl (aV rfl rfl ((k1.ah e3)) fT) ?_;rintro _ h4 ⟨rfl,k4,x4,z4⟩;refine af ?_;refine cn (cg rfl k4.row (eD cm)) ?_;rw[show gZ op way=(iP (decide (way<0)),0) by unfold gZ;rw[if_neg c1,if_neg c2];rw[if_pos c3]];exact⟨_,rfl,_,rfl,oO _ _ _,aj.only (e1.trans e3) x4 (Nat.le_refl _)⟩
     · have c3:¬op=[60]:=fun q=>c3 (by rw[q];rfl)
       refine af ?_;refine aX (fun c4=>?_) (fun c4=>?_)
       · have c4:op=[60,61]:=bu c4;refine af ?_;refine xo rfl (aF rfl (dh _)) ?_;rintro _ h3 ⟨rfl,e3⟩;refine aN rfl (aV rfl rfl ((k1.ah e3)) fT) ?_;rintro _ h4 ⟨rfl,k4,x4,z4⟩;refine af ?_;refine cn (cg rfl k4.row (eD cm)) ?_;rw[show gZ op way=(iP (decide (way<=0)),0) by unfold gZ;rw[if_neg c1,if_neg c2,if_neg c3];rw[if_pos c4]];exact⟨_,rfl,_,rfl,oO _ _ _,aj.only (e1.trans e3) x4 (Nat.le_refl _)⟩
       · have c4:¬op=[60,61]:=fun q=>c4 (by rw[q];rfl)
         refine af ?_;refine aX (fun c5=>?_) (fun c5=>?_)
         · have c5:op=[62]:=bu c5;refine af ?_;refine xo rfl (aF rfl (dh _)) ?_;rintro _ h3 ⟨rfl,e3⟩;refine aN rfl (aV rfl rfl ((k1.ah e3)) fT) ?_;rintro _ h4 ⟨rfl,k4,x4,z4⟩;refine af ?_;refine cn (cg rfl k4.row (eD cm)) ?_;rw[show gZ op way=(iP (decide (0<way)),0) by unfold gZ;rw[if_neg c1,if_neg c2,if_neg c3,if_neg c4];rw[if_pos c5]];exact⟨_,rfl,_,rfl,oO _ _ _,aj.only (e1.trans e3) x4 (Nat.le_refl _)⟩
         · have c5:¬op=[62]:=fun q=>c5 (by rw[q];rfl)
           refine af ?_;refine aX (fun c6=>?_) (fun c6=>?_)
           · have c6:op=[62,61]:=bu c6;refine af ?_;refine xo rfl (aF rfl (dh _)) ?_;rintro _ h3 ⟨rfl,e3⟩;refine aN rfl (aV rfl rfl ((k1.ah e3)) fT) ?_;rintro _ h4 ⟨rfl,k4,x4,z4⟩;refine af ?_;refine cn (cg rfl k4.row (eD cm)) ?_;rw[show gZ op way=(iP (decide (0<=way)),0) by unfold gZ;rw[if_neg c1,if_neg c2,if_neg c3,if_neg c4,if_neg c5];rw[if_pos c6]];exact⟨_,rfl,_,rfl,oO _ _ _,aj.only (e1.trans e3) x4 (Nat.le_refl _)⟩
           · have c6:¬op=[62,61]:=fun q=>c6 (by rw[q];rfl)
             refine af ?_;refine xp rfl (aq (H.dU ) rfl) ?_;refine aN rfl (aV rfl rfl k1) ?_;rintro _ h4 ⟨rfl,k4,x4,z4⟩;refine af ?_;refine cn (cg rfl k4.row (eD cm)) ?_;rw[show gZ op way=(gY,2) by unfold gZ;rw[if_neg c1,if_neg c2,if_neg c3,if_neg c4,if_neg c5,if_neg c6]];exact⟨_,rfl,_,rfl,gX _ _,aj.only e1 x4 (Nat.le_refl _)⟩
theorem tB (a:Int):au Tryz.prog 164 #[.int .i64 a] h (bL fun r h'=>r= .bool false/\h'=h):=by
 refine b9 ?_;refine af ?_;refine bw ?_;exact⟨_,rfl,by simp[packed],rfl⟩
theorem CF (a b:Int):au Tryz.prog 132 #[.int .i64 a,.int .i64 b] h (bL fun r h'=>r= .int .i64 (if a<b then -1 else if a=b then 0 else 1)/\h'=h):=by
 refine b9 ?_;refine af ?_;refine xo rfl (aF rfl (tB _)) ?_;rintro _ _ ⟨rfl,rfl⟩;refine af ?_;refine xo rfl (aF rfl (tB _)) ?_;rintro _ _ ⟨rfl,rfl⟩;refine af ?_;refine gm rfl (by simp) ?_;refine af ?_;refine gm rfl (by simp) ?_;refine af ?_;refine aX (fun h1=>?_) (fun h1=>?_)
 · refine af ?_;refine bw ?_;exact⟨_,rfl,by rw[if_pos h1];rfl,rfl⟩
 · refine af ?_;refine aX (fun h2=>?_) (fun h2=>?_)
   · refine af ?_;refine bw ?_;exact⟨_,rfl,by rw[if_neg h1,if_neg (by omega)];rfl,rfl⟩
   · refine af ?_;refine bw ?_;exact⟨_,rfl,by rw[if_neg h1,if_pos (by omega)];rfl,rfl⟩
theorem yd (O:Nat->Prop) (op:By) (a b:Int) :
 au Tryz.prog 87 #[.string (bs op),.int .i64 a,.int .i64 b] h (bL fun r h'=>∃v,r=packed [v,.int .i64 (cT op a b).2]/\cQ h' O v (cT op a b).1/\aj h h'):=by
 refine b9 ?_;refine af ?_;refine xo rfl (cH) ?_;rintro _ h1 ⟨rfl,k1,e1,z1⟩;refine af ?_;refine aX (fun c1=>?_) (fun c1=>?_)
 · have c1:op=[43]:=bu c1;refine bl ?_;refine cW ?_
   iterate 2 refine bz ?_
   refine xp rfl (az.add rfl rfl) ?_;refine af ?_;refine jo (fun hn=>?_) (fun hn=>?_)
   · have hn:decide (wrap64 (a+b)>a)=decide (b>0)->False:=by simpa [wrap64] using hn
     refine af ?_;refine xp rfl (aq (H.dU ) rfl) ?_;refine aN rfl (aV rfl rfl k1) ?_;rintro _ h4 ⟨rfl,k4,x4,z4⟩;refine af ?_;refine cn (cg rfl k4.row (eD cm)) ?_;rw[show cT op a b=(gY,2) by unfold cT;rw[if_pos c1];exact if_neg hn];exact⟨_,rfl,_,rfl,gX _ _,aj.only e1 x4 (Nat.le_refl _)⟩
   · have hn:decide (wrap64 (a+b)>a)=decide (b>0):=by simpa [wrap64] using hn
     refine af ?_;refine xp rfl (aq (H.fV _ _) rfl) ?_;refine aN rfl (aV rfl rfl k1 fT) ?_;rintro _ h4 ⟨rfl,k4,x4,z4⟩;refine af ?_;refine cn (cg rfl k4.row (eD cm)) ?_;rw[show cT op a b=(fR (wrap64 (a+b)),0) by unfold cT;rw[if_pos c1];exact if_pos hn];exact⟨_,rfl,_,rfl,vg _ _ _,aj.only e1 x4 (Nat.le_refl _)⟩
 · have c1:¬op=[43]:=fun q=>c1 (by rw[q];rfl)
   refine af ?_;refine aX (fun c2=>?_) (fun c2=>?_)
   · have c2:op=[45]:=bu c2;refine bl ?_;refine cW ?_
     iterate 2 refine bz ?_
     refine xp rfl (az.sub rfl rfl) ?_;refine af ?_;refine jo (fun hn=>?_) (fun hn=>?_)
     · have hn:decide (wrap64 (a-b)<a)=decide (b>0)->False:=fun q=>by rw[decide_eq_decide] at q;simp at hn;exact hn q
       refine af ?_;refine xp rfl (aq (H.dU ) rfl) ?_;refine aN rfl (aV rfl rfl k1) ?_;rintro _ h4 ⟨rfl,k4,x4,z4⟩;refine af ?_;refine cn (cg rfl k4.row (eD cm)) ?_;rw[show cT op a b=(gY,2) by unfold cT;rw[if_neg c1,if_pos c2];exact if_neg hn];exact⟨_,rfl,_,rfl,gX _ _,aj.only e1 x4 (Nat.le_refl _)⟩
     · have hn:decide (wrap64 (a-b)<a)=decide (b>0):=by rw[decide_eq_decide];simp at hn;exact hn
       refine af ?_;refine xp rfl (aq (H.fV _ _) rfl) ?_;refine aN rfl (aV rfl rfl k1 fT) ?_;rintro _ h4 ⟨rfl,k4,x4,z4⟩;refine af ?_;refine cn (cg rfl k4.row (eD cm)) ?_;rw[show cT op a b=(fR (wrap64 (a-b)),0) by unfold cT;rw[if_neg c1,if_pos c2];exact if_pos hn];exact⟨_,rfl,_,rfl,vg _ _ _,aj.only e1 x4 (Nat.le_refl _)⟩
   · have c2:¬op=[45]:=fun q=>c2 (by rw[q];rfl)
     refine af ?_;refine aX (fun c3=>?_) (fun c3=>?_)
     · have c3:op=[42]:=bu c3;refine bl ?_;refine cW ?_
       iterate 2 refine bz ?_
       refine xp rfl (Fj rfl rfl) ?_;refine bz ?_;refine dH ?_;refine gG [(9,.bool (decide (a=0\/wrap64 ((wrap64 (a*b)).tdiv a)=b/\(a≠ -1\/b≠ -9223372036854775808))))] rfl ?_ ?_
       · refine af ?_;refine dV 48 (fun d1=>?_) (fun d1=>?_)
         · have d1:=of_decide_eq_true d1;refine af ?_;exact aH rfl ⟨av rfl (by rw[decide_eq_true (.inl d1)]),sb rfl⟩
         · have d1:=of_decide_eq_false d1
           iterate 2 refine bz ?_
           refine xp rfl (oF rfl rfl d1) ?_;refine af ?_;refine dV 54 (fun d2=>?_) (fun d2=>?_)
           · have d2:wrap64 ((wrap64 (a*b)).tdiv a)=b:=of_decide_eq_true d2;refine af ?_;refine dV 57 (fun d3=>?_) (fun d3=>?_)
             · have d3:=of_decide_eq_true d3;refine af ?_;exact aH rfl ⟨av rfl (by rw[decide_eq_true (.inr ⟨d2,.inl d3⟩)]),sb rfl⟩
             · have d3:=of_decide_eq_false d3;refine af ?_;exact aH rfl ⟨av rfl (by rw[decide_eq_decide];exact⟨fun q=>.inr ⟨d2,.inr q⟩,fun q=>(q.resolve_left d1).2.resolve_left d3⟩),sb rfl⟩
           · have d2:¬wrap64 ((wrap64 (a*b)).tdiv a)=b:=of_decide_eq_false d2;refine af ?_;exact aH rfl ⟨av rfl (by rw[decide_eq_false (fun q=>d2 (q.resolve_left d1).1)]),sb rfl⟩
       · refine af ?_;refine jo (fun hn=>?_) (fun hn=>?_)
         · have hn:¬(a=0\/wrap64 ((wrap64 (a*b)).tdiv a)=b/\(a≠ -1\/b≠ -9223372036854775808)):=fun q=>by rw[decide_eq_true q] at hn;exact absurd hn (by decide)
           refine af ?_;refine xp rfl (aq (H.dU ) rfl) ?_;refine aN rfl (aV rfl rfl k1) ?_;rintro _ h4 ⟨rfl,k4,x4,z4⟩;refine af ?_;refine cn (cg rfl k4.row (eD cm)) ?_;rw[show cT op a b=(gY,2) by unfold cT;rw[if_neg c1,if_neg c2,if_pos c3];exact if_neg hn];exact⟨_,rfl,_,rfl,gX _ _,aj.only e1 x4 (Nat.le_refl _)⟩
         · have hn:a=0\/wrap64 ((wrap64 (a*b)).tdiv a)=b/\(a≠ -1\/b≠ -9223372036854775808):=Classical.byContradiction fun q=>by rw[decide_eq_false q] at hn;exact absurd hn (by decide)
           refine af ?_;refine xp rfl (aq (H.fV _ _) rfl) ?_;refine aN rfl (aV rfl rfl k1 fT) ?_;rintro _ h4 ⟨rfl,k4,x4,z4⟩;refine af ?_;refine cn (cg rfl k4.row (eD cm)) ?_;rw[show cT op a b=(fR (wrap64 (a*b)),0) by unfold cT;rw[if_neg c1,if_neg c2,if_pos c3];exact if_pos hn];exact⟨_,rfl,_,rfl,vg _ _ _,aj.only e1 x4 (Nat.le_refl _)⟩
     · have c3:¬op=[42]:=fun q=>c3 (by rw[q];rfl)
       refine af ?_;refine aX (fun c4=>?_) (fun c4=>?_)
       · have c4:op=[47]:=bu c4;refine af ?_;refine fH rfl (by rw[c4];exact fun q=>absurd rfl (of_decide_eq_false q)) ?_
         iterate 2 refine bl ?_
         refine gG [(75,.bool (decide (b=0\/a= -9223372036854775808/\b= -1)))] rfl ?_ ?_
         · refine af ?_;refine dV 68 (fun d1=>?_) (fun d1=>?_)
           · have d1:=of_decide_eq_true d1;refine af ?_;exact aH rfl ⟨av rfl (by rw[decide_eq_true (.inl d1)]),sb rfl⟩
           · have d1:=of_decide_eq_false d1;refine af ?_;refine dV 71 (fun d2=>?_) (fun d2=>?_)
             · have d2:=of_decide_eq_true d2;refine af ?_;exact aH rfl ⟨av rfl (by rw[decide_eq_decide];exact⟨fun q=>.inr ⟨d2,q⟩,fun q=>(q.resolve_left d1).2⟩),sb rfl⟩
             · have d2:=of_decide_eq_false d2;refine af ?_;exact aH rfl ⟨av rfl (by rw[decide_eq_false (fun q=>d2 (q.resolve_left d1).1)]),sb rfl⟩
         · refine jo (fun hz=>?_) (fun hz=>?_)
           · have hz:=of_decide_eq_true hz;refine af ?_;refine xp rfl (aq (H.dU ) rfl) ?_;refine aN rfl (aV rfl rfl k1) ?_;rintro _ h4 ⟨rfl,k4,x4,z4⟩;refine af ?_;refine cn (cg rfl k4.row (eD cm)) ?_;rw[show cT op a b=(gY,2) by unfold cT;rw[if_neg c1,if_neg c2,if_neg c3,if_pos (.inl c4)];exact if_pos hz];exact⟨_,rfl,_,rfl,gX _ _,aj.only e1 x4 (Nat.le_refl _)⟩
           · have hz:=of_decide_eq_false hz;have hb:b≠0:=fun q=>hz (.inl q)
             iterate 2 refine bl ?_
             refine cW ?_
             iterate 2 refine bz ?_
             refine xp rfl (oF rfl rfl hb) ?_;refine af ?_;refine aX (fun c5=>?_) (fun c5=>?_)
             · exact absurd (bu (m:=[37]) c5) (by rw[c4];decide)
             · refine af ?_;refine gm rfl (by simp) ?_;refine af ?_;refine xp rfl (aq (H.fV _ _) rfl) ?_;refine aN rfl (aV rfl rfl k1 fT) ?_;rintro _ h4 ⟨rfl,k4,x4,z4⟩;refine af ?_;refine cn (cg rfl k4.row (eD cm)) ?_;rw[show cT op a b=(fR (wrap64 (a.tdiv b)),0) by unfold cT;rw[if_neg c1,if_neg c2,if_neg c3,if_pos (.inl c4)];exact(if_neg hz).trans (by rw[if_neg (by rw[c4];decide)])];exact⟨_,rfl,_,rfl,vg _ _ _,aj.only e1 x4 (Nat.le_refl _)⟩
       · have c4:¬op=[47]:=fun q=>c4 (by rw[q];rfl)
         refine af ?_;refine aX (fun c5=>?_) (fun c5=>?_)
         · have c5:op=[37]:=bu c5
           iterate 2 refine bl ?_
           refine gG [(75,.bool (decide (b=0\/a= -9223372036854775808/\b= -1)))] rfl ?_ ?_
           · refine af ?_;refine dV 68 (fun d1=>?_) (fun d1=>?_)
             · have d1:=of_decide_eq_true d1;refine af ?_;exact aH rfl ⟨av rfl (by rw[decide_eq_true (.inl d1)]),sb rfl⟩
             · have d1:=of_decide_eq_false d1;refine af ?_;refine dV 71 (fun d2=>?_) (fun d2=>?_)
               · have d2:=of_decide_eq_true d2;refine af ?_;exact aH rfl ⟨av rfl (by rw[decide_eq_decide];exact⟨fun q=>.inr ⟨d2,q⟩,fun q=>(q.resolve_left d1).2⟩),sb rfl⟩
               · have d2:=of_decide_eq_false d2;refine af ?_;exact aH rfl ⟨av rfl (by rw[decide_eq_false (fun q=>d2 (q.resolve_left d1).1)]),sb rfl⟩
           · refine jo (fun hz=>?_) (fun hz=>?_)
             · have hz:=of_decide_eq_true hz;refine af ?_;refine xp rfl (aq (H.dU ) rfl) ?_;refine aN rfl (aV rfl rfl k1) ?_;rintro _ h4 ⟨rfl,k4,x4,z4⟩;refine af ?_;refine cn (cg rfl k4.row (eD cm)) ?_;rw[show cT op a b=(gY,2) by unfold cT;rw[if_neg c1,if_neg c2,if_neg c3,if_pos (.inr c5)];exact if_pos hz];exact⟨_,rfl,_,rfl,gX _ _,aj.only e1 x4 (Nat.le_refl _)⟩
             · have hz:=of_decide_eq_false hz;have hb:b≠0:=fun q=>hz (.inl q)
               iterate 2 refine bl ?_
               refine cW ?_
               iterate 2 refine bz ?_
               refine xp rfl (oF rfl rfl hb) ?_;refine af ?_;refine aX (fun c6=>?_) (fun c6=>?_)
               · refine cW ?_
                 iterate 2 refine bz ?_
                 refine xp rfl (oE rfl rfl hb) ?_;refine af ?_;refine gm rfl (by simp) ?_;refine af ?_;refine xp rfl (aq (H.fV _ _) rfl) ?_;refine aN rfl (aV rfl rfl k1 fT) ?_;rintro _ h4 ⟨rfl,k4,x4,z4⟩;refine af ?_;refine cn (cg rfl k4.row (eD cm)) ?_;rw[show cT op a b=(fR (a.tmod b),0) by unfold cT;rw[if_neg c1,if_neg c2,if_neg c3,if_pos (.inr c5)];exact(if_neg hz).trans (by rw[if_pos c5])];exact⟨_,rfl,_,rfl,vg _ _ _,aj.only e1 x4 (Nat.le_refl _)⟩
               · exact absurd (by rw[c5];rfl) c6
         · have c5:¬op=[37]:=fun q=>c5 (by rw[q];rfl)
           refine af ?_;refine xo rfl (aF rfl (CF _ _)) ?_;rintro _ _ ⟨rfl,rfl⟩;refine xo rfl (aF rfl (pE (fun b=>O b\/b=h.size) op _)) ?_;rintro _ h3 ⟨v3,rfl,hv3,e3⟩;obtain⟨nk,nt,ka,n,c,ea,en,ec,rfl,hb,hR,he⟩:=cQ.get hv3;refine af ?_;refine aN rfl (aV rfl rfl ((k1.ah e3)) fT) ?_;rintro _ h4 ⟨rfl,k4,x4,z4⟩;refine af ?_;refine cn (cg rfl k4.row (eD cm)) ?_;have hn:cT op a b=gZ op (if a<b then -1 else if a=b then 0 else 1):=by unfold cT;rw[if_neg c1,if_neg c2,if_neg c3,if_neg (fun q=>q.elim c4 c5)]
           rw[hn];exact⟨_,rfl,_,rfl,cQ.of (eV.mv hR (Mv.cu x4 fun b hb q=>⟨fun k=>q (.inr k),fun k=>q (.inl k)⟩)),aj.only (e1.trans e3) x4 (Nat.le_refl _)⟩
theorem wh (t:By):∀{l:List Bd},(∀(i:Nat) (y:Bd),l[i]? =some y->y.1≠t)->dF t l=(gY,4)
 | [],_=>rfl
 |b::r,h=>by
  have hr:=wh t (l:=r) fun i y hy=>h (i+1) y hy
  have hb:=h 0 b rfl;rw[dF,hr,if_neg (by decide),if_neg hb]
theorem IN (t:By):∀{l:List Bd}{i:Nat}{y:Bd},l[i]? =some y->y.1=t->(∀(k:Nat) (z:Bd),i<k->l[k]? =some z->z.1≠t)->dF t l=(y.2,0)
 | [],i,y,hi,_,_=>by cases hi
 |b::r,0,y,hi,ht,h=>by
  have hr:=wh t (l:=r) fun i z hz=>h (i+1) z (by omega) hz
  cases hi;rw[dF,hr,if_neg (by decide),if_pos ht]
 |b::r,i+1,y,hi,ht,h=>by
  have hr:=IN t (l:=r) (i:=i) hi ht fun k z hk hz=>h (k+1) z (by omega) hz
  rw[dF,hr,if_pos rfl]
abbrev Lu (y:Bd) (nk:Int) (nt:By) (a:Option Addr) (m c:Nat) (ea:Option Addr) (en ec:Nat):List Value:=.string (bs y.1)::jV y.2.kind y.2.num y.2.gr y.2.self nk nt a m c ea en ec
theorem Q7 {y:Bd}{nk:Int}{nt:By}{a:Option Addr}{m:Nat}{ea:Option Addr}{en ec:Nat}:∀v∈Lu y nk nt a m c ea en ec,v.oneCell'=true:=fun v hv=>by
 rcases List.mem_cons.1 hv with rfl|hv
 · rfl
 · exact fT v hv
theorem Lt {oa:Option Addr}{l:List Bd}(hws:Sl eB h O oa n c l) (hi:i<n) :
 ∃b o y nk nt a m c' ea en ec,oa=some ⟨b,o,none⟩/\l[i]? =some y/\Lw.rowAt h b (o+i*9) (Lu y nk nt a m c' ea en ec)/\eV.R h O (jV y.2.kind y.2.num y.2.gr y.2.self nk nt a m c' ea en ec) y.2:=by
 have hn:=hws.len;obtain⟨y,hy⟩:∃y,l[i]? =some y:=⟨_,List.getElem?_eq_getElem (by omega)⟩
 obtain⟨b,o,cs,ha,hob,hrow,cs',rfl,hR⟩:=hws.get i y hy;obtain⟨nk,nt,a,m,c',ea,en,ec,hv,_,hR',_⟩:=cQ.get (cQ.of hR)
 have hcs:cs'=jV y.2.kind y.2.num y.2.gr y.2.self nk nt a m c' ea en ec:=by
  have:=congrArg (fun v=>match v with|Value.agg c=>c.toList|_=>[]) hv;simpa using this
 rw[hcs] at hrow;exact⟨b,o,y,nk,nt,a,m,c',ea,en,ec,ha,hy,hrow,hR'⟩
theorem Jg {b:Nat}{t:TypeId}{c:Value}{cs:List Value}(k:aD h b t (c::cs)):Lw.rowAt h b 1 cs:=fun j v hv=>k.cell (i:=1+j) (by rw[Nat.add_comm];exact hv)
theorem sE {l cap:Nat}{oa:Option Addr}{J:Nat->ai->Prop}{S:ai->Prop}(hn:n<=1000000)
 (hread:∀j h,J j h->cellAt h ⟨cap,0,none⟩=some (.slice oa n c)) (hy:∀j h,J (j+1) h->j<n->∃(b o:Nat) (y:Bd) (nk:Int) (nt:By) (a:Option Addr) (m c':Nat) (ea:Option Addr) (en ec:Nat),oa=some ⟨b,o,none⟩/\Lw.rowAt h b (o+j*9) (Lu y nk nt a m c' ea en ec) /\
  gV Tryz.prog l #[.int .i64 (j:Nat),.agg (Lu y nk nt a m c' ea en ec).toArray] h (bL fun r h'=>∃go,r= .bool go/\(go=true->J j h')/\(go=false->S h'))) (h0:J n h) :
 au Tryz.prog 131 #[.func (.yield l) #[] #[],.pointer (some ⟨cap,0,none⟩)] h (bL fun _ h'=>J 0 h'\/S h'):=by
 refine b9 ?_;refine af ?_;refine xp rfl (aA rfl (hread _ _ h0)) ?_;refine af ?_;refine jd (σ:=Nat) (fun j=>[(3,.int .i64 ((j:Int)-1))]) (fun j h'=>J j h'/\j<=n) (fun j=>j) (n) ⟨h0,Nat.le_refl _⟩ rfl ?_;rintro j h1 ⟨hJ,hj⟩ ih;refine af ?_;refine aX (fun hge=>?_) (fun hge=>?_)
 · obtain⟨i,rfl⟩:∃i,j=i+1:=⟨j-1,by omega⟩
   obtain⟨b,o,y,nk,nt,a,m,c',ea,en,ec,ha,hrow,hyy⟩:=hy i h1 hJ (by omega);have hji:((i+1:Nat):Int)-1=((i:Nat):Int):=by omega
   rw[hji];refine xL rfl ?_;refine n7 rfl ?_;refine G.block rfl rfl ?_;refine n7 rfl ?_;refine G.L0 func131 rfl ?_;refine ey.bp rfl rfl rfl rfl rfl (dz rfl) ?_;refine ey.bp rfl rfl rfl rfl rfl (dz rfl) ?_;refine ey.bp rfl rfl rfl rfl rfl (ew H.Oe rfl (hread _ _ hJ)) ?_;refine ey.bp rfl rfl rfl rfl rfl (dz rfl) ?_;refine ey.bp rfl rfl rfl rfl rfl (az.mh underlying28 H.JP rfl rfl i rfl ha (by omega)) ?_;refine ey.bp rfl rfl rfl rfl rfl (az.jH H.PZ H.JP rfl hrow (by first|rfl|(simp;done)|(simp;omega))) ?_;refine sM (vs:=[_,_]) rfl rfl rfl rfl rfl rfl rfl (hyy) ?_;rintro _ h2 ⟨go,rfl,hJ2,hS2⟩;refine ey.bp rfl rfl rfl rfl rfl (az.JX rfl) ?_;refine fX rfl ?_;refine jo (fun hgo=>?_) (fun hgo=>?_)
   · have hgo:go=false:=by simpa using hgo
     refine bw ?_;exact⟨_,rfl,.inr (hS2 hgo)⟩
   · have hgo:go=true:=by simpa using hgo
     refine af ?_;exact ih i ⟨hJ2 hgo,by omega⟩
 · obtain rfl:j=0:=by omega
   refine af ?_;refine GU ?_;exact⟨_,rfl,.inl hJ⟩
theorem uf (v:Value) (hv:v.oneCell'=true):au Tryz.prog 84 #[v] h (bL fun r h'=>r= .func (.func 131) #[] #[.pointer (some ⟨h.size,0,none⟩)]/\h'=h.push (.cells #[v] 28)):=by
 have hcells:v.cells= #[v]:=by cases v<;>simp[Value.oneCell'] at hv<;>rfl
 refine b9 ?_;refine af ?_;refine xo rfl (aQ.box rfl) ?_;rintro _ _ ⟨rfl,rfl⟩;refine af ?_;refine xp rfl (az.makeFunc (vs:=[_]) rfl) ?_;refine af ?_;refine bw ?_;exact⟨_,rfl,rfl,by rw[hcells]⟩
def Fm (b3 b4 b5 cap L:Nat) (r0:Loop) (h:ai) (v:Value) (t:By) (xs:List Bd) (j:Nat) (g:ai):Prop :=
 cj g (L+1) r0/\g[L]? =some (.deferred (some []))/\aD g cap 28 [v]/\aD g b3 9 [.string (bs t)]/\aD g b4 30 (jV 0 0 [] [] 0 [] none 0 0 none 0 0)/\aD g b5 33 [.int .i64 0]/\aj h g/\∀(i:Nat) (y:Bd),j<=i->xs[i]? =some y->y.1≠t
def Jz (b4 b5 L:Nat) (r0:Loop) (h:ai) (t:By) (xs:List Bd) (O:Nat->Prop) (g:ai):Prop :=
 cj g (L+1) { r0 with state:=.done,pending:=some .ret }/\g[L]? =some (.deferred (some []))/\aj h g/\aD g b5 33 [.int .i64 0] /\
 ∃(y:Bd) (nk:Int) (nt:By) (a:Option Addr) (m c:Nat) (ea:Option Addr) (en ec:Nat),aD g b4 30 (jV y.2.kind y.2.num y.2.gr y.2.self nk nt a m c ea en ec)/\dF t xs=(y.2,0)/\eV.R h O (jV y.2.kind y.2.num y.2.gr y.2.self nk nt a m c ea en ec) y.2
theorem Gp {xs:List Bd}(hv:aZ eB h O v xs) (hx:xs.length<=1000000) (t:By) :
 au Tryz.prog 40 #[v,.string (bs t)] h (bL fun r h'=>∃w,r=packed [w,.int .i64 (dF t xs).2]/\cQ h' O w (dF t xs).1/\aj h h'):=by
 obtain⟨oa,n,c,rfl,hsl⟩:=hv.open;have hn:=hsl.len;subst hn;refine b9 ?_;refine af ?_;refine xo rfl (kH) ?_;rintro _ h1 ⟨rfl,k3,e1,z1⟩;refine xo rfl (cH) ?_;rintro _ h2 ⟨rfl,k4,e2,z2⟩;refine xo rfl (cH) ?_;rintro _ h3 ⟨rfl,k5,e3,z3⟩;refine af ?_;refine xo rfl (aF rfl (uf (.slice oa xs.length c) rfl)) ?_;rintro _ h4 ⟨rfl,hh4⟩;have e4:aj h3 h4:=by rw[hh4];exact Ext.push _ _ _
 have q6:aD h4 h3.size 28 [.slice oa xs.length c]:=by rw[hh4];exact Bb _ _ _
 have z4:h4.size=h3.size+1:=by rw[hh4];simp
 clear hh4;have k3:aD h4 h.size 9 [.string (bs t)]:=((k3.ah e2).ah e3).ah e4;have k4:aD h4 h1.size 30 (jV 0 0 [] [] 0 [] none 0 0 none 0 0):=(k4.ah e3).ah e4;have k5:aD h4 h2.size 33 [.int .i64 0]:=k5.ah e4;have e04:aj h h4:=((e1.trans e2).trans e3).trans e4;refine af ?_;refine G.FP func40 rfl rfl func131 rfl (by decide +kernel) ?_;intro fid tmps hfits;obtain⟨r0,hr0⟩:∃r0,r0=fI fid tmps #[10,11] (Pv (Lw.sub (ax f40) [0,1,0,1])) (Pu (Lw.sub (ax f40) [0,1,0,1])) h4.size:=⟨_,rfl⟩
 obtain⟨hL,hhL⟩:∃hL,hL=(h4.push (.deferred (some []))).push (.loop r0):=⟨_,rfl⟩
 suffices hmain:au Tryz.prog 131 #[.func (.yield (h4.size+1)) #[] #[],.pointer (some ⟨h3.size,0,none⟩)] hL _ by rw[hhL,hr0] at hmain;exact hmain
 have hst:r0.state= .ready:=by rw[hr0];rfl
 have hpn:r0.pending=none:=by rw[hr0];rfl
 have hps:r0.params= #[10,11]:=by rw[hr0];rfl
 have htm:r0.tmps=tmps:=by rw[hr0];rfl
 have eL:aj h4 hL:=by rw[hhL];exact(Ext.push _ _ _).trans (Ext.push _ _ _)
 have hLz:hL.size=h4.size+2:=by rw[hhL];simp
 have hloop0:cj hL (h4.size+1) r0:=by
  have hz:h4.size+1=(h4.push (.deferred (some []))).size:=by simp
  rw[cj,hhL,hz];exact Array.getElem?_push_size
 have hdef0:hL[h4.size]? =some (.deferred (some [])):=by
  rw[hhL,(Ext.push (fun _=>False) (h4.push (.deferred (some []))) _).block h4.size (by simp) (fun k=>k)];exact Array.getElem?_push_size
 clear hhL;have hJ0:Fm h.size h1.size h2.size h3.size h4.size r0 h (.slice oa xs.length c) t xs xs.length hL:=⟨hloop0,hdef0,q6.ah eL,k3.ah eL,k4.ah eL,k5.ah eL,e04.trans eL,fun i y hi hy=>by rw[List.getElem?_eq_none hi] at hy;cases hy⟩
 refine suff (p:=∀j g,Fm h.size h1.size h2.size h3.size h4.size r0 h (.slice oa xs.length c) t xs (j+1) g->j<xs.length->∃(b o:Nat) (y:Bd) (nk:Int) (nt:By) (a:Option Addr) (m c':Nat) (ea:Option Addr) (en ec:Nat),oa=some ⟨b,o,none⟩/\Lw.rowAt g b (o+j*9) (Lu y nk nt a m c' ea en ec)/\gV Tryz.prog (h4.size+1) #[.int .i64 (j:Nat),.agg (Lu y nk nt a m c' ea en ec).toArray] g (bL fun r h'=>∃go,r= .bool go/\(go=true->Fm h.size h1.size h2.size h3.size h4.size r0 h (.slice oa xs.length c) t xs j h')/\(go=false->Jz h1.size h2.size h4.size r0 h t xs O h'))) ?_ ?_
 · intro j g ⟨hlp,hdf,hcap,k3g,k4g,k5g,eg,hno⟩ hj;obtain⟨b,o,y,nk,nt,a,m,c',ea,en,ec,ha,hy,hrow,hR⟩:=Lt hsl hj;refine⟨b,o,y,nk,nt,a,m,c',ea,en,ec,ha,eg.rowAt (fun k=>k) hrow,?_⟩;have hfit:=wj (p1:=10) (p2:=11) (v1:=.int .i64 (j:Nat)) (v2:=.agg (Lu y nk nt a m c' ea en ec).toArray) hfits rfl rfl;rw[<-hps,<-htm] at hfit;refine gV.NG hlp hst (by rw[hps];rfl) hfit ((congrArg Loop.assign hr0).trans rfl) ((congrArg Loop.body hr0).trans rfl) ?_;refine ey.FU rfl rfl rfl rfl rfl (aQ.A3 H.OZ) ?_;rintro _ g1 ⟨rfl,k8,e1',zz1⟩;refine ey.Bh rfl rfl rfl rfl (aQ.gP H.JP rfl rfl k8 (by first|rfl|(simp;done)|(simp;omega)) (by first|decide|exact of_decide_eq_true rfl|(simp;done)|(simp;omega)) (Q7)) ?_;rintro _ g2 ⟨rfl,k8',e2',zz2⟩;refine fX rfl ?_;have e12:aj g g2:=e1'.only e2' (Nat.le_refl _);have k8':aD g2 g.size 32 (Lu y nk nt a m c' ea en ec):=k8';refine⟨(e12.block _ hlp.lt (fun k=>k)).trans hlp,?_⟩;obtain⟨g3,hg3⟩:∃g3,g3=Lw.bN g2 (h4.size+1) (.loop { r0 with state:=.busy }):=⟨_,rfl⟩
   rw[<-hg3];have hlz:=hlp.lt;have hz2:=e12.size;have e23:Ext (fun b=>b=h4.size+1) g2 g3:=by rw[hg3];exact Ext.bN _ _ _ rfl
   have hlp3:cj g3 (h4.size+1) { r0 with state:=.busy }:=by rw[cj,hg3];exact iy (by omega)
   have hz3:=e23.size;have e13:Ext (fun b=>b=h4.size+1) g g3:=(e12.mono fun _ _ k=>k.elim).trans e23;have hs0:=And.intro e1.size (And.intro e2.size (And.intro e3.size e4.size));have l3:¬h.size=h4.size+1:=by omega
   have l4:¬h1.size=h4.size+1:=by omega
   have l5:¬h2.size=h4.size+1:=by omega
   have l6:¬h3.size=h4.size+1:=by omega
   have l8:¬g.size=h4.size+1:=by omega
   have k83:=k8'.ext e23 l8;have k33:=k3g.ext e13 l3;have k43:=k4g.ext e13 l4;have k53:=k5g.ext e13 l5;have cap3:=hcap.ext e13 l6;have hdf3:=(e13.block h4.size (by omega) (by omega)).trans hdf;have eg3:aj h g3:=⟨by have:=eg.size;omega,fun b hb _=>(e13.block b (by have:=eg.size;omega) (by omega)).trans (eg.block b hb (fun k=>k))⟩
   refine ey.bp rfl rfl rfl rfl rfl (fY (off:=0) underlying32 rfl rfl H.Ew rfl) ?_;refine ey.bp rfl rfl rfl rfl rfl (ew H.MM rfl (k83.cell (i:=0) rfl)) ?_;refine ey.bp rfl rfl rfl rfl rfl (ew H.MM rfl (k33.cell (i:=0) rfl)) ?_;refine ey.bp rfl rfl rfl rfl rfl (az.IZ rfl rfl) ?_;refine fX rfl ?_;refine⟨_,rfl,fun q=>?_,fun q=>?_⟩
   · have hyt:y.1=t:=bu (of_decide_eq_true q);refine ey.bp rfl rfl rfl rfl rfl (fY (off:=1) underlying32 rfl rfl H.Fw rfl) ?_;refine ey.bp rfl rfl rfl rfl rfl (az.jH H.Od H.Fw rfl (Jg k83) (by first|rfl|(simp;done)|(simp;omega))) ?_;refine ey.Bh rfl rfl rfl rfl (aQ.gP H.Fw rfl rfl k43 (by first|rfl|(simp;done)|(simp;omega)) (by first|decide|exact of_decide_eq_true rfl|(simp;done)|(simp;omega)) (fT)) ?_;rintro _ g5 ⟨rfl,k45,e5',zz5⟩;refine ey.Bh rfl rfl rfl rfl (aQ.jv H.Hq rfl rfl (k53.ext e5' (by omega)) (by first|decide|exact of_decide_eq_true rfl|(simp;done)|(simp;omega)) rfl) ?_;rintro _ g6 ⟨rfl,k56,e6',zz6⟩;refine fX rfl ?_;have k45:aD g5 h1.size 30 (jV y.2.kind y.2.num y.2.gr y.2.self nk nt a m c' ea en ec):=k45;have k56:aD g6 h2.size 33 [.int .i64 0]:=k56;have hlp6:cj g6 (h4.size+1) { r0 with state:=.busy }:=(hlp3.ext e5' (by omega)).ext e6' (by omega);have z36:=e5'.size;have z56:=e6'.size;refine⟨_,hlp6,false,rfl,(fun q=>by cases q),fun _=>?_⟩;obtain⟨g7,hg7⟩:∃g7,g7=Lw.bN g6 (h4.size+1) (.loop { r0 with state:=.done,pending:=some .ret }):=⟨_,rfl⟩
     have e67:Ext (fun b=>b=h4.size+1) g6 g7:=by rw[hg7];exact Ext.bN _ _ _ rfl
     show Jz h1.size h2.size h4.size r0 h t xs O (Lw.bN g6 (h4.size+1) (.loop { r0 with state:=.done,pending:=some .ret }))
     rw[<-hg7];have zeg:=eg.size;refine⟨by rw[cj,hg7];exact iy (by omega),?_,⟨by have:=e67.size;omega,fun b hb _=>?_⟩,k56.ext e67 (by omega),y,nk,nt,a,m,c',ea,en,ec,(k45.ext e6' (by omega)).ext e67 (by omega),IN t hy hyt (fun k z hk hz=>hno k z (by omega) hz),hR⟩
     · rw[e67.block h4.size (by omega) (by omega),e6'.block h4.size (by omega) (by omega),e5'.block h4.size (by omega) (by omega)];exact hdf3
     · rw[e67.block b (by omega) (by omega),e6'.block b (by omega) (by omega),e5'.block b (by omega) (by omega)];exact eg3.block b hb (fun k=>k)
   · have hyt:y.1≠t:=fun e=>of_decide_eq_false q (by rw[e])
     have hr2:({ ({ r0 with state:=.busy }:Loop) with state:=.ready,pending:=none }:Loop)=r0:=by cases r0;simp at hst hpn;simp[hst,hpn]
     refine⟨_,hlp3,true,rfl,fun _=>?_,fun q=>by cases q⟩;rw[hr2];have e34:Ext (fun b=>b=h4.size+1) g3 (Lw.bN g3 (h4.size+1) (.loop r0)):=Ext.bN _ _ _ rfl;have zeg:=eg.size;refine⟨iy (by omega),(e34.block h4.size (by omega) (by omega)).trans hdf3,cap3.ext e34 l6,k33.ext e34 l3,k43.ext e34 l4,k53.ext e34 l5,⟨by have:=e34.size;omega,fun b hb _=>(e34.block b (by omega) (by omega)).trans (eg3.block b hb (fun k=>k))⟩,fun i z hi hz=>?_⟩
     rcases Nat.lt_or_ge j i with q|q
     · exact hno i z q hz
     · obtain rfl:i=j:=by omega
       rw[hy] at hz;cases hz;exact hyt
 · intro hy;refine(sE (l:=h4.size+1) (cap:=h3.size) (n:=xs.length) (c:=c) (J:=Fm h.size h1.size h2.size h3.size h4.size r0 h (.slice oa xs.length c) t xs) (S:=Jz h1.size h2.size h4.size r0 h t xs O) hx (fun j g hJ=>hJ.2.2.1.cell (i:=0) rfl) hy hJ0).mono fun e g hJ=>?_
   obtain⟨u,rfl,hJ⟩:=hJ;have hs0:=And.intro e1.size (And.intro e2.size (And.intro e3.size e4.size))
   rcases hJ with hJ|hS
   · obtain⟨hlp,hdf,hcap,k3g,k4g,k5g,eg,hno⟩:=hJ;refine⟨_,rfl,r0,hlp,by rw[hst];decide,.inl ⟨hpn,?_⟩⟩;have hlz:=hlp.lt;have zeg:=eg.size;obtain⟨g1,hg1⟩:∃g1,g1=Lw.bN g (h4.size+1) (.loop { r0 with state:=.exhausted }):=⟨_,rfl⟩
     have x1:Ext (fun b=>b=h4.size+1) g g1:=by rw[hg1];exact Ext.bN _ _ _ rfl
     rw[<-hg1];have k4e:=k4g.ext x1 (by omega);have k5e:=k5g.ext x1 (by omega);refine GD.sy ?_;refine nZ rfl ?_;refine GD.mQ func40 rfl ?_;refine iZ.bp rfl rfl rfl rfl (aq (H.dU ) rfl) ?_;refine iZ.Bh rfl rfl rfl (aQ.gP H.Fw rfl rfl k4e (by first|rfl|(simp;done)|(simp;omega)) (by first|decide|exact of_decide_eq_true rfl|(simp;done)|(simp;omega)) (by first|decide|simp[Value.oneCell'])) ?_;rintro _ g2 ⟨rfl,k42,x2,zz2⟩;refine iZ.Bh rfl rfl rfl (aQ.jv H.Hq rfl rfl (k5e.ext x2 (by omega)) (by first|decide|exact of_decide_eq_true rfl|(simp;done)|(simp;omega)) rfl) ?_;rintro _ g3 ⟨rfl,k53,x3,zz3⟩;refine jQ rfl ?_;refine GD.sub (ρ':=[(0,_),(1,_),(3,_),(4,_),(5,_),(9,_)]) ⟨rfl,rfl,rfl,rfl,rfl,rfl,trivial⟩ ?_;have k53:aD g3 h2.size 33 [.int .i64 4]:=k53;have zx1:=x1.size;have zx2:=x2.size;have zx3:=x3.size
     have hdf3:g3[h4.size]? =some (.deferred (some [])):=by
      rw[x3.block h4.size (by omega) (by omega),x2.block h4.size (by omega) (by omega),x1.block h4.size (by omega) (by omega)];exact hdf
     have x4:Ext (fun b=>b=h4.size) g3 (Lw.bN g3 h4.size (.deferred none)):=Ext.bN _ _ _ rfl;have k44:=(k42.ext x3 (by omega)).ext x4 (by omega);have k54:=k53.ext x4 (by omega);have zx4:=x4.size;refine GD.HL func40 rfl hdf3 (.cons (fW.row (t:=30) (by kernel_rfl) (by kernel_rfl) rfl k44.row) (.cons (fW.cell (t:=33) (by kernel_rfl) rfl (k54.cell (i:=0) rfl)) .nil)) ?_;have hf:dF t xs=(gY,4):=wh t fun i y hy=>hno i y (Nat.zero_le _) hy
     rw[hf];exact⟨_,rfl,_,rfl,gX _ _,⟨by omega,fun b hb _=>by rw[x4.block b (by omega) (by omega),x3.block b (by omega) (by omega),x2.block b (by omega) (by omega),x1.block b (by omega) (by omega)];exact eg.block b hb (fun k=>k)⟩⟩
   · obtain⟨hlp,hdf,eg,k5g,y,nk,nt,a,m,c',ea,en,ec,k4g,hf,hR⟩:=hS;have hlz:=hlp.lt;have zeg:=eg.size;refine⟨_,rfl,_,hlp,(by simp),.inr ⟨rfl,hdf,?_⟩⟩;obtain⟨g1,hg1⟩:∃g1,g1=Lw.bN g (h4.size+1) (.loop { ({ r0 with state:=.done,pending:=some .ret }:Loop) with state:=.exhausted }):=⟨_,rfl⟩
     have x1:Ext (fun b=>b=h4.size+1) g g1:=by rw[hg1];exact Ext.bN _ _ _ rfl
     rw[<-hg1];have x2:Ext (fun b=>b=h4.size) g1 (Lw.bN g1 h4.size (.deferred none)):=Ext.bN _ _ _ rfl;have zx1:=x1.size;have zx2:=x2.size;have k4e:=(k4g.ext x1 (by omega)).ext x2 (by omega);have k5e:=(k5g.ext x1 (by omega)).ext x2 (by omega);have e0:aj h (Lw.bN g1 h4.size (.deferred none)):=⟨by omega,fun b hb _=>by rw[x2.block b (by omega) (by omega),x1.block b (by omega) (by omega)];exact eg.block b hb (fun k=>k)⟩
     refine⟨_,.cons (fW.row (t:=30) (by kernel_rfl) (by kernel_rfl) rfl k4e.row) (.cons (fW.cell (t:=33) (by kernel_rfl) rfl (k5e.cell (i:=0) rfl)) .nil),?_⟩;rw[hf];exact⟨_,rfl,_,rfl,cQ.of (Cz hR e0 fun _ _ q=>q),e0⟩
end
end Go.Proofs.YtdgckfkoihcmjaaGreatDoor
namespace Go.Proofs.YtdgckfkoihcmjaaGreatDoor
open Go Go.Lw
section
variable {B m:Nat}
theorem cX (b:Nat):okV b gY:=jF b 0 0 [] (by decide)
theorem um (b:Nat) (x:Bool):okV b (iP x):=jF b _ _ [] (by decide)
theorem qI (b:Nat) (n:Int):okV b (fR n):=jF b _ _ [] (by decide)
theorem Cv {b:Nat}(t:By):∀{l:List Bd},(∀p∈l,okV b p.2)->okV b (dF t l).1
  | [],_=>cX b
  |p::r,h=>by
    have ih:=Cv t (l:=r) (fun q hq=>h q (by simp[hq]));rw[dF];split
    · exact ih
    · split
      · exact h p (by simp)
      · exact cX b
theorem E8 (b:Nat) (op:By) (w:Int):okV b (gZ op w).1:=by
  unfold gZ;repeat' split
  all_goals first|exact um _ _|exact cX _
theorem HZ (b:Nat) (op:By) (x y:Int):okV b (cT op x y).1:=by
  unfold cT;simp only;repeat' split
  all_goals first|exact qI _ _|exact cX _|exact E8 _ _ _
theorem LJ (b:Nat) (op:By) (v:Vl):okV b (zO op v).1:=by
  unfold zO;repeat' split
  all_goals first|exact um _ _|exact qI _ _|exact cX _
theorem KC (b:Nat) (op:By) (x y:Vl):okV b (qd op x y).1:=by
  unfold qd;repeat' split
  all_goals first|exact um _ _|exact cX _|exact E8 _ _ _|exact HZ _ _ _ _|(rename_i h;exact jF _ _ _ _ (by rw[List.length_append];omega))
def OB (B m:Nat) (r:Out):Prop:=r.2.2<=m/\okV (B-2*r.2.2) r.1/\(r.2.1=0->r.2.2<m)
def Jv (B m:Nat) (r:Out):Prop:=r.2.2<=m/\okV (B-2*r.2.2) r.1
def MF (B:Nat) (ev:Ev):Prop:=∀m env n,2*m<=B->vf (B-2*m) env->n.wt<=1000000->OB B m (ev m env n)
theorem cR {k:Int}{t:By}{l:List Tr}(h:(Tr.mk k t l).wt<=1000000) (i:Nat):(l.getD i bG).wt<=1000000:=by
  rw[List.getD_eq_getElem?_getD];cases hi:l[i]? with
  |none=>decide
  |some x =>
    have:=oe (List.mem_of_getElem? hi);rw[Tr.wt] at h
    show x.wt<=_
    omega
theorem iJ {m':Nat}{l:List Bd}(h:vf (B-2*m) l) (hm:m'<=m):vf (B-2*m') l:=h.le (by omega)
theorem lq {m':Nat}{l:List Bd}(h:vf (B-2*m) l) (hm:m'<m) (hB:2*m<=B){v:Vl}(hv:okV (B-2*m') v) (t:By):vf (B-2*m') (l++[(t,v)]):=by
  refine⟨?_,fun p hp=>?_⟩
  · rw[List.length_append];have:=h.1;simp;omega
  · rcases List.mem_append.1 hp with hp|hp
    · exact(h.2 p hp).le (by omega)
    · simp at hp;subst hp;exact hv
theorem wO {B:Nat}{ev:Ev}(hev:MF B ev):∀(l:List Tr) (m:Nat) (env:List Bd) (v:Vl),2*m<=B->vf (B-2*m) env->(∀x∈l,x.wt<=1000000)->okV (B-2*m) v->Jv B m (eY ev m env l v)
  | [],m,env,v,_,_,_,hv=>⟨Nat.le_refl _,hv⟩
  |n::r,m,env,v,hB,he,hl,hv=>by
    have h1:=hev m env n hB he (hl n (by simp));rw[eY];generalize ev m env n=o at h1;obtain⟨w,e,m'⟩:=o;obtain⟨a1,a2,a3⟩:=h1;dsimp only at a1 a2 a3 ⊢;have hr:∀x∈r,x.wt<=1000000:=fun x hx=>hl x (by simp[hx])
    split
    · exact⟨a1,cX _⟩
    · rename_i h0;have h0:e=0:=Classical.not_not.1 h0;have hlt:=a3 h0;split
      · have:=wO hev r m' _ (jg w n.text) (by omega) (lq he hlt hB (om a2 n.text) n.text) hr (om a2 _);exact⟨Nat.le_trans this.1 a1,this.2⟩
      · have:=wO hev r m' env w (by omega) (iJ he a1) hr a2;exact⟨Nat.le_trans this.1 a1,this.2⟩
theorem Cy {d:Nat}(hev:MF B (aI d)){env:List Bd}{n:Tr}(hB:2*(m+1)<=B) (he:vf (B-2*(m+1)) env) (hn:n.wt<=1000000):Jv B m (aI (d+1) (m+1) env n):=by
  obtain⟨k,t,l⟩:=n;have hB':2*m<=B:=by omega
  have he':=iJ he (Nat.le_succ m);have jW:=cR hn;have tt:t.length<=1000000:=by rw[Tr.wt] at hn;omega
  have k0:=hev m env (l.getD 0 bG) hB' he' (jW 0);rw[aI];split
  · split
    · exact⟨Nat.le_refl _,qI _ _⟩
    · exact⟨Nat.le_refl _,cX _⟩
  · split
    · split
      · exact⟨Nat.le_refl _,cX _⟩
      · exact⟨Nat.le_refl _,jF _ _ _ _ tt⟩
    · split
      · exact⟨Nat.le_refl _,um _ _⟩
      · split
        · exact⟨Nat.le_refl _,Cv t he'.2⟩
        · split
          · exact⟨Nat.le_refl _,Ap tt (jW 0) he'⟩
          · split
            · exact wO hev l m env gY hB' he' (fun x hx=>by have:=oe hx;rw[Tr.wt] at hn;omega) (cX _)
            · split
              · unfold DH;generalize aI d m env (l.getD 0 bG)=o at k0;obtain⟨w,e,m'⟩:=o;obtain⟨a1,a2,a3⟩:=k0;dsimp only at a1 a2 a3 ⊢;split
                · exact⟨a1,a2⟩
                · rename_i h0;have hlt:=a3 (Classical.not_not.1 (fun q=>h0 (.inl q)));have:=hev m' _ (l.getD 1 bG) (by omega) (lq he' hlt hB' (om a2 t) t) (jW 1);exact⟨Nat.le_trans this.1 a1,this.2.1⟩
              · split
                · unfold Mf;generalize aI d m env (l.getD 0 bG)=o at k0;obtain⟨w,e,m'⟩:=o;obtain⟨a1,a2,a3⟩:=k0;dsimp only at a1 a2 a3 ⊢;split
                  · exact⟨a1,cX _⟩
                  · split
                    · exact⟨a1,cX _⟩
                    · split
                      · have:=hev m' env (l.getD 1 bG) (by omega) (iJ he' a1) (jW 1);exact⟨Nat.le_trans this.1 a1,this.2.1⟩
                      · have:=hev m' env (l.getD 2 bG) (by omega) (iJ he' a1) (jW 2);exact⟨Nat.le_trans this.1 a1,this.2.1⟩
                · split
                  · unfold wM;generalize aI d m env (l.getD 0 bG)=o at k0;obtain⟨f,e,m1⟩:=o;obtain⟨a1,a2,a3⟩:=k0;dsimp only at a1 a2 a3 ⊢;split
                    · exact⟨a1,cX _⟩
                    · rename_i h0;have hlt:=a3 (Classical.not_not.1 h0);have k1:=hev m1 env (l.getD 1 bG) (by omega) (iJ he' a1) (jW 1);generalize aI d m1 env (l.getD 1 bG)=o at k1;obtain⟨x,e,m2⟩:=o;obtain⟨b1,b2,b3⟩:=k1;dsimp only at b1 b2 b3 ⊢;split
                      · exact⟨by dsimp only;omega,cX _⟩
                      · rename_i h1;have hlt2:=b3 (Classical.not_not.1 h1);split
                        · exact⟨by dsimp only;omega,cX _⟩
                        · split
                          · exact⟨by dsimp only;omega,cX _⟩
                          · obtain⟨_,f2,f3⟩:=a2.get
                            have hin:vf (B-2*m2) ((if f.self≠[] then f.env++[(f.self,f)] else f.env)++[(f.gr,x)]):=by
                              split
                              · refine⟨?_,fun p hp=>?_⟩
                                · rw[List.length_append,List.length_append];have:=f3.1;simp;omega
                                · rcases List.mem_append.1 hp with hp|hp
                                  · rcases List.mem_append.1 hp with hp|hp
                                    · exact(f3.2 p hp).le (by omega)
                                    · simp at hp;subst hp;exact a2.le (by omega)
                                  · simp at hp;subst hp;exact b2
                              · exact lq f3 hlt2 (by omega) b2 f.gr
                            have:=hev m2 _ f.body (by omega) hin f2;exact⟨Nat.le_trans this.1 (by omega),this.2.1⟩
                  · split
                    · unfold Fu;generalize aI d m env (l.getD 0 bG)=o at k0;obtain⟨w,e,m'⟩:=o;obtain⟨a1,a2,a3⟩:=k0;dsimp only at a1 a2 a3 ⊢;split
                      · exact⟨a1,cX _⟩
                      · exact⟨a1,LJ _ _ _⟩
                    · unfold Dd;generalize aI d m env (l.getD 0 bG)=o at k0;obtain⟨a,e,m1⟩:=o;obtain⟨a1,a2,a3⟩:=k0;dsimp only at a1 a2 a3 ⊢;split
                      · exact⟨a1,cX _⟩
                      · have k1:=hev m1 env (l.getD 1 bG) (by omega) (iJ he' a1) (jW 1);generalize aI d m1 env (l.getD 1 bG)=o at k1;obtain⟨x,e,m2⟩:=o;obtain⟨b1,b2,b3⟩:=k1;dsimp only at b1 b2 b3 ⊢;split
                        · split
                          · exact⟨a1,cX _⟩
                          · split
                            · exact⟨a1,a2⟩
                            · split
                              · exact⟨by dsimp only;omega,cX _⟩
                              · exact⟨by dsimp only;omega,b2⟩
                        · split
                          · exact⟨by dsimp only;omega,cX _⟩
                          · exact⟨by dsimp only;omega,KC _ _ _ _⟩
theorem iH (B:Nat):∀d,MF B (aI d)
  | 0=>fun m env n hB he hn=>⟨Nat.le_refl _,cX _,fun k=>by cases k⟩
  |d+1=>fun m env n hB he hn=>by
    cases m with
    |zero=>obtain⟨k,t,l⟩:=n;rw[aI];exact⟨Nat.le_refl _,cX _,fun k=>by cases k⟩
    |succ m =>
      have h:=Cy (iH B d) hB he hn;exact⟨Nat.le_succ_of_le h.1,h.2,fun _=>Nat.lt_succ_of_le h.1⟩
theorem Ko (B:Nat){d:Nat}{e:List Bd}{n:Tr}(hm:2*(m+1)<=B) (he:vf (B-2*(m+1)) e) (hn:n.wt<=1000000):(aI (d+1) (m+1) e n).2.2<=m:=(Cy (iH B d) hm he hn).1
end
end Go.Proofs.YtdgckfkoihcmjaaGreatDoor
namespace Go.Proofs.YtdgckfkoihcmjaaGreatDoor
open Go
section
variable {k e:Int}{s s':PS}{x t:By}{a:Tr}{W:By->Bool}
def uh:List Un->Nat
  | []=>0
  |u::l=>2*u.2.1.length+40+uh l
def wS:PS->Nat|.ok r=>uh r|.bad _=>0
theorem JJ (l m:List Un):uh (l++m)=uh l+uh m:=by
  induction l with
  |nil=>simp[uh]
  |cons u l ih=>simp only[List.cons_append,uh,ih];omega
theorem zJ (l m:List Tr):mO (l++m)=mO l+mO m:=by
  induction l with
  |nil=>simp[mO]
  |cons u l ih=>simp only[List.cons_append,mO,ih];omega
theorem yZ {ts:List By}(h:bE k ts s=(some x,s')):wS s=wS s'+(2*x.length+40):=by
  obtain⟨u,r,rfl,rfl,_,h2,_⟩:=lF h;simp only[wS,uh,<-h2];omega
theorem ot (h:(ck e k t s).bI=false):wS (ck e k t s)+40<=wS s:=by
  unfold ck at h ⊢
  rcases hq:bE k [t] s with ⟨o,s1⟩
  rw[hq] at h;cases o with
  |none=>rw[cV] at h;cases h
  |some x=>have:=yZ hq;show wS s1+40<=wS s;omega
theorem Au (h:(bZ e s).2.bI=false):wS (bZ e s).2+(2*(bZ e s).1.length+40)<=wS s:=by
  cases s with
  |bad m=>cases h
  |ok r =>
    cases r with
    |nil=>cases h
    |cons u r =>
      rw[iA] at h ⊢;split at h
      · rename_i q;rw[if_pos q];simp only[wS,uh];omega
      · cases h
theorem Nz {k:Nat}(h:xP k s=(some x,s')):wS s'+(2*x.length+20)<=wS s:=by
  have key:∀{k ts}{s s':PS}{x:By},bE k ts s=(some x,s')->wS s'+(2*x.length+20)<=wS s:=fun h=>by have:=yZ h;omega
  have two:∀{a b z:By}(_:z.length<=3),((match bE 4 [a] s with|(some _,s)=>(some z,s)|(none,s)=>match bE 6 [b] s with|(some _,s)=>(some z,s)|(none,s)=>(none,s)):Option By×PS)=(some x,s')->wS s'+(2*x.length+20)<=wS s:=fun {a b z} hz h0=>by
    rcases hq:bE 4 [a] s with ⟨o,s1⟩
    rw[hq] at h0;cases o with
    |some y=>have:=yZ hq;cases h0;omega
    |none =>
      have:=aE hq;subst this;dsimp only at h0
      rcases hq2:bE 6 [b] s1 with ⟨o,s2⟩
      rw[hq2] at h0;cases o with
      |some y=>have:=yZ hq2;cases h0;omega
      |none=>cases h0
  unfold xP at h;split at h
  · exact two (z:=rO) (by decide) h
  · split at h
    · exact two (z:=kJ) (by decide) h
    · split at h
      · exact key h
      · split at h<;>exact key h
def jw:Fl->Nat
  |.blockL l=>mO l+20
  |.opL _ t=>t.wt
  |.callL t=>t.wt
  |.argL t=>t.wt+20
  |_=>0
theorem j8 (k:Int) (t:By) (l:List Tr):(Tr.mk k t l).wt=2*t.length+20+mO l:=by rw[Tr.wt]
theorem qo (a:Tr):mO [a]=a.wt:=by simp[mO]
theorem Bo (a b:Tr):mO [a,b]=a.wt+b.wt:=by simp[mO]
theorem M1 (a b c:Tr):mO [a,b,c]=a.wt+(b.wt+c.wt):=by simp[mO]
theorem Nw (e:Int):∀(n:Nat) (j:Fl) (s:PS) (t:Tr) (s':PS),pM e n j s=some (t,s')->s'.bI=false->t.wt+wS s'<=wS s+jw j:=by
  intro n
  induction n with
  |zero=>intro j s t s' h;cases h
  |succ n ih =>
  intro j s t s' h hg;have isw:∀{k ts}{s s1:PS}{x:By},bE k ts s=(some x,s1)->wS s1+40<=wS s:=fun h=>by have:=yZ h;omega
  cases j with
  |stmt =>
    rw[pM] at h
    rcases hq:bE 4 [oH] s with ⟨o,s1⟩
    rw[hq] at h;cases o with
    |some x=>have:=isw hq;have:=ih _ _ _ _ h hg;simp only[jw] at *;omega
    |none=>have:=aE hq;subst this;simp only at h;have q:=ih _ _ _ _ h hg;exact q
  |expr =>
    rw[pM] at h
    rcases hq:bE 4 [oH] s with ⟨o,s1⟩
    rw[hq] at h;cases o with
    |some x=>have:=isw hq;have:=ih _ _ _ _ h hg;simp only[jw] at *;omega
    |none =>
      have:=aE hq;subst this;simp only at h
      rcases hq:bE 4 [Bg] s1 with ⟨o,s2⟩
      rw[hq] at h;cases o with
      |some x=>have:=isw hq;have:=ih _ _ _ _ h hg;simp only[jw] at *;omega
      |none =>
        have:=aE hq;subst this;simp only at h
        rcases hq:bE 4 [BA] s2 with ⟨o,s3⟩
        rw[hq] at h;cases o with
        |some x=>have:=isw hq;have:=ih _ _ _ _ h hg;simp only[jw] at *;omega
        |none=>have:=aE hq;subst this;simp only at h;have q:=ih _ _ _ _ h hg;exact q
  |lt al =>
    rw[pM] at h;obtain⟨v,s1,hv,h⟩:=ay h
    rcases hq:bE 4 [JO] s1 with ⟨o,s2⟩
    rw[hq] at h
    have fin:s1.bI=false->v.wt+wS s1+(2*(bZ e s).1.length+80)<=wS s:=fun g=>by
      have g1:=aS hv g;have h1:=ih _ _ _ _ hv g;have h2:=ot g1;have h3:=Au (cJ g1);simp only[jw] at h1;omega
    cases o with
    |some x =>
      obtain⟨w,s3,hw,h⟩:=ay h;cases h;have g1:=aL hq (aS hw hg);have:=fin g1;have:=isw hq;have:=ih _ _ _ _ hw hg;rw[j8,Bo];simp only[jw] at *;omega
    |none =>
      have:=aE hq;subst this;cases al with
      |true=>simp only[if_true] at h;cases h;have:=fin hg;rw[j8,qo];simp only[jw];omega
      |false=>simp only[Bool.false_eq_true,if_false] at h;cases h;rw[cV] at hg;cases hg
  |choice =>
    rw[pM] at h;obtain⟨a,s1,ha,h⟩:=ay h;obtain⟨b,s2,hb,h⟩:=ay h
    rcases hq:bE 4 [Bg] (ck e 4 ke s2) with ⟨o,s3⟩
    rw[hq] at h
    have fin:s3.bI=false->∀{c:Tr}{s4:PS},c.wt+wS s4<=wS s3->(Tr.mk 6 [] [a,b,c]).wt+wS s4<=wS s:=fun g {c s4} hc=>by
      have g2:=aL hq g;have g1:=cJ g2;have h1:=ot g2;have h2:=ih _ _ _ _ hb g1;have h3:=ih _ _ _ _ ha (aS hb g1)
      have h4:wS s3<=wS (ck e 4 ke s2):=by
        cases o with
        |some x=>have:=isw hq;omega
        |none=>have:=aE hq;rw[this];exact Nat.le_refl _
      rw[j8,M1];simp only[jw,List.length_nil] at *;omega
    cases o with
    |some x =>
      obtain⟨c,s4,hc,h⟩:=ay h;cases h;exact fin (aS hc hg) (ih _ _ _ _ hc hg)
    |none =>
      obtain⟨c,s4,hc,h⟩:=ay h;cases h;exact fin (aS hc hg) (ih _ _ _ _ hc hg)
  |fn =>
    rw[pM] at h
    rcases hq:bE 6 [[44]] (bZ e s).2 with ⟨o,s1⟩
    rw[hq] at h;cases o with
    |some x =>
      obtain⟨a,s2,ha,h⟩:=ay h;cases h;have g1:=aS ha hg;have:=Au (aL hq g1);have:=isw hq;have:=ih _ _ _ _ ha hg;rw[j8,qo];simp only[jw] at *;omega
    |none =>
      have e1:=aE hq;obtain⟨a,s2,ha,h⟩:=ay h;cases h;have g1:=aS ha hg;have g2:=cJ g1;have h1:=ot g1;rw[e1] at g2 h1;have:=Au g2;have:=ih _ _ _ _ ha hg;rw[e1] at this;rw[j8,qo];simp only[jw] at *;omega
  |block =>
    rw[pM] at h;have h1:=ih _ _ _ _ h hg;have h2:=ot (aS h hg);simp only[jw,mO] at *;omega
  |blockL l =>
    rw[pM] at h;obtain⟨a,s1,ha,h⟩:=ay h
    rcases hq:bE 6 [[59]] s1 with ⟨o,s2⟩
    rw[hq] at h;simp only at h
    rcases hq2:bE 8 [[125]] s2 with ⟨o2,s3⟩
    rw[hq2] at h
    have h4:wS s2<=wS s1:=by
      cases o with
      |some x=>have:=isw hq;omega
      |none=>have:=aE hq;rw[this];exact Nat.le_refl _
    cases o2 with
    |some x =>
      cases h;have:=isw hq2;have:=ih _ _ _ _ ha (aL hq (aL hq2 hg));rw[j8,zJ,qo];simp only[jw,List.length_nil] at *;omega
    |none =>
      have e3:=aE hq2;subst e3;simp only at h;split at h
      · have h1:=ih _ _ _ _ h hg;have h2:=ih _ _ _ _ ha (aL hq (aS h hg));simp only[jw,zJ,qo] at *;omega
      · cases h;rw[cV] at hg;cases hg
  |part k =>
    rw[pM] at h;split at h
    · obtain⟨a,s1,ha,h⟩:=ay h;have:=ih _ _ _ _ h hg;have:=ih _ _ _ _ ha (aS h hg);simp only[jw] at *;omega
    · split at h
      · rcases hq:bE 4 [kI] s with ⟨o,s1⟩
        rw[hq] at h;cases o with
        |some x =>
          obtain⟨a,s2,ha,h⟩:=ay h;cases h;have:=isw hq;have:=ih _ _ _ _ ha hg;rw[j8,qo];have:kI.length=3:=rfl;simp only[jw] at *;omega
        |none =>
          have:=aE hq;subst this;simp only at h
          rcases hq:bE 6 [sX] s1 with ⟨o,s2⟩
          rw[hq] at h;cases o with
          |some x =>
            obtain⟨a,s2,ha,h⟩:=ay h;cases h;have:=isw hq;have:=ih _ _ _ _ ha hg;rw[j8,qo];have:kI.length=3:=rfl;simp only[jw] at *;omega
          |none=>have:=aE hq;subst this;simp only at h;have q:=ih _ _ _ _ h hg;exact q
      · split at h
        · rcases hq:bE 6 [iQ] s with ⟨o,s1⟩
          rw[hq] at h;cases o with
          |some x =>
            obtain⟨a,s2,ha,h⟩:=ay h;cases h;have:=isw hq;have:=ih _ _ _ _ ha hg;rw[j8,qo];have:iQ.length=1:=rfl;simp only[jw] at *;omega
          |none=>have:=aE hq;subst this;simp only at h;have q:=ih _ _ _ _ h hg;exact q
        · obtain⟨a,s1,ha,h⟩:=ay h;have:=ih _ _ _ _ h hg;have:=ih _ _ _ _ ha (aS h hg);simp only[jw] at *;omega
  |opL k u =>
    rw[pM] at h
    rcases hq:xP k s with ⟨o,s1⟩
    rw[hq] at h;cases o with
    |none=>cases h;have:=BY hq;subst this;simp only[jw];omega
    |some x =>
      obtain⟨a,s2,ha,h⟩:=ay h;have h1:=Nz hq;split at h
      · cases h;have:=ih _ _ _ _ ha hg;rw[j8,Bo];simp only[jw] at *;omega
      · have h3:=ih _ _ _ _ h hg;have:=ih _ _ _ _ ha (aS h hg);simp only[jw] at *;rw[j8,Bo] at h3;omega
  |callL u =>
    rw[pM] at h
    rcases hq:bE 7 [[40]] s with ⟨o,s1⟩
    rw[hq] at h;cases o with
    |none=>cases h;have:=aE hq;subst this;simp only[jw];omega
    |some x=>have:=isw hq;have:=ih _ _ _ _ h hg;simp only[jw] at *;omega
  |argL u =>
    rw[pM] at h;obtain⟨a,s1,ha,h⟩:=ay h
    rcases hq:bE 6 [[44]] s1 with ⟨o,s2⟩
    rw[hq] at h;cases o with
    |some x =>
      have h1:=isw hq;have h3:=ih _ _ _ _ h hg;have:=ih _ _ _ _ ha (aL hq (aS h hg));simp only[jw] at *;rw[j8,Bo] at h3;simp only[List.length_nil] at h3;omega
    |none =>
      have:=aE hq;subst this;simp only at h;have g1:=aS h hg;have h3:=ih _ _ _ _ h hg;have h2:=ot g1;have:=ih _ _ _ _ ha (cJ g1);simp only[jw] at *;rw[j8,Bo] at h3;simp only[List.length_nil] at h3;omega
  |atom =>
    have h1:∃u r,s= .ok (u::r):=by
      cases s with
      |bad m=>have h:some (Es,PS.bad m)=some (t,s'):=h;cases h;cases hg
      |ok r=>cases r with
        |nil=>have h:some (Es,cB e (.ok []))=some (t,s'):=h;cases h;cases hg
        |cons u r=>exact⟨u,r,rfl⟩
    obtain⟨u,r,rfl⟩:=h1;rw[pM] at h;split at h
    · rename_i t' q;cases h;have k:∀k:Int,(Tr.mk k u.2.1 []).wt+uh r<=uh (u::r):=fun k=>by rw[j8];simp only[mO,uh];omega
      unfold kE at q;split at q
      · cases q;exact k _
      · split at q
        · cases q;exact k _
        · split at q
          · cases q;exact k _
          · split at q
            · cases q;exact k _
            · cases q
    · split at h
      · have:=ih _ _ _ _ h hg;simp only[jw] at *;omega
      · split at h
        · obtain⟨a,s1,ha,h⟩:=ay h;cases h;have h1:=ih _ _ _ _ ha (cJ hg);have h2:=ot hg;simp only[jw,wS,uh] at *;omega
        · cases h;rw[cV] at hg;cases hg
theorem rW {e:Int}:∀(n:Nat) (l:List Tr) (s:PS) (K:List Tr) (F:PS),dG e n l s=some (K,F)->F.bI=false->mO K+wS F<=mO l+wS s
  | 0,_,_,_,_,h,_=>by cases h
  |n+1,l,s,K,F,h,hg=>by
    rw[dG] at h;split at h
    · cases h;exact Nat.le_refl _
    · cases h1:pM e n .stmt s with
      |none=>rw[h1] at h;cases h
      |some p =>
        obtain⟨t,s1⟩:=p;rw[h1] at h;simp only[Option.bind_some] at h
        rcases h2:bE 6 [[59]] s1 with ⟨o,s2⟩
        rw[h2] at h
        have h4:wS s2<=wS s1:=by
          cases o with
          |some x=>have:=yZ h2;omega
          |none=>have:=aE h2;rw[this];exact Nat.le_refl _
        have good:s2.bI=false->mO (l++[t])+wS s2<=mO l+wS s:=fun g=>by
          have:=Nw e n _ _ _ _ h1 (aL h2 g);rw[zJ,qo];simp only[jw] at this;omega
        have pg:∀{n l s K F},dG e n l s=some (K,F)->F.bI=false->s.bI=false:=fun {n l s K F} h g=>by
          cases s with
          |ok r=>rfl
          |bad m =>
            cases n with
            |zero=>cases h
            |succ n=>rw[dG,if_pos (show (PS.bad m).len=0 from rfl)] at h;cases h;cases g
        cases o with
        |some x =>
          simp only at h;have:=rW n _ _ _ _ h hg;have:=good (pg h hg);omega
        |none =>
          simp only at h;split at h
          · have:=rW n _ _ _ _ h hg;have:=good (pg h hg);omega
          · have:=pg h hg;rw[cV] at this;cases this
theorem D8 (x:By):∀l:List Un,uh (iU x l)<=uh l+2*x.length
  | []=>by simp[iU,uh]
  | [u]=>by simp only[iU,uh,List.length_append];omega
  |u::v::l=>by have:=D8 x (v::l);simp only[iU,uh] at *;omega
theorem JK {s:By}{out out':List Un}{op op':Bool}{t:Tok}(h:js s out op t= .go out' op'):uh out'<=uh out+(2*s.length+42):=by
  have ht:(cz s t).length<=s.length:=by unfold cz;rw[List.length_take,List.length_drop];omega
  unfold js at h;split at h
  · cases h
  · split at h
    · split at h
      · cases h;omega
      · split at h
        · cases h;have:=D8 [qW (cz s t)] out;simp only[List.length_singleton] at this;omega
        · cases h;have:=D8 (cz s t) out;omega
    · split at h
      · cases h;omega
      · split at h
        · cases h
        · cases h;rw[JJ];simp only[uh];split
          · simp only[List.length_nil];omega
          · omega
theorem Er {s:By}:∀(l:List Tok) (out out':List Un) (op op':Bool),j9 s l out op= .go out' op'->uh out'<=uh out+l.length*(2*s.length+42)
  | [],_,_,_,_,h=>by cases h;omega
  |t::l,out,out',op,op',h=>by
    rw[j9] at h;split at h
    · cases h
    · rename_i o1 p1 q;have h1:=JK q;have h2:=Er l _ _ _ _ h;rw[List.length_cons,Nat.succ_mul];omega
theorem cU.wt {s:By}{l:List Tok}{m:Int}{k:List Tr}{a:Int}(h:cU s l m k a e):mO k<=l.length*(2*s.length+42):=by
  cases h with
  |units _=>simp[mO]
  |bad _ _=>simp[mO]
  |ok h h2 =>
    rename_i u n r;have h1:=rW _ _ _ _ _ h2 rfl;simp only[mO,wS] at h1;unfold ie at h;split at h
    · split at h
      · cases h
      · rename_i q;split at h
        · cases h
        · cases h;have:=Er _ _ _ _ _ q;simp only[uh] at this;omega
    · cases h
def QO (W:By->Bool) (u:Un):Prop:=(u.1=3->cY W u.2.1=true)/\(u.1=5->tX u.2.1=true)/\(u.1=9->u.2.1.length<=16384)
def Aq (W:By->Bool):PS->Prop|.ok r=>∀u∈r,QO W u|.bad _=>True
theorem qJ {u:Un}{r:List Un}(h:Aq W (.ok (u::r))):Aq W (.ok r):=fun x hx=>h x (List.mem_cons_of_mem _ hx)
theorem dP {ts:List By}{o:Option By}(h:bE k ts s=(o,s')) (hs:Aq W s):Aq W s':=by
  cases o with
  |none=>have:=aE h;subst this;exact hs
  |some x=>obtain⟨u,r,rfl,rfl,_⟩:=lF h;exact qJ hs
theorem wA (e:Int) (s:PS):Aq W (cB e s):=by cases s<;>trivial
theorem lB (e k:Int) (t:By) (hs:Aq W s):Aq W (ck e k t s):=by
  unfold ck
  rcases hq:bE k [t] s with ⟨o,s1⟩
  cases o with
  |none=>exact wA e s1
  |some x=>exact dP hq hs
theorem B3 (e:Int) (hs:Aq W s):Aq W (bZ e s).2:=by
  cases s with
  |bad m=>trivial
  |ok r=>cases r with
    |nil=>exact wA e (.ok [])
    |cons u r =>
      rw[iA];split
      · exact qJ hs
      · exact wA e (.ok (u::r))
theorem nB (hs:Aq W s) (h:(bZ e s).2.bI=false):cY W (bZ e s).1=true:=by
  cases s with
  |bad m=>cases h
  |ok r=>cases r with
    |nil=>cases h
    |cons u r =>
      rw[iA] at h ⊢;split at h
      · rename_i q;rw[if_pos q];exact(hs u (by simp)).1 q
      · cases h
theorem L5 {k:Nat}(h:xP k s=(some x,s')):x∈pF:=by
  have two:∀{a b z:By}(_:z∈pF),((match bE 4 [a] s with|(some _,s)=>(some z,s)|(none,s)=>match bE 6 [b] s with|(some _,s)=>(some z,s)|(none,s)=>(none,s)):Option By×PS)=(some x,s')->x∈pF:=fun {a b z} hz h0=>by
    rcases hq:bE 4 [a] s with ⟨o,s1⟩
    rw[hq] at h0;cases o with
    |some y=>cases h0;exact hz
    |none =>
      dsimp only at h0
      rcases hq2:bE 6 [b] s1 with ⟨o,s2⟩
      rw[hq2] at h0;cases o with
      |some y=>cases h0;exact hz
      |none=>cases h0
  have one:∀{ts:List By},(∀y∈ts,y∈pF)->bE 6 ts s=(some x,s')->x∈pF:=fun ht h0=>by
    obtain⟨_,_,_,_,_,rfl,hm⟩:=lF h0;exact ht _ hm
  unfold xP at h;split at h
  · exact two (z:=rO) (by decide) h
  · split at h
    · exact two (z:=kJ) (by decide) h
    · split at h
      · exact one (by decide) h
      · split at h
        · exact one (by decide) h
        · exact one (by decide) h
theorem L4 {k:Nat}{o:Option By}(h:xP k s=(o,s')) (hs:Aq W s):Aq W s':=by
  have two:∀{a b z:By},((match bE 4 [a] s with|(some _,s)=>(some z,s)|(none,s)=>match bE 6 [b] s with|(some _,s)=>(some z,s)|(none,s)=>(none,s)):Option By×PS)=(o,s')->Aq W s':=fun {a b z} h0=>by
    rcases hq:bE 4 [a] s with ⟨o1,s1⟩
    have h1:=dP hq hs;rw[hq] at h0;cases o1 with
    |some y=>cases h0;exact h1
    |none =>
      dsimp only at h0
      rcases hq2:bE 6 [b] s1 with ⟨o2,s2⟩
      have h2:=dP hq2 h1;rw[hq2] at h0;cases o2 with
      |some y=>cases h0;exact h2
      |none=>cases h0;exact h2
  unfold xP at h;split at h
  · exact two (z:=rO) h
  · split at h
    · exact two (z:=kJ) h
    · split at h
      · exact dP h hs
      · split at h<;>exact dP h hs
abbrev V (W:By->Bool) (t:Tr):Prop:=bq W t=true
def E (W:By->Bool) (t:Tr):Prop:=V W t/\(t.kind≠7\/t.kids.length=2)
theorem J1 {l:List Tr}(h:k≠7):(Tr.mk k t l).kind≠7:=h
theorem fJ {i:Nat}{x:Tr}(h:E W x) (hk:k≠6\/i=0):gJ k i x=true:=by
  obtain⟨k',t',l'⟩:=x;have:=h.2;simp only[Tr.kind,Tr.kids] at this;simp only[gJ,Bool.and_eq_true,Bool.or_eq_true,decide_eq_true_eq];exact⟨.inr this,hk.elim .inl fun h=>.inr (.inl h)⟩
theorem yq {l:List Tr}:V W (.mk k t l)↔eH W k t l.length=true/\gq W k 0 l=true:=by
  show (eH W k t l.length && gq W k 0 l)=true↔_
  rw[Bool.and_eq_true]
theorem Oz (h:eH W k t 0=true):V W (.mk k t []):=yq.2 ⟨h,rfl⟩
theorem MO (h:eH W k t 1=true) (ha:V W a) (ka:gJ k 0 a=true):V W (.mk k t [a]):=yq.2 ⟨h,by
  show ((bq W a && gJ k 0 a) && true)=true
  rw[ha,ka];rfl⟩
theorem P2 {b:Tr}(h:eH W k t 2=true) (ha:V W a) (ka:gJ k 0 a=true) (hb:V W b) (kb:gJ k 1 b=true):V W (.mk k t [a,b]):=yq.2 ⟨h,by
  show ((bq W a && gJ k 0 a) && ((bq W b && gJ k 1 b) && true))=true
  rw[ha,ka,hb,kb];rfl⟩
theorem Rc {b c:Tr}(h:eH W k t 3=true) (ha:V W a) (ka:gJ k 0 a=true) (hb:V W b) (kb:gJ k 1 b=true) (hc:V W c) (kc:gJ k 2 c=true):V W (.mk k t [a,b,c]):=yq.2 ⟨h,by
  show ((bq W a && gJ k 0 a) && ((bq W b && gJ k 1 b) && ((bq W c && gJ k 2 c) && true)))=true
  rw[ha,ka,hb,kb,hc,kc];rfl⟩
theorem yB {W:By->Bool}:∀(l:List Tr) (i:Nat),(∀x∈l,V W x)->gq W 10 i l=true
  | [],_,_=>rfl
  |x::l,i,h=>by
    show ((bq W x && gJ 10 i x) && gq W 10 (i+1) l)=true
    have hk:gJ 10 i x=true:=by cases x;rfl
    rw[h x (by simp),hk,yB l (i+1) (fun y hy=>h y (by simp[hy]))];rfl
theorem iu (hk:k=3\/k=7\/k=8) (h:cY W t=true){n:Nat}(hn:(cw k).1<=n/\n<=(cw k).2):eH W k t n=true:=by
  unfold eH dZ;have:0<=k/\k<=10:=by omega
  rw[decide_eq_true hn.1,decide_eq_true hn.2,decide_eq_true this.1,decide_eq_true this.2,if_neg (by omega),if_neg (by omega),if_neg (by omega),if_pos hk,h];rfl
theorem HB (h:t∈pF):eH W 5 t 2=true:=by
  show (decide ((cw 5).1<=2) && (decide (2<=(cw 5).2) && (decide ((0:Int)<=5) && (decide ((5:Int)<=10) && dZ W 5 t))))=true
  have:dZ W 5 t=decide (t∈pF):=rfl;rw[this,decide_eq_true h];rfl
def QX (W:By->Bool):Fl->PS->Prop
  |.blockL l,s=>l.length+s.len<=500/\∀x∈l,V W x
  |.opL _ t,s=>s.len<=500/\E W t
  |.callL t,s=>s.len<=500/\E W t
  |.argL t,s=>s.len<=500/\E W t
  |_,s=>s.len<=500
def PG (W:By->Bool):Fl->Tr->Prop
  |.stmt,t=>V W t
  |.lt true,t=>V W t
  |.choice,t=>E W t/\t.kind=6
  |.block,t=>E W t/\t.kind=10
  |.blockL _,t=>E W t/\t.kind=10
  |_,t=>E W t
theorem HR (e:Int):∀(n:Nat) (j:Fl) (s:PS) (t:Tr) (s':PS),pM e n j s=some (t,s')->s'.bI=false->Aq W s->QX W j s->PG W j t/\Aq W s':=by
  intro n
  induction n with
  |zero=>intro j s t s' h;cases h
  |succ n ih =>
  intro j s t s' h hg hs hj;have sd:∀{k ts}{s s1:PS}{x:By},bE k ts s=(some x,s1)->s1.len<=s.len:=fun h=>by have:=ct h;omega
  cases j with
  |stmt =>
    rw[pM] at h
    rcases hq:bE 4 [oH] s with ⟨o,s1⟩
    rw[hq] at h;have o1:=dP hq hs;cases o with
    |some x=>have q:=ih _ _ _ _ h hg o1 (Nat.le_trans (sd hq) hj);exact q
    |none=>have:=aE hq;subst this;simp only at h;have q:=ih _ _ _ _ h hg hs hj;exact⟨q.1.1,q.2⟩
  |expr =>
    rw[pM] at h
    rcases hq:bE 4 [oH] s with ⟨o,s1⟩
    rw[hq] at h;have o1:=dP hq hs;cases o with
    |some x=>have q:=ih _ _ _ _ h hg o1 (Nat.le_trans (sd hq) hj);exact q
    |none =>
      have:=aE hq;subst this;simp only at h
      rcases hq:bE 4 [Bg] s1 with ⟨o,s2⟩
      rw[hq] at h;have o1:=dP hq hs;cases o with
      |some x=>have q:=ih _ _ _ _ h hg o1 (Nat.le_trans (sd hq) hj);exact⟨q.1.1,q.2⟩
      |none =>
        have:=aE hq;subst this;simp only at h
        rcases hq:bE 4 [BA] s2 with ⟨o,s3⟩
        rw[hq] at h;have o1:=dP hq hs;cases o with
        |some x=>have q:=ih _ _ _ _ h hg o1 (Nat.le_trans (sd hq) hj);exact q
        |none=>have:=aE hq;subst this;simp only at h;have q:=ih _ _ _ _ h hg hs hj;exact q
  |lt al =>
    rw[pM] at h;obtain⟨v,s1,hv,h⟩:=ay h
    rcases hq:bE 4 [JO] s1 with ⟨o,s2⟩
    rw[hq] at h;have on:=lB e 6 [61] (B3 e hs);have ln:(ck e 6 [61] (bZ e s).2).len<=500:=Nat.le_trans (eo e 6 [61] _) (Nat.le_trans (lz e s).1 hj);have fin:s1.bI=false->(E W v/\Aq W s1)/\cY W (bZ e s).1=true:=fun g=>⟨ih _ _ _ _ hv g on ln,nB hs (cJ (aS hv g))⟩
    have l1:=iz hv;cases o with
    |some x =>
      obtain⟨w,s3,hw,h⟩:=ay h;cases h;obtain⟨⟨f1,f2⟩,f3⟩:=fin (aL hq (aS hw hg));have q:=ih _ _ _ _ hw hg (dP hq f2) (Nat.le_trans (sd hq) (Nat.le_trans l1 ln));have hV:V W (.mk 7 (bZ e s).1 [v,w]):=P2 (iu (.inr (.inl rfl)) f3 (by decide)) f1.1 (fJ f1 (.inl (by decide))) q.1.1 (fJ q.1 (.inl (by decide)));refine⟨?_,q.2⟩;cases al with
      |true=>exact hV
      |false=>exact⟨hV,.inr rfl⟩
    |none =>
      have:=aE hq;subst this;cases al with
      |true =>
        simp only[if_true] at h;cases h;obtain⟨⟨f1,f2⟩,f3⟩:=fin hg;exact⟨MO (iu (.inr (.inl rfl)) f3 (by decide)) f1.1 (fJ f1 (.inl (by decide))),f2⟩
      |false=>simp only[Bool.false_eq_true,if_false] at h;cases h;rw[cV] at hg;cases hg
  |choice =>
    rw[pM] at h;obtain⟨a,s1,ha,h⟩:=ay h;obtain⟨b,s2,hb,h⟩:=ay h
    rcases hq:bE 4 [Bg] (ck e 4 ke s2) with ⟨o,s3⟩
    rw[hq] at h;have l1:=iz ha;have l2:=iz hb;have l3:=eo e 4 ke s2
    have fin:s3.bI=false->Aq W s3/\s3.len<=500/\∀{c:Tr},E W c->c.kind=10\/c.kind=6->E W (.mk 6 [] [a,b,c])/\(Tr.mk 6 [] [a,b,c]).kind=6:=fun g=>by
      have g2:=aL hq g;have g1:=cJ g2;have qa:=ih _ _ _ _ ha (aS hb g1) hs hj;have qb:=ih _ _ _ _ hb g1 qa.2 (Nat.le_trans l1 hj)
      have hl:s3.len<=500:=by
        have hj:s.len<=500:=hj;cases o with
        |some x=>have:=ct hq;omega
        |none=>have:=aE hq;rw[this];omega
      refine⟨dP hq (lB e 4 ke qb.2),hl,fun {c} hc hk=>⟨⟨Rc rfl qa.1.1 (fJ qa.1 (.inr rfl)) qb.1.1.1 ?_ hc.1 ?_,.inl (J1 (by decide))⟩,rfl⟩⟩
      · obtain⟨k',t',l'⟩:=b;have hk:k'=10:=qb.1.2;subst hk;rfl
      · obtain⟨k',t',l'⟩:=c;have hk:k'=10\/k'=6:=hk
        rcases hk with rfl|rfl<;>rfl
    cases o with
    |some x =>
      obtain⟨c,s4,hc,h⟩:=ay h;cases h;obtain⟨f1,f2,f3⟩:=fin (aS hc hg);have q:=ih _ _ _ _ hc hg f1 f2;exact⟨f3 q.1.1 (.inr q.1.2),q.2⟩
    |none =>
      obtain⟨c,s4,hc,h⟩:=ay h;cases h;obtain⟨f1,f2,f3⟩:=fin (aS hc hg);have q:=ih _ _ _ _ hc hg f1 f2;exact⟨f3 q.1.1 (.inl q.1.2),q.2⟩
  |fn =>
    rw[pM] at h
    rcases hq:bE 6 [[44]] (bZ e s).2 with ⟨o,s1⟩
    rw[hq] at h;have on:=dP hq (B3 e hs);have ln:=(lz e s).1;have hj:s.len<=500:=hj;cases o with
    |some x =>
      obtain⟨a,s2,ha,h⟩:=ay h;cases h;have g1:=aS ha hg;have hn:=nB hs (aL hq g1);have:=ct hq;have q:=ih _ _ _ _ ha hg on (show s1.len<=500 by omega);exact⟨⟨MO (iu (.inr (.inr rfl)) hn (by decide)) q.1.1 (fJ q.1 (.inl (by decide))),.inl (J1 (by decide))⟩,q.2⟩
    |none =>
      have e1:=aE hq;obtain⟨a,s2,ha,h⟩:=ay h;cases h;have g1:=aS ha hg;have g2:=cJ g1;rw[e1] at g2;have hn:=nB hs g2;have l2:=eo e 6 [45,62] s1;have q:=ih _ _ _ _ ha hg (lB e 6 [45,62] on) (show (ck e 6 [45,62] s1).len<=500 by rw[e1] at l2 ⊢;omega);exact⟨⟨MO (iu (.inr (.inr rfl)) hn (by decide)) q.1.1 (fJ q.1 (.inl (by decide))),.inl (J1 (by decide))⟩,q.2⟩
  |block =>
    rw[pM] at h;have l1:=eo e 7 [123] s;have hj:s.len<=500:=hj;have q:=ih _ _ _ _ h hg (lB e 7 [123] hs) ⟨by simp only[List.length_nil];omega,fun x hx=>by cases hx⟩;exact q
  |blockL l =>
    rw[pM] at h;obtain⟨a,s1,ha,h⟩:=ay h
    rcases hq:bE 6 [[59]] s1 with ⟨o,s2⟩
    rw[hq] at h;simp only at h
    rcases hq2:bE 8 [[125]] s2 with ⟨o2,s3⟩
    rw[hq2] at h;have l1:=iz ha;obtain⟨hjl,hjv⟩:=hj
    have l2:s2.len<=s1.len/\(o.isSome=true->s2.len<s1.len):=by
      cases o with
      |some x=>have:=ct hq;exact⟨by omega,fun _=>by omega⟩
      |none=>have:=aE hq;rw[this];exact⟨Nat.le_refl _,fun k=>by cases k⟩
    have all:V W a->∀x∈l++[a],V W x:=fun hv x hx=>by
      rcases List.mem_append.1 hx with hx|hx
      · exact hjv x hx
      · simp at hx;rw[hx];exact hv
    cases o2 with
    |some x =>
      cases h;have l3:=ct hq2;have qa:=ih _ _ _ _ ha (aL hq (aL hq2 hg)) hs (show s.len<=500 by omega);refine⟨⟨⟨yq.2 ⟨?_,yB _ _ (all qa.1)⟩,.inl (J1 (by decide))⟩,rfl⟩,dP hq2 (dP hq qa.2)⟩;have hn:1<=(l++[a]).length/\(l++[a]).length<=500:=by rw[List.length_append];simp only[List.length_cons,List.length_nil];omega
      show (decide (1<=(l++[a]).length) && (decide ((l++[a]).length<=500) && (decide ((0:Int)<=10) && (decide ((10:Int)<=10) && dZ W 10 []))))=true
      rw[decide_eq_true hn.1,decide_eq_true hn.2];rfl
    |none =>
      have e3:=aE hq2;subst e3;simp only at h;split at h
      · rename_i hm;rw[Bool.and_eq_true] at hm;have qa:=ih _ _ _ _ ha (aL hq (aS h hg)) hs (show s.len<=500 by omega);have q:=ih _ _ _ _ h hg (dP hq qa.2) ⟨by have:=l2.2 hm.1;rw[List.length_append];simp only[List.length_cons,List.length_nil];omega,all qa.1⟩;exact q
      · cases h;rw[cV] at hg;cases hg
  |part k =>
    rw[pM] at h;have hj:s.len<=500:=hj;split at h
    · obtain⟨a,s1,ha,h⟩:=ay h;have l1:=iz ha;have qa:=ih _ _ _ _ ha (aS h hg) hs hj;have q:=ih _ _ _ _ h hg qa.2 ⟨by omega,qa.1⟩;exact q
    · split at h
      · rcases hq:bE 4 [kI] s with ⟨o,s1⟩
        rw[hq] at h;have o1:=dP hq hs;cases o with
        |some x =>
          obtain⟨a,s2,ha,h⟩:=ay h;cases h;have q:=ih _ _ _ _ ha hg o1 (Nat.le_trans (sd hq) hj);exact⟨⟨MO rfl q.1.1 (fJ q.1 (.inl (by decide))),.inl (J1 (by decide))⟩,q.2⟩
        |none =>
          have:=aE hq;subst this;simp only at h
          rcases hq:bE 6 [sX] s1 with ⟨o,s2⟩
          rw[hq] at h;have o1:=dP hq hs;cases o with
          |some x =>
            obtain⟨a,s2,ha,h⟩:=ay h;cases h;have q:=ih _ _ _ _ ha hg o1 (Nat.le_trans (sd hq) hj);exact⟨⟨MO rfl q.1.1 (fJ q.1 (.inl (by decide))),.inl (J1 (by decide))⟩,q.2⟩
          |none=>have:=aE hq;subst this;simp only at h;have q:=ih _ _ _ _ h hg hs hj;exact q
      · split at h
        · rcases hq:bE 6 [iQ] s with ⟨o,s1⟩
          rw[hq] at h;have o1:=dP hq hs;cases o with
          |some x =>
            obtain⟨a,s2,ha,h⟩:=ay h;cases h;have q:=ih _ _ _ _ ha hg o1 (Nat.le_trans (sd hq) hj);exact⟨⟨MO rfl q.1.1 (fJ q.1 (.inl (by decide))),.inl (J1 (by decide))⟩,q.2⟩
          |none=>have:=aE hq;subst this;simp only at h;have q:=ih _ _ _ _ h hg hs hj;exact q
        · obtain⟨a,s1,ha,h⟩:=ay h;have l1:=iz ha;have qa:=ih _ _ _ _ ha (aS h hg) hs hj;have q:=ih _ _ _ _ h hg qa.2 ⟨by omega,qa.1⟩;exact q
  |opL k u =>
    rw[pM] at h
    rcases hq:xP k s with ⟨o,s1⟩
    rw[hq] at h;have o1:=L4 hq hs;obtain⟨hj,hE⟩:=hj;cases o with
    |none=>cases h;exact⟨hE,o1⟩
    |some x =>
      obtain⟨a,s2,ha,h⟩:=ay h;have l0:=An hq;have l1:=iz ha;have hx:=L5 hq;have mk:E W a->E W (.mk 5 x [u,a]):=fun q=>⟨P2 (HB hx) hE.1 (fJ hE (.inl (by decide))) q.1 (fJ q (.inl (by decide))),.inl (J1 (by decide))⟩
      split at h
      · cases h;have q:=ih _ _ _ _ ha hg o1 (show s1.len<=500 by omega);exact⟨mk q.1,q.2⟩
      · have q:=ih _ _ _ _ ha (aS h hg) o1 (show s1.len<=500 by omega);have q:=ih _ _ _ _ h hg q.2 ⟨by omega,mk q.1⟩;exact q
  |callL u =>
    rw[pM] at h
    rcases hq:bE 7 [[40]] s with ⟨o,s1⟩
    rw[hq] at h;have o1:=dP hq hs;obtain⟨hj,hE⟩:=hj;cases o with
    |none=>cases h;exact⟨hE,o1⟩
    |some x=>have q:=ih _ _ _ _ h hg o1 ⟨Nat.le_trans (sd hq) hj,hE⟩;exact q
  |argL u =>
    rw[pM] at h;obtain⟨a,s1,ha,h⟩:=ay h
    rcases hq:bE 6 [[44]] s1 with ⟨o,s2⟩
    rw[hq] at h;obtain⟨hj,hE⟩:=hj;have l1:=iz ha;have mk:E W a->E W (.mk 9 [] [u,a]):=fun q=>⟨P2 rfl hE.1 (fJ hE (.inl (by decide))) q.1 (fJ q (.inl (by decide))),.inl (J1 (by decide))⟩
    cases o with
    |some x =>
      have l2:=ct hq;have q:=ih _ _ _ _ ha (aL hq (aS h hg)) hs hj;have q:=ih _ _ _ _ h hg (dP hq q.2) ⟨by omega,mk q.1⟩;exact q
    |none =>
      have:=aE hq;subst this;simp only at h;have g1:=aS h hg;have l2:=eo e 8 [41] s2;have q:=ih _ _ _ _ ha (cJ g1) hs hj;have q:=ih _ _ _ _ h hg (lB e 8 [41] q.2) ⟨by omega,mk q.1⟩;exact q
  |atom =>
    have h1:∃u r,s= .ok (u::r):=by
      cases s with
      |bad m=>have h:some (Es,PS.bad m)=some (t,s'):=h;cases h;cases hg
      |ok r=>cases r with
        |nil=>have h:some (Es,cB e (.ok []))=some (t,s'):=h;cases h;cases hg
        |cons u r=>exact⟨u,r,rfl⟩
    obtain⟨u,r,rfl⟩:=h1;rw[pM] at h;have hj:(PS.ok (u::r)).len<=500:=hj;have hr:(PS.ok r).len<=500:=by simp only[PS.len,List.length_cons] at hj ⊢;omega
    split at h
    · rename_i t' q;cases h;refine⟨?_,qJ hs⟩;obtain⟨hu3,hu5,hu9⟩:=hs u (by simp);unfold kE at q;split at q
      · rename_i k;cases q;exact⟨Oz (by
          show (decide ((cw 0).1<=0) && (decide (0<=(cw 0).2) && (decide ((0:Int)<=0) && (decide ((0:Int)<=10) && dZ W 0 u.2.1))))=true
          have:dZ W 0 u.2.1=tX u.2.1:=rfl;rw[this,hu5 k];rfl),.inl (show (0:Int)≠7 by decide)⟩
      · split at q
        · rename_i k;cases q;exact⟨Oz (by
            show (decide ((cw 1).1<=0) && (decide (0<=(cw 1).2) && (decide ((0:Int)<=1) && (decide ((1:Int)<=10) && dZ W 1 u.2.1))))=true
            have:dZ W 1 u.2.1=decide (u.2.1.length<=16384):=rfl;rw[this,decide_eq_true (hu9 k)];rfl),.inl (show (1:Int)≠7 by decide)⟩
        · split at q
          · rename_i k;cases q;exact⟨Oz (iu (.inl rfl) (hu3 k) (by decide)),.inl (show (3:Int)≠7 by decide)⟩
          · split at q
            · rename_i k;cases q;refine⟨?_,.inl (show (2:Int)≠7 by decide)⟩
              rcases k.2 with k|k<;>(rw[k];exact Oz rfl)
            · cases q
    · split at h
      · have q:=ih _ _ _ _ h hg hs hj;exact⟨q.1.1,q.2⟩
      · split at h
        · obtain⟨a,s1,ha,h⟩:=ay h;cases h;have q:=ih _ _ _ _ ha (cJ hg) (qJ hs) hr;exact⟨q.1,lB e 8 [41] q.2⟩
        · cases h;rw[cV] at hg;cases hg
end
end Go.Proofs.YtdgckfkoihcmjaaGreatDoor
namespace Go.Proofs.YtdgckfkoihcmjaaGreatDoor
open Go
set_option maxRecDepth 100000
section
variable {w d:By}
abbrev HF:Nat:=10633823849912963253511222494305976320
abbrev BO:Nat:=10633823849912963253799171395480977408
abbrev HG:Nat:=287948901175001088
theorem xe {p:Nat->Bool}(h:(List.range 256).all p=true) (c:UInt8):p c.toNat=true:=List.all_eq_true.1 h _ (List.mem_range.2 c.toNat_lt)
theorem E0 (c:UInt8):HG.testBit c.toNat=true->dN c=true:=by
  have h:=xe (p:=fun n=> !(HG.testBit n) ||(decide (48<=n) && decide (n<=57))) (by decide +kernel) c;intro k;rw[k] at h;simpa [dN,UInt8.le_iff_toNat_le] using h
theorem Ke (c:UInt8):HF.testBit c.toNat=true->isLet c=true:=by
  have h:=xe (p:=fun n=> !(HF.testBit n) ||((decide (97<=n) && decide (n<=122)) ||((decide (65<=n) && decide (n<=90)) ||decide (n=95)))) (by decide +kernel) c;intro k;rw[k] at h;have e:(c=95)=(c.toNat=95):=propext ⟨fun q=>by rw[q];rfl,fun q=>UInt8.toNat_inj.1 (by rw[q];rfl)⟩;simpa [isLet,UInt8.le_iff_toNat_le,e] using h
theorem G0 (c:UInt8):BO.testBit c.toNat=true->(isLet c ||dN c)=true:=by
  have h:=xe (p:=fun n=> !(BO.testBit n) ||(((decide (97<=n) && decide (n<=122)) ||((decide (65<=n) && decide (n<=90)) ||decide (n=95))) ||(decide (48<=n) && decide (n<=57)))) (by decide +kernel) c;intro k;rw[k] at h;have e:(c=95)=(c.toNat=95):=propext ⟨fun q=>by rw[q];rfl,fun q=>UInt8.toNat_inj.1 (by rw[q];rfl)⟩;simpa [isLet,dN,UInt8.le_iff_toNat_le,e,or_assoc] using h
theorem BE {A:By->Prop}{p:UInt8->Bool}(h:∀u,A u->∃c,u=[c]/\p c=true) (k:rE A w):w.all p=true:=by
  induction k with
  |nil=>rfl
  |cons ha _ ih=>obtain⟨c,rfl,hc⟩:=h _ ha;rw[List.all_append,ih];simp[hc]
theorem Ii (h:Ej (.mk 2 0 [.mk 1 HF [],.mk 4 0 [.mk 1 BO []]]) w):∃c r,w=c::r/\isLet c=true/\r.all (fun c=>isLet c ||dN c)=true:=by
  obtain⟨u,v,rfl,⟨c,rfl,hc⟩,u',v',rfl,hu,rfl⟩:∃u v,w=u++v/\(∃c:UInt8,u=[c]/\HF.testBit c.toNat=true)/\∃u' v',v=u'++v'/\rE (fun w=>∃c:UInt8,w=[c]/\BO.testBit c.toNat=true) u'/\v'=[]:=h;exact⟨c,u'++[],rfl,Ke c hc,by rw[List.append_nil];exact BE (fun u ⟨c,e,q⟩=>⟨c,e,G0 c q⟩) hu⟩
theorem wG (h:∃u v,w=u++v/\(∃c:UInt8,u=[c]/\HG.testBit c.toNat=true)/\rE (fun w=>∃c:UInt8,w=[c]/\HG.testBit c.toNat=true) v):w≠[]/\w.all dN=true:=by
  obtain⟨u,v,rfl,⟨c,rfl,hc⟩,hv⟩:=h;exact⟨by simp,by rw[List.all_append,BE (p:=dN) (fun u ⟨c,e,q⟩=>⟨c,e,E0 c q⟩) hv];simp[E0 c hc]⟩
theorem lI {r:By}(hd:d.all dN=true) (hr:∀c r',r=c::r'->dN c=false):cC (d++r)=r:=by
  unfold cC
  induction d with
  |nil =>
    cases r with
    |nil=>rfl
    |cons c r'=>rw[List.nil_append,List.dropWhile_cons,hr c r' rfl];rfl
  |cons c d ih =>
    rw[List.all_cons,Bool.and_eq_true] at hd;rw[List.cons_append,List.dropWhile_cons,hd.1];exact ih hd.2
theorem oB {r:By}(h0:d≠[]) (hd:d.all dN=true) (hr:∀c r',r=c::r'->dN c=false):eF (d++r)=true:=by
  unfold eF;rw[lI hd hr,List.length_append];have:=List.length_pos_iff.2 h0;exact decide_eq_true (by omega)
theorem EW {e:By}(h:e=[]\/∃c s d,e=c::(s++d)/\(c=101\/c=69)/\(s=[]\/∃x,s=[x]/\(x=43\/x=45))/\d≠[]/\d.all dN=true):oM e true=true:=by
  rcases h with rfl|⟨c,s,d,rfl,hc,hs,h0,hd⟩
  · rfl
  · have n0:∀c r',([]:By)=c::r'->dN c=false:=fun _ _ q=>by cases q
    have e1:eF d=true:=by have:=oB h0 hd n0;rwa [List.append_nil] at this
    have e2:cC d=[]:=by have:=lI (r:=[]) hd n0;rwa [List.append_nil] at this
    unfold oM;dsimp only;rw[if_pos ⟨rfl,hc⟩]
    rcases hs with rfl|⟨x,rfl,hx⟩
    · cases d with
      |nil=>exact absurd rfl h0
      |cons a d' =>
        rw[List.all_cons,Bool.and_eq_true] at hd;have ha:¬(a=43\/a=45):=fun q=>by rcases q with rfl|rfl<;>exact absurd hd.1 (by decide)
        show (if a=43\/a=45 then _ else _)=true
        rw[if_neg ha,List.nil_append,e1,e2];rfl
    · show (if x=43\/x=45 then _ else _)=true
      rw[if_pos hx,show ([]:By).append d=d from rfl,e1,e2];rfl
theorem H6 {f e:By}(h0:d≠[]) (hd:d.all dN=true) (hf:f=[]\/∃g,f=46::g/\g≠[]/\g.all dN=true)
    (he:e=[]\/∃c s d,e=c::(s++d)/\(c=101\/c=69)/\(s=[]\/∃x,s=[x]/\(x=43\/x=45))/\d≠[]/\d.all dN=true):tX (d++(f++e))=true:=by
  have ne:∀c r',e=c::r'->dN c=false/\c≠46:=fun c r' q=>by
    rcases he with rfl|⟨c',s,d',rfl,hc,_⟩
    · cases q
    · cases q;rcases hc with rfl|rfl<;>exact⟨by decide,by decide⟩
  rcases hf with rfl|⟨g,rfl,g0,hg⟩
  · rw[List.nil_append];have h1:=lI hd (fun c r' q=>(ne c r' q).1);have h2:=oB h0 hd (fun c r' q=>(ne c r' q).1);unfold tX;rw[h1,h2];cases e with
    |nil=>rfl
    |cons c r=>dsimp only;rw[if_neg (fun q=>(ne c r rfl).2 q.2)];exact EW he
  · have n46:∀c r',(46::g++e)=c::r'->dN c=false:=fun c r' q=>by cases q;decide
    have h1:=lI (r:=46::g++e) hd n46;have h2:=oB (r:=46::g++e) h0 hd n46;unfold tX;rw[h1,h2,List.cons_append]
    show (if true=true/\(46:UInt8)=46 then oM (cC (g++e)) (eF (g++e)) else _)=true
    rw[if_pos ⟨rfl,rfl⟩,lI hg (fun c r' q=>(ne c r' q).1),oB g0 hg (fun c r' q=>(ne c r' q).1)];exact EW he
abbrev qF:Nd:=.mk 5 0 [.mk 1 HG []]
theorem KB {s a:Nat}(h:(List.range 256).all (fun n=> !(s.testBit n) ||decide (n=a))=true){c:UInt8}(k:s.testBit c.toNat=true):c.toNat=a:=by
  have:=xe h c;rw[k] at this;simpa using this
theorem Fb {s a b:Nat}(h:(List.range 256).all (fun n=> !(s.testBit n) ||(decide (n=a) ||decide (n=b)))=true){c:UInt8}(k:s.testBit c.toNat=true):c.toNat=a\/c.toNat=b:=by
  have:=xe h c;rw[k] at this;simpa using this
theorem JW (h:Ej (.mk 2 0 [qF,.mk 6 0 [.mk 2 0 [.mk 1 70368744177664 [],qF]],.mk 6 0 [.mk 2 0 [.mk 1 2535301201046754613352112062464 [],.mk 6 0 [.mk 1 43980465111040 []],qF]]]) w):tX w=true:=by
  obtain⟨d,w1,rfl,hd,f,w2,rfl,hf,e,w3,rfl,he,rfl⟩:∃d w1,w=d++w1/\Ej qF d/\∃f w2,w1=f++w2/\(f=[]\/∃u v,f=u++v/\(∃c:UInt8,u=[c]/\Nat.testBit 70368744177664 c.toNat=true)/\∃u' v',v=u'++v'/\Ej qF u'/\v'=[]) /\
    ∃e w3,w2=e++w3/\(e=[]\/∃u v,e=u++v/\(∃c:UInt8,u=[c]/\Nat.testBit 2535301201046754613352112062464 c.toNat=true)/\∃s v',v=s++v'/\(s=[]\/∃c:UInt8,s=[c]/\Nat.testBit 43980465111040 c.toNat=true)/\∃u' v'',v'=u'++v''/\Ej qF u'/\v''=[])/\w3=[]:=h
  have hd:=wG hd;rw[List.append_nil];refine H6 hd.1 hd.2 ?_ ?_
  · rcases hf with rfl|⟨u,v,rfl,⟨c,rfl,hc⟩,u',v',rfl,hu,rfl⟩
    · exact .inl rfl
    · have:=wG hu;have hc:c=46:=UInt8.toNat_inj.1 (KB (a:=46) (by decide +kernel) hc);subst hc;exact .inr ⟨u',by simp,this.1,this.2⟩
  · rcases he with rfl|⟨u,v,rfl,⟨c,rfl,hc⟩,s,v',rfl,hs,u',v'',rfl,hu,rfl⟩
    · exact .inl rfl
    · have:=wG hu;have hc:c=69\/c=101:=(Fb (a:=69) (b:=101) (by decide +kernel) hc).imp (fun q=>UInt8.toNat_inj.1 q) (fun q=>UInt8.toNat_inj.1 q);refine .inr ⟨c,s,u',by simp,hc.symm,?_,this.1,this.2⟩
      rcases hs with rfl|⟨x,rfl,hx⟩
      · exact .inl rfl
      · exact .inr ⟨x,rfl,(Fb (a:=43) (b:=45) (by decide +kernel) hx).imp (fun q=>UInt8.toNat_inj.1 q) (fun q=>UInt8.toNat_inj.1 q)⟩
theorem QI:(br (pN.getD 2 [])).1= .mk 2 0 [.mk 1 HF [],.mk 4 0 [.mk 1 BO []]]:=by kernel_rfl
theorem QH:(br (pN.getD 3 [])).1= .mk 2 0 [qF,.mk 6 0 [.mk 2 0 [.mk 1 70368744177664 [],qF]],.mk 6 0 [.mk 2 0 [.mk 1 2535301201046754613352112062464 [],.mk 6 0 [.mk 1 43980465111040 []],qF]]]:=by kernel_rfl
theorem Ga {l:By}{m:Int}(h:oL l m=3):cY aW (l.take (dO l m))=true:=by
  unfold oL at h;split at h
  · cases h
  · rename_i h0;split at h
    · cases h
    · rename_i hw;have hlen:dO l m=(eW m l).1.toNat:=by unfold dO;rw[if_neg h0]
      have hword:aW (l.take (eW m l).1.toNat)=false:=by
        cases q:aW (l.take (eW m l).1.toNat)
        · rfl
        · exact absurd ⟨h,q⟩ hw
      rw[hlen];unfold nF at h;split at h
      · rename_i p hp;unfold iK at hp;split at hp
        · cases hp
        · rename_i hn
          have key:m=0/\(eW m l).2=2:=by
            unfold qR at hp;generalize (eW m l).2=n at *;obtain⟨n,rfl⟩:=Int.eq_ofNat_of_zero_le (Int.not_lt.1 hn);simp only[Int.toNat_natCast] at hp
            have:∀{L:List (Int×Int)}{i:Nat},(∀q∈L.zipIdx,q.1.1=3->q.2=2)->L[i]? =some p->i=2:=fun {L i} hL hi=>by
              have:=hL (p,i) (by rw[List.mem_zipIdx_iff_getElem?];exact hi) h;exact this
            split at hp
            · rename_i hm;have:=this (by decide) hp;exact⟨hm,by omega⟩
            · split at hp
              · have:=this (L:=[(9,0),(10,0),(9,2),(9,0)]) (i:=n) (fun q hq=>by revert q;decide) hp;subst this;cases hp;cases h
              · split at hp
                · have:=this (i:=n) (fun q hq=>by revert q;decide) hp;subst this;cases hp;cases h
                · cases hp
          obtain⟨rfl,hr⟩:=key;have hs:eW 0 l=cZ uN 53 l:=rfl
          rcases nC Ik l with ⟨e,_⟩|⟨n,r,e,_,⟨s,hs1,hl⟩,_⟩
          · rw[<-hs] at e;rw[e] at h0;exact absurd rfl h0
          · rw[<-hs] at e;rw[e] at hr;have hr:r=2:=by have:(r:Int)=2:=hr;omega
            subst hr;have hs2:s=pN.getD 2 []:=by rw[List.getD_eq_getElem?_getD,hs1];rfl
            rw[hs2,QI] at hl;obtain⟨c,rr,hw',hc,hr⟩:=Ii hl;rw[e] at hword ⊢;simp only[Int.toNat_natCast] at hword ⊢;unfold cY;rw[hword,hw'];dsimp only;rw[hc,hr];rfl
      · cases h
theorem Ka {l:By}{m:Int}(h:oL l m=5):tX (l.take (dO l m))=true:=by
  unfold oL at h;split at h
  · cases h
  · rename_i h0;split at h
    · cases h
    · have hlen:dO l m=(eW m l).1.toNat:=by unfold dO;rw[if_neg h0]
      rw[hlen];unfold nF at h;split at h
      · rename_i p hp;unfold iK at hp;split at hp
        · cases hp
        · rename_i hn
          have key:m=0/\(eW m l).2=3:=by
            unfold qR at hp;generalize (eW m l).2=n at *;obtain⟨n,rfl⟩:=Int.eq_ofNat_of_zero_le (Int.not_lt.1 hn);simp only[Int.toNat_natCast] at hp
            have:∀{L:List (Int×Int)}{i:Nat},(∀q∈L.zipIdx,q.1.1=5->q.2=3)->L[i]? =some p->i=3:=fun {L i} hL hi=>by
              have:=hL (p,i) (by rw[List.mem_zipIdx_iff_getElem?];exact hi) h;exact this
            split at hp
            · rename_i hm;have:=this (by decide) hp;exact⟨hm,by omega⟩
            · split at hp
              · have:=this (i:=n) (fun q hq=>by revert q;decide) hp;subst this;cases hp;cases h
              · split at hp
                · have:=this (i:=n) (fun q hq=>by revert q;decide) hp;subst this;cases hp;cases h
                · cases hp
          obtain⟨rfl,hr⟩:=key;have hs:eW 0 l=cZ uN 53 l:=rfl
          rcases nC Ik l with ⟨e,_⟩|⟨n,r,e,_,⟨s,hs1,hl⟩,_⟩
          · rw[<-hs] at e;rw[e] at h0;exact absurd rfl h0
          · rw[<-hs] at e;rw[e] at hr;have hr:r=3:=by have:(r:Int)=3:=hr;omega
            subst hr;have hs2:s=pN.getD 3 []:=by rw[List.getD_eq_getElem?_getD,hs1];rfl
            rw[hs2,QH] at hl;rw[e];simp only[Int.toNat_natCast];exact JW hl
      · cases h
end
end Go.Proofs.YtdgckfkoihcmjaaGreatDoor
namespace Go.Proofs.YtdgckfkoihcmjaaGreatDoor
open Go
section
variable {W:By->Bool}
def OS (W:By->Bool) (a:Nat) (u:Un):Prop:=(u.1=3->cY W u.2.1=true)/\(u.1=5->tX u.2.1=true)/\(u.1=9->u.2.1.length<=a)
theorem OS.le {a b:Nat}{u:Un}(h:OS W a u) (hab:a<=b):OS W b u:=⟨h.1,h.2.1,fun q=>Nat.le_trans (h.2.2 q) hab⟩
def A7 (W:By->Bool) (a:Nat) (out:List Un) (op:Bool):Prop:=(∀u∈out,OS W a u)/\(op=true->∃pre u,out=pre++[u]/\u.1=9)/\out.length<=500
theorem CO {a n:Nat}{x:By}{out:List Un}(h:A7 W a out true) (hx:x.length<=n):A7 W (a+n) (iU x out) true:=by
  obtain⟨h1,h2,h3⟩:=h;obtain⟨pre,u,rfl,hu⟩:=h2 rfl;rw[sK];refine⟨fun v hv=>?_,fun _=>⟨_,_,rfl,hu⟩,by simpa using h3⟩
  rcases List.mem_append.1 hv with hv|hv
  · exact(h1 v (by simp[hv])).le (Nat.le_add_right _ _)
  · simp only[List.mem_singleton] at hv;subst hv;have hk:=(h1 u (by simp)).2.2 hu;exact⟨(fun q=>by rw[hu] at q;cases q),(fun q=>by rw[hu] at q;cases q),fun _=>by rw[List.length_append];omega⟩
def uA (W:By->Bool) (s:By):Prop:=∀i n,cY aW ((s.drop i).take n)=true->cY W ((s.drop i).take n)=true
theorem yC {W:By->Bool}(s:By) (hW:uA W s):∀(n:Nat) (l:By) (a:Nat) (st:uB) (out:List Un) (op:Bool),s.drop a=l->a<=s.length->A7 W a out op->∀out' op',j9 s (iN n l a st).1 out op= .go out' op'->A7 W s.length out' op'
  | 0,l,a,st,out,op,_,ha,hi,out',op',h=>by
    rw[iN] at h;cases h;exact⟨fun u hu=>(hi.1 u hu).le ha,hi.2⟩
  |n+1,l,a,st,out,op,hl,ha,hi,out',op',h=>by
    rw[iN] at h;split at h
    · cases h;exact⟨fun u hu=>(hi.1 u hu).le ha,hi.2⟩
    · rename_i h0;have hlen:=nD h0 st.1;have hll:l.length=s.length-a:=by rw[<-hl,List.length_drop]
      have ht:cz s ((oL l st.1,(a:Int),((a+dO l st.1:Nat):Int)):Tk)=l.take (dO l st.1):=by
        unfold cz;simp only[Int.toNat_natCast];rw[hl,show a+dO l st.1-a=dO l st.1 by omega]
      have htl:(l.take (dO l st.1)).length<=dO l st.1:=by rw[List.length_take];omega
      have hd:s.drop (a+dO l st.1)=l.drop (dO l st.1):=by rw[<-List.drop_drop,hl]
      have more:A7 W (a+dO l st.1) out false->True:=fun _=>trivial
      dsimp only at h;rw[j9] at h;have up:∀{o},A7 W a out o->A7 W (a+dO l st.1) out o:=fun q=>⟨fun u hu=>(q.1 u hu).le (Nat.le_add_right _ _),q.2⟩
      have go:∀{o:List Un}{p:Bool},A7 W (a+dO l st.1) o p->j9 s (iN n (l.drop (dO l st.1)) (a+dO l st.1) (pO l st)).1 o p= .go out' op'->A7 W s.length out' op':=fun {o p} q k =>
        yC s hW n _ _ _ o p hd (by omega) q _ _ k
      unfold js at h;rw[ht] at h;dsimp only at h;split at h
      · cases h
      · rename_i o1 p1 hq;split at hq
        · cases hq
        · split at hq
          · rename_i hop;subst hop;split at hq
            · cases hq;exact go ⟨(up hi).1,(fun q=>by cases q),hi.2.2⟩ h
            · split at hq
              · cases hq;exact go (CO hi (by simp only[List.length_singleton];omega)) h
              · cases hq;exact go (CO hi htl) h
          · split at hq
            · cases hq;exact go ⟨(up hi).1,(fun q=>by cases q),hi.2.2⟩ h
            · split at hq
              · cases hq
              · rename_i h500;cases hq;refine go ⟨fun u hu=>?_,fun q=>⟨_,_,rfl,of_decide_eq_true q⟩,by have:=hi.2.2;rw[List.length_append];simp only[List.length_cons,List.length_nil];omega⟩ h
                rcases List.mem_append.1 hu with hu|hu
                · exact(up hi).1 u hu
                · simp only[List.mem_singleton] at hu;subst hu;refine⟨fun q=>?_,fun q=>?_,fun q=>?_⟩
                  · have q:oL l st.1=3:=q;rw[if_neg (by rw[q];decide),<-hl];exact hW a _ (by rw[hl];exact Ga q)
                  · have q:oL l st.1=5:=q;rw[if_neg (by rw[q];decide)];exact Ka q
                  · have q:oL l st.1=9:=q;rw[if_pos q];exact Nat.zero_le _
theorem lY {W:By->Bool}{e:Int}:∀(n:Nat) (l:List Tr) (s:PS) (K:List Tr) (F:PS),dG e n l s=some (K,F)->F.bI=false->Aq W s->s.len<=500->(∀x∈l,V W x)->∀x∈K,V W x
  | 0,_,_,_,_,h,_,_,_,_=>by cases h
  |n+1,l,s,K,F,h,hg,hs,hl,hv=>by
    rw[dG] at h;split at h
    · cases h;exact hv
    · cases h1:pM e n .stmt s with
      |none=>rw[h1] at h;cases h
      |some p =>
        obtain⟨t,s1⟩:=p;rw[h1] at h;simp only[Option.bind_some] at h
        rcases h2:bE 6 [[59]] s1 with ⟨o,s2⟩
        rw[h2] at h;have l1:=iz h1
        have l2:s2.len<=s1.len:=by
          cases o with
          |some x=>have:=ct h2;omega
          |none=>have:=aE h2;rw[this];exact Nat.le_refl _
        have pg:∀{n l s K F},dG e n l s=some (K,F)->F.bI=false->s.bI=false:=fun {n l s K F} h g=>by
          cases s with
          |ok r=>rfl
          |bad m =>
            cases n with
            |zero=>cases h
            |succ n=>rw[dG,if_pos (show (PS.bad m).len=0 from rfl)] at h;cases h;cases g
        have good:s2.bI=false->Aq W s2/\∀x∈l++[t],V W x:=fun g=>by
          have q:=HR e n _ _ _ _ h1 (aL h2 g) hs hl;refine⟨dP h2 q.2,fun x hx=>?_⟩
          rcases List.mem_append.1 hx with hx|hx
          · exact hv x hx
          · simp at hx;rw[hx];exact q.1
        cases o with
        |some x =>
          simp only at h;have g:=good (pg h hg);exact lY n _ _ _ _ h hg g.1 (by omega) g.2
        |none =>
          simp only at h;split at h
          · have g:=good (pg h hg);exact lY n _ _ _ _ h hg g.1 (by omega) g.2
          · have:=pg h hg;rw[cV] at this;cases this
theorem qG {s:By}{m:Int}{k:List Tr}{a e:Int}(hW:uA W s) (hs:s.length<=16384) (h:cU s (fM s).1 m k a e):∀x∈k,V W x:=by
  cases h with
  |units _=>intro x hx;cases hx
  |bad _ _=>intro x hx;cases hx
  |ok h h2 =>
    rename_i u n r;unfold ie at h;split at h
    · split at h
      · cases h
      · rename_i q;split at h
        · cases h
        · cases h;have inv:=yC s hW s.length s 0 (0,0) [] false rfl (Nat.zero_le _) ⟨fun u hu=>by (cases hu),(fun q=>by cases q),Nat.zero_le _⟩ _ _ q;exact lY _ _ _ _ _ h2 rfl (fun u hu=>⟨(inv.1 u hu).1,(inv.1 u hu).2.1,fun q=>Nat.le_trans ((inv.1 u hu).2.2 q) hs⟩) inv.2.2 (fun x hx=>by cases hx)
    · cases h
end
end Go.Proofs.YtdgckfkoihcmjaaGreatDoor
namespace Go.Proofs.YtdgckfkoihcmjaaGreatDoor
open Go Go.Lw
section
variable (W:By->Bool) (U:By->Prop)
mutual
inductive RV:Vl->Vl->Prop
  |mk {k n:Int}{s f:By}{b:Tr}{e e':List Bd}:(bq aW b=true->V W b)->RE e e'->RV (.mk k n s f b e) (.mk k n s f b e')
inductive RE:List Bd->List Bd->Prop
  |nil:RE [] []
  |cons {t:By}{v w:Vl}{e f:List Bd}:RV v w->RE e f->RE ((t,v)::e) ((t,w)::f)
  |skip {t:By}{w:Vl}{e f:List Bd}:U t->RE e f->RE e ((t,w)::f)
end
end
variable {W:By->Bool}{U:By->Prop}
theorem RV.get {v w:Vl}(h:RV W U v w):v.kind=w.kind/\v.num=w.num/\v.gr=w.gr/\v.self=w.self/\v.body=w.body/\(bq aW v.body=true->V W v.body)/\RE W U v.env w.env:=by
  cases h with|mk hb he=>exact⟨rfl,rfl,rfl,rfl,rfl,hb,he⟩
theorem B1 {p:Prop}(h:bq aW bG=true):p:=absurd h (by decide +kernel)
theorem RV.flat (k n:Int) (s f:By):RV W U (.mk k n s f bG []) (.mk k n s f bG []):=.mk (fun h=>B1 h) .nil
theorem RE.snoc {e f:List Bd}(h:RE W U e f){v w:Vl}(hv:RV W U v w) (t:By):RE W U (e++[(t,v)]) (f++[(t,w)]):=by
  revert h
  induction f generalizing e with
  |nil=>intro h;cases h;exact .cons hv .nil
  |cons p f ih =>
    intro h;cases h with
    |cons h1 h2=>exact .cons h1 (ih h2)
    |skip h1 h2=>exact .skip h1 (ih h2)
theorem RV.own {v w:Vl}(h:RV W U v w) (t:By):RV W U (jg v t) (jg w t):=by
  obtain⟨h1,h2,h3,h4,h5,h6,h7⟩:=h.get;unfold jg;rw[<-h1,<-h4];split
  · rw[<-h2,<-h3,<-h5];exact .mk h6 h7
  · exact h
theorem RE.find {t:By}(ht:¬U t):∀{f e:List Bd},RE W U e f->(dF t e).2=(dF t f).2/\RV W U (dF t e).1 (dF t f).1
  | [],e,h=>by cases h;exact⟨rfl,.flat _ _ _ _⟩
  |p::f,e,h=>by
    cases h with
    |cons h1 h2 =>
      have ih:=RE.find ht h2;rw[dF,dF,<-ih.1];split
      · exact ih
      · dsimp only;split
        · exact⟨rfl,h1⟩
        · exact⟨rfl,.flat _ _ _ _⟩
    |skip h1 h2 =>
      have ih:=RE.find ht h2;rw[dF]
      have e4:∀l:List Bd,(dF t l).2≠0->dF t l=(gY,4):=by
        intro l
        induction l with
        |nil=>intro _;rfl
        |cons p l ih =>
          intro h;rw[dF] at h ⊢;split at h
          · rename_i q;exact absurd q h
          · rename_i q;rw[if_neg q];split at h
            · exact absurd rfl h
            · rename_i hn;rw[if_neg hn]
      split
      · exact ih
      · rename_i q;rw[if_neg (by intro k;exact ht (by rw[<-k];exact h1)),e4 e (by rw[ih.1];exact q)];exact⟨rfl,.flat _ _ _ _⟩
theorem RV.bin {a b a' b':Vl}(ha:RV W U a a') (hb:RV W U b b') (op:By):qd op a b=qd op a' b':=by
  obtain⟨h1,h2,h3,_⟩:=ha.get;obtain⟨k1,k2,k3,_⟩:=hb.get;unfold qd;rw[h1,h2,h3,k1,k2,k3]
theorem RV.O8 {a a':Vl}(ha:RV W U a a') (op:By):zO op a=zO op a':=by
  obtain⟨h1,h2,h3,_⟩:=ha.get;unfold zO;rw[h1,h2]
def y8 (v:Vl):Prop:=v.body=bG/\v.env=[]
theorem RV.refl {v:Vl}(h:y8 v):RV W U v v:=by
  obtain⟨k,n,s,f,b,e⟩:=v;obtain⟨rfl,rfl⟩:=(show b=bG/\e=[] from h)
  exact .flat _ _ _ _
theorem zj (op:By) (w:Int):y8 (gZ op w).1:=by
  unfold gZ;repeat' split
  all_goals exact⟨rfl,rfl⟩
theorem Dx (op:By) (x y:Int):y8 (cT op x y).1:=by
  unfold cT;simp only;repeat' split
  all_goals first|exact⟨rfl,rfl⟩|exact zj _ _
theorem G9 (op:By) (v:Vl):y8 (zO op v).1:=by
  unfold zO;repeat' split
  all_goals exact⟨rfl,rfl⟩
theorem GC (op:By) (x y:Vl):y8 (qd op x y).1:=by
  unfold qd;repeat' split
  all_goals first|exact⟨rfl,rfl⟩|exact zj _ _|exact Dx _ _ _
def xG (W:By->Bool) (U:By->Prop) (r r':Out):Prop:=r.2=r'.2/\RV W U r.1 r'.1
theorem xG.no (e:Int) (m:Nat):xG W U (gY,e,m) (gY,e,m):=⟨rfl,.flat _ _ _ _⟩
theorem xG.same {v:Vl}(h:y8 v) (e:Int) (m:Nat):xG W U (v,e,m) (v,e,m):=⟨rfl,.refl h⟩
def Cl (W:By->Bool) (n:Tr):Prop:=V W n\/n=bG
def LD (W:By->Bool) (U:By->Prop) (ev:Ev):Prop:=∀m e f n,Cl W n->RE W U e f->xG W U (ev m e n) (ev m f n)
theorem lU {k:Int}:∀{l:List Tr}{i:Nat},gq W k i l=true->∀x∈l,V W x
  | [],_,_,x,hx=>by cases hx
  |y::l,i,h,x,hx=>by
    have h:((bq W y && gJ k i y) && gq W k (i+1) l)=true:=h;rw[Bool.and_eq_true,Bool.and_eq_true] at h
    rcases List.mem_cons.1 hx with rfl|hx
    · exact h.1.1
    · exact lU h.2 x hx
theorem Cl.jW {k:Int}{t:By}{l:List Tr}(h:Cl W (.mk k t l)) (i:Nat):Cl W (l.getD i bG):=by
  rw[List.getD_eq_getElem?_getD];cases hi:l[i]? with
  |none=>exact .inr rfl
  |some x =>
    rcases h with h|h
    · exact .inl (lU (yq.1 h).2 x (List.mem_of_getElem? hi))
    · cases h;cases hi
theorem xG.cases {r r':Out}(h:xG W U r r'):∃v w e m,r=(v,e,m)/\r'=(w,e,m)/\RV W U v w:=by
  obtain⟨v,e,m⟩:=r;obtain⟨w,e',m'⟩:=r';obtain⟨h1,h2⟩:=h;cases h1;exact⟨v,w,e,m,rfl,rfl,h2⟩
theorem cq {c:Prop}[Decidable c]{a b a' b':Out}(h1:c->xG W U a a') (h2:¬c->xG W U b b'):xG W U (if c then a else b) (if c then a' else b'):=by
  by_cases h:c
  · rw[if_pos h,if_pos h];exact h1 h
  · rw[if_neg h,if_neg h];exact h2 h
theorem sx {ev:Ev}(hev:LD W U ev):∀(l:List Tr) (m:Nat) (e f:List Bd) (v w:Vl),(∀x∈l,Cl W x)->RE W U e f->RV W U v w->xG W U (eY ev m e l v) (eY ev m f l w)
  | [],m,e,f,v,w,_,_,hv=>⟨rfl,hv⟩
  |n::r,m,e,f,v,w,hl,he,hv=>by
    obtain⟨a,b,x,m',h1,h2,h3⟩:=(hev m e f n (hl n (by simp)) he).cases;rw[eY,eY,h1,h2];dsimp only;have hr:∀x∈r,Cl W x:=fun x hx=>hl x (by simp[hx])
    split
    · exact .no _ _
    · split
      · exact sx hev r m' _ _ _ _ hr (he.snoc (h3.own _) _) (h3.own _)
      · exact sx hev r m' _ _ _ _ hr he h3
theorem Cx (hU:∀t,cY W t=true->¬U t):∀d,LD W U (aI d)
  | 0=>fun m e f n _ _=>.no _ _
  |d+1=>fun m e f n hn he=>by
    have hev:=Cx hU d;obtain⟨k,t,l⟩:=n;cases m with
    |zero=>rw[aI,aI];exact .no _ _
    |succ m =>
      have jW:=hn.jW;obtain⟨a,b,x,m1,h1,h2,h3⟩:=(hev m e f _ (jW 0) he).cases;rw[aI,aI]
      refine cq (fun _=>?_) fun _=>cq (fun _=>cq (fun _=>.no _ _) fun _=>.same ⟨rfl,rfl⟩ _ _) fun _=>cq (fun _=>.same ⟨rfl,rfl⟩ _ _) fun _=>cq (fun k3=>?_) fun _=>cq (fun _=>?_) fun _=>cq (fun _=>?_) fun _ =>
        cq (fun _=>?_) fun _=>?_
      · split
        · exact .same ⟨rfl,rfl⟩ _ _
        · exact .no _ _
      · have ht:¬U t:=by
          rcases hn with hn|hn
          · have hs:=(yq.1 hn).1;rw[k3] at hs;unfold eH at hs;simp only[Bool.and_eq_true] at hs;have:dZ W 3 t=cY W t:=rfl;rw[this] at hs;exact hU t hs.2.2.2.2
          · cases hn;cases k3
        have:=RE.find ht he;exact⟨by dsimp only;rw[this.1],this.2⟩
      · exact⟨rfl,.mk (fun hb=>by
          rcases jW 0 with q|q
          · exact q
          · rw[q] at hb;exact B1 hb) he⟩
      · refine sx hev l m e f gY gY (fun x hx=>?_) he (.flat _ _ _ _)
        rcases hn with hn|hn
        · exact .inl (lU (yq.1 hn).2 x hx)
        · cases hn;cases hx
      · unfold DH;rw[h1,h2];exact cq (fun _=>⟨rfl,h3⟩) fun _=>hev _ _ _ _ (jW 1) (he.snoc (h3.own _) _)
      · obtain⟨q1,q2,q3,q4,q5,q6,q7⟩:=h3.get;refine cq (fun _=>?_) fun _=>cq (fun _=>?_) fun _=>cq (fun _=>?_) fun _=>?_
        · unfold Mf;rw[h1,h2];dsimp only;rw[<-q1,<-q2];exact cq (fun _=>.no _ _) fun _=>cq (fun _=>.no _ _) fun _=>cq (fun _=>hev _ _ _ _ (jW 1) he) fun _=>hev _ _ _ _ (jW 2) he
        · unfold wM;rw[h1,h2];refine cq (fun _=>.no _ _) fun _=>?_
          obtain⟨a2,b2,x2,m2,j1,j2,j3⟩:=(hev m1 e f _ (jW 1) he).cases;rw[j1,j2];dsimp only;rw[<-q1,<-q3,<-q4,<-q5];refine cq (fun _=>.no _ _) fun _=>cq (fun _=>.no _ _) fun _=>cq (fun _=>.no _ _) fun hv=>?_
          have hv:bq aW a.body=true:=by simpa using hv
          refine hev _ _ _ _ (.inl (q6 hv)) (RE.snoc ?_ j3 _);split
          · exact q7.snoc h3 _
          · exact q7
        · unfold Fu;rw[h1,h2];refine cq (fun _=>.no _ _) fun _=>?_
          rw[h3.O8 t];exact .same (G9 _ _) _ _
        · unfold Dd;rw[h1,h2];refine cq (fun _=>.no _ _) fun _=>?_
          obtain⟨a2,b2,x2,m2,j1,j2,j3⟩:=(hev m1 e f _ (jW 1) he).cases;rw[j1,j2];dsimp only;rw[<-q1,<-q2,<-j3.get.1];refine cq (fun _=>cq (fun _=>.no _ _) fun _=>cq (fun _=>⟨rfl,h3⟩) fun _=>cq (fun _=>.no _ _) fun _=>⟨rfl,j3⟩) fun _=>cq (fun _=>.no _ _) fun _=>?_
          rw[h3.bin j3 t];exact .same (GC _ _ _) _ _
end Go.Proofs.YtdgckfkoihcmjaaGreatDoor
namespace Go.Proofs.YtdgckfkoihcmjaaGreatDoor
open Go.Proofs.Tryz
open Go Go.Lw
set_option maxRecDepth 20000 set_option maxHeartbeats 4000000
section
variable {h:ai}{b:Nat}{s:By}
theorem Fo:(Tryz.prog.info? 5).map (·.size)=some 1:=by kernel_rfl
theorem DP {p:Value}(hk:aD h b 200 [p,.slice none 0 0]) (n:Nat) (hn:n<=1000000000) :
 au Tryz.prog 172 #[.pointer (some ⟨b,0,none⟩),.int .i64 (n:Nat)] h (bL fun _ h'=>(∃v,aD h' b 200 [p,v]/\Eh h' (b+1) 5 v [])/\Ext (fun x=>x=b) h h'/\h.size<=h'.size):=by
 have hkl:=hk.lt;have hc1:=hk.cell (i:=1) rfl;refine b9 ?_;refine af ?_;refine lO 16 (fun x=>Array.size h<=x) (fun i=>Nat.blt i 16) ?_;refine aG 0 ?_;refine aG 1 ?_;refine aG 2 ?_;refine bJ 3 rfl (fun h' e=>aA rfl (e.cell (show ¬Array.size h<=b by omega) hc1)) ?_;refine bJ 4 rfl (fun h' e=>az.CJ underlying106 rfl) ?_;refine bJ 5 rfl (fun h' e=>az.Lh rfl rfl ⟨by omega,by omega⟩) ?_;refine aG 6 ?_;refine aG 7 ?_;refine aG 9 ?_;refine aG 10 ?_;refine aG 11 ?_;refine bJ 12 rfl (fun h' e=>aA rfl (e.cell (show ¬Array.size h<=b by omega) hc1)) ?_;refine aG 13 ?_;refine dR 8 rfl (aQ.makeNoZero (ps:=_) (t:=106) func183 (by decide +kernel) (by kernel_rfl) (by kernel_rfl) rfl underlying106 rfl n (by omega) hn) ?_;rintro _ h1 ⟨cs,rfl,hh1,hn1,hn2⟩;refine⟨fun _=>by rw[hh1];exact Ext.push _ _ _,?_⟩;refine bJ 14 rfl (fun h' e=>az.qw underlying106 H.OP rfl rfl 0 rfl (Nat.zero_le _)) ?_;refine aG 15 ?_;refine iO ?_;refine af ?_;have e1:aj h h1:=by rw[hh1];exact Ext.push _ _ _
 have k1:=hk.ah e1
 have ho:Eh h1 (b+1) 5 (.slice (cO (some ⟨h.size,0,none⟩) 0 1 cs.size) 0 cs.size) []:=by
  have hp:cO (some ⟨h.size,0,none⟩) 0 1 cs.size=some ⟨h.size,0,none⟩:=by
   unfold cO;split
   · rfl
   · rfl
  rw[hp];exact⟨rfl,.inr ⟨h.size,cs.size,cs,rfl,hkl,by rw[hh1];simp,Nat.zero_le _,hn2,by simp,by simp⟩⟩
 refine xp rfl (aA rfl (k1.cell (i:=1) rfl)) ?_;refine xp rfl (az.Jd underlying106 Fo rfl rfl rfl) ?_;refine af ?_;refine aN rfl (mG rfl rfl k1) ?_;rintro _ h2 ⟨rfl,k2,x2,z2⟩;refine af ?_;refine GU ?_;have z1:=e1.size;refine⟨_,rfl,⟨_,k2,aB.ext x2 ho (fun g hg=>?_)⟩,?_,by omega⟩
 · have:=(aB.lt ho hg).1;omega
 · exact(e1.mono (fun _ _ k=>k.elim)).trans x2
theorem Em (hk:aD h b 200 [.pointer none,.slice none 0 0]) (n:Nat) (hn:n<=1000000000) :
 au Tryz.prog 155 #[.pointer (some ⟨b,0,none⟩),.int .i64 (n:Nat)] h (bL fun _ h'=>kV h' b 200 5 []/\Ext (fun x=>x=b) h h'):=by
 refine b9 ?_;refine af ?_;refine xo rfl (aF rfl (iT hk (.inl rfl))) ?_;rintro _ h1 ⟨k1,x1,z1⟩;refine dH ?_
 iterate 2 refine bl ?_
 refine cW ?_
 iterate 2 refine bz ?_
 refine dH ?_;refine gm rfl (by simp) ?_
 iterate 2 refine bl ?_
 refine sQ (fun _=>False) (fun i=>Nat.blt i 13) (sz:=13) (listed:= #[false,false,false,false,false,false,false,false,false,false,false,false,false]) func155 H.mixed rfl rfl rfl ?_;refine aG 0 ?_;refine aG 1 ?_;refine aG 2 ?_;refine bJ 3 rfl (fun h' e=>aA rfl (e.cell (fun q=>q) (k1.cell (i:=1) rfl))) ?_;refine bJ 4 rfl (fun h' e=>az.CJ underlying106 rfl) ?_;refine aG 5 ?_;refine aG 6 ?_;refine aG 7 ?_;refine bJ 8 rfl (fun h' e=>aA rfl (e.cell (fun q=>q) (k1.cell (i:=1) rfl))) ?_;refine aG 9 ?_;refine aG 10 ?_;refine aG 11 ?_;refine aG 12 ?_;refine iO ?_;refine aX (fun hlt=>?_) (fun hlt=>?_)
 · refine af ?_;refine xo rfl (aF rfl (DP k1 n hn)) ?_;rintro _ h2 ⟨⟨v,k2,ho⟩,x2,z2⟩;refine af ?_;refine GU ?_;exact⟨_,rfl,⟨_,_,k2,.inr rfl,ho⟩,x1.trans x2⟩
 · refine af ?_;refine GU ?_;exact⟨_,rfl,⟨_,_,k1,.inr rfl,cv.nil _ _ _ _⟩,x1⟩
def kZ (ws:List By):Nat:=(ws.map List.length).sum
theorem Fx {ws:List By}{i:Nat}{w:By}(h:ws[i]? =some w):kZ (ws.take (i+1))=kZ (ws.take i)+w.length:=by
 unfold kZ;rw[List.take_add_one,h];simp
theorem mg (x:By):∀l:List By,gU (x::l)=x++l.flatMap fun y=>(59:UInt8)::32::y
 | []=>by simp[gU]
 |y::l=>by rw[gU,mg y l,List.flatMap_cons];rfl
theorem yY:∀ws:List By,(gU ws).length=kZ ws+2*(ws.length-1)
 | []=>rfl
 |x::xs=>by
  have:∀l:List By,(l.flatMap fun y=>(59:UInt8)::32::y).length=kZ l+2*l.length:=by
   intro l
   induction l with
   |nil=>rfl
   |cons y l ih=>rw[List.flatMap_cons,List.length_append,ih];simp[kZ];omega
  rw[mg,List.length_append,this];simp[kZ];omega
theorem zQ (ws:List By) (i:Nat):kZ (ws.take i)<=kZ ws:=by
 have:kZ (ws.take i++ws.drop i)=kZ (ws.take i)+kZ (ws.drop i):=by unfold kZ;rw[List.map_append,List.sum_append]
 rw[List.take_append_drop] at this;omega
theorem El {O:Nat->Prop}{v:Value}{ws:List By}(hv:aZ oz h O v ws) (hb:(gU ws).length<=100000000) :
 au Tryz.prog 122 #[v,.string (bs [59,32])] h (bL fun r h'=>r= .string (bs (gU ws))/\aj h h'):=by
 obtain⟨oa,n,c,rfl,hsl⟩:=hv.open;have hn:=hsl.len;subst hn;have hjl:=yY ws;have h32:(bs [59,32]).size=2:=rfl;refine b9 ?_;refine af ?_;refine aX (fun h0=>?_) (fun h0=>?_)
 · have:ws=[]:=List.eq_nil_of_length_eq_zero (by omega);subst this;refine af ?_;refine bw ?_;exact⟨_,rfl,rfl,Ext.refl _ _⟩
 · refine af ?_;refine aX (fun h1=>?_) (fun h1=>?_)
   · obtain⟨x,rfl⟩:∃x,ws=[x]:=List.length_eq_one_iff.1 (by omega);obtain⟨b,o,y,ha,_,hy,hc⟩:=hsl.at (show 0 < [x].length from Nat.one_pos);cases hy;refine bl ?_;refine cW ?_;refine bz ?_;refine xp rfl (cM rfl rfl 0 rfl ha Nat.one_pos) ?_;refine xp rfl (aA rfl hc) ?_;refine af ?_;refine bw ?_;exact⟨_,rfl,rfl,Ext.refl _ _⟩
   · refine af ?_;refine fH rfl (by decide) ?_
     have hq:((9223372036854775807:Int).tdiv ((ws.length:Int)-1))>=3:=by
      rw[Int.tdiv_eq_ediv_of_nonneg (by decide)];exact(Int.le_ediv_iff_mul_le (by omega)).2 (by omega)
     have hq2:((9223372036854775807:Int).tdiv ((ws.length:Int)-1))<=9223372036854775807:=by
      rw[Int.tdiv_eq_ediv_of_nonneg (by decide)];exact Int.ediv_le_self _ (by decide)
     have hq3:IntKind.i64.wrap ((9223372036854775807:Int).tdiv ((ws.length:Int)-1))=((9223372036854775807:Int).tdiv ((ws.length:Int)-1)):=wrap_i64 ⟨by omega,by omega⟩
     iterate 2 refine bl ?_
     refine cW ?_
     iterate 5 refine bz ?_
     refine xp rfl (oF rfl rfl (by omega)) ?_;refine af ?_;refine gm rfl (by rw[hq3];simp;omega) ?_;refine bl ?_;refine cW ?_
     iterate 6 refine bz ?_
     refine xp rfl (az.Lh rfl rfl ⟨by rw[h32];omega,by rw[h32];omega⟩) ?_;refine xp rfl (az.Fe rfl rfl ⟨by rw[h32];omega,by rw[h32];omega⟩) ?_;refine af ?_;rw[show (0:Int)+((bs [59,32]).size:Int)*((ws.length:Int)-1)=((2*(ws.length-1)+kZ (ws.take 0):Nat):Int) by rw[h32,List.take_zero];show _=((2*(ws.length-1)+0:Nat):Int);omega];refine Ba (σ:=Nat) (fun i=>[(0,.slice oa ws.length c),(1,.string (bs [59,32])),(5,.int .i64 ((2*(ws.length-1)+kZ (ws.take i):Nat):Int)),(39,.slice oa ws.length c),(40,.int .i64 (ws.length:Nat)),(41,.int .i64 (i:Nat))]) (fun i h'=>i<=ws.length/\h'=h) (fun i=>ws.length-i) (0) rfl ⟨rfl,rfl,rfl,rfl,rfl,rfl,trivial⟩ ⟨Nat.zero_le _,rfl⟩ ?_;rintro i g ⟨hi,hg⟩ ih;subst hg;have hsle:=zQ ws (i+1);refine QA func122 1 [0,1,5,39,40,41,42] rfl ?_;refine n7 rfl ?_;refine LC rfl rfl (fun hlt=>?_) (fun hlt=>?_)
     · have hil:i<ws.length:=by omega
       obtain⟨w,hw⟩:∃w,ws[i]? =some w:=⟨_,List.getElem?_eq_getElem hil⟩
       have hst:=Fx hw;have hwz:=aK w;obtain⟨b,o,y,ha,_,hy,hc⟩:=hsl.at hil;rw[hw] at hy;cases hy;refine xL rfl ?_;refine n7 rfl ?_;refine G.block rfl rfl ?_;refine xr func122 rfl ?_;refine xp rfl (az.mh underlying85 H.Ew rfl rfl i rfl ha (by omega)) ?_;refine xp rfl (ew H.MM rfl hc) ?_;refine MZ 1 [0,1,5,7,39,40,41,42] rfl ?_;refine n7 rfl ?_;refine QB func122 1 rfl ?_;refine xp rfl (az.rZ underlying9 rfl) ?_;refine P8 1 rfl rfl (az.Lb rfl rfl ⟨by omega,by omega⟩) ?_;refine MZ 1 [0,1,5,7,39,40,41,42,49] rfl ?_;refine xM rfl rfl (fun hc=>absurd hc (by simp;omega)) (fun _=>?_);refine xL rfl ?_;refine G.mQ func122 rfl ?_;refine P8 2 rfl rfl (az.rZ underlying9 rfl) ?_;refine xp rfl (az.Fe rfl rfl ⟨by omega,by omega⟩) ?_;refine MZ 1 [0,1,5,7,39,40,41,42,49] rfl ?_;refine G.sy ?_;refine G.mQ func122 rfl ?_;refine xp rfl (az.Fe rfl rfl ⟨by omega,by omega⟩) ?_;refine MZ 1 [0,1,5,7,39,40,41,42,49] rfl ?_;exact ih (i+1) _ _ ⟨rfl,rfl,congrArg (fun x:Int=>some (Value.int .i64 x)) (by rw[hst,hwz];omega),rfl,rfl,rfl,trivial⟩ ⟨by omega,rfl⟩ (by omega)
     · have hie:ws.take i=ws:=List.take_of_length_le (by omega);rw[hie];refine af ?_;refine xo rfl (cH) ?_;rintro _ h1 ⟨rfl,k1,e1,z1⟩;refine af ?_;have k1:aD h1 g.size 200 [.pointer none,.slice none 0 0]:=k1;obtain⟨x,tl,rfl⟩:∃x tl,ws=x::tl:=by cases ws with|nil=>simp at h0|cons x tl=>exact⟨x,tl,rfl⟩
       refine xo rfl (aF rfl (Em k1 _ (by omega))) ?_;rintro _ h2 ⟨hb2,x2⟩;refine af ?_;have e02:=aj.only e1 x2 (Nat.le_refl _);have hxz:=aK x;have hxl:x.length<=kZ (x::tl):=by simp[kZ]
       obtain⟨b,o,y,ha,_,hy,hc⟩:=(hsl.mv (Mv.ah e02)).at (show 0<(x::tl).length by simp);cases hy;refine xp rfl (cM rfl rfl 0 rfl ha (by simp)) ?_;refine xp rfl (aA rfl hc) ?_;refine xo rfl (aF rfl (dI (bs x) hb2 (by rw[hxz];simp only[List.length_nil];omega))) ?_;rintro _ h3 ⟨rfl,hb3,x3⟩;refine af ?_;rw[gj,List.nil_append] at hb3;have e03:=eJ e02 x3 (Nat.le_refl _);have hpart:=hsl.part (i:=1) (j:=(x::tl).length) (by simp) (Nat.le_refl _);rw[List.take_length,List.drop_one,List.tail_cons] at hpart;refine xp rfl (az.zZ underlying85 H.Ew rfl rfl 1 rfl (by simp)) ?_;refine af ?_;refine jd (σ:=Nat) (fun i=>[(65,.int .i64 (i:Nat))]) (fun i h'=>i<=tl.length/\kV h' g.size 200 5 (gU (x::tl.take i))/\aj g h') (fun i=>tl.length-i) (0) ⟨Nat.zero_le _,by rw[List.take_zero,gU];exact hb3,e03⟩ rfl ?_;rintro i g4 ⟨hi,hb4,e04⟩ ih;have hjt:=yY (x::tl.take i);have hst:=zQ (x::tl) (i+1);rw[List.take_succ_cons] at hst;simp only[List.length_cons,List.length_take] at hjt;simp only[List.length_cons] at hb hjl;have hlc:(x::tl).length-1=tl.length:=rfl;refine af ?_;refine aX (fun hlt4=>?_) (fun hlt4=>?_)
       · have hil:i<tl.length:=by omega
         obtain⟨w,hw⟩:∃w,tl[i]? =some w:=⟨_,List.getElem?_eq_getElem hil⟩
         have hwz:=aK w;have hst2:=zQ (x::tl) (i+2);rw[List.take_succ_cons] at hst2;have htk:tl.take (i+1)=tl.take i++[w]:=by rw[List.take_add_one,hw];rfl
         have hs2:kZ (x::tl.take (i+1))=kZ (x::tl.take i)+w.length:=by rw[htk];simp[kZ];omega
         have hjn:gU (x::tl.take (i+1))=(gU (x::tl.take i)++[59,32])++w:=by rw[htk,mg,mg];simp
         obtain⟨b5,o5,y5,ha5,_,hy5,hc5⟩:=(hpart.mv (Mv.ah e04)).at (show i<(x::tl).length-1 by omega);rw[hw] at hy5;cases hy5
         iterate 4 refine bl ?_
         refine cW ?_;refine xp rfl (cM rfl rfl i rfl ha5) ?_;refine xp rfl (aA rfl hc5) ?_;refine af ?_;refine xo rfl (aF rfl (dI (bs [59,32]) hb4 (by rw[h32];omega))) ?_;rintro _ h5 ⟨rfl,hb5,x5⟩;refine af ?_;rw[gj] at hb5;refine xo rfl (aF rfl (dI (bs w) hb5 (by rw[hwz,List.length_append];simp only[List.length_cons,List.length_nil];omega))) ?_;rintro _ h6 ⟨rfl,hb6,x6⟩;refine af ?_;rw[gj,<-hjn] at hb6;exact ih (i+1) ⟨by omega,hb6,eJ (eJ e04 x5 (Nat.le_refl _)) x6 (Nat.le_refl _)⟩
       · have hie:tl.take i=tl:=List.take_of_length_le (by omega);rw[hie] at hb4;refine af ?_;refine xo rfl (aF rfl (kR hb4 (by omega))) ?_;rintro _ h5 ⟨rfl,x5⟩;refine af ?_;refine bw ?_;exact⟨_,rfl,rfl,eJ e04 x5 (Nat.le_refl _)⟩
abbrev Qh:gN (UInt8×UInt8):=.record 2 (by decide) lH (fun _=>rfl) HU
theorem Mh (k:n8 h):aZ Qh h (fun _=>False) (.slice (some ⟨1,0,none⟩) 6 6) iR :=
 ⟨_,6,6,rfl,rfl,Nat.le_refl _,by decide,fun i x hx=>⟨_,0,lH x,rfl,fun k=>k,fun j v hv=>by
  have:=k (i*2+j) v (iC (enc:=lH) (fun _=>rfl) iR i x j v hx hv);rw[Nat.add_assoc];exact this,rfl⟩⟩
theorem Ai {tb ib:Nat}{i:Nat}(hb:aD h tb 9 [.string (bs s)]) (hi:aD h ib 3 [.int .i64 (i:Nat)]){c:UInt8}(hc:s[i]? =some c) (p:UInt8×UInt8) :
 au Tryz.prog 154 #[.agg (lH p).toArray,ptr tb,ptr ib] h (bL fun r h'=>r= .bool (p.2 ==c)/\aj h h'):=by
 refine b9 ?_;refine af ?_;refine xo rfl (kH) ?_;rintro _ h1 ⟨rfl,k1,e1,z1⟩;have k1:aD h1 h.size 214 (lH p):=k1;refine af ?_;refine cG rfl (aA rfl (k1.cell (i:=1) rfl)) ?_;refine cG rfl (aA rfl ((hb.ah e1).cell (i:=0) rfl)) ?_;refine cG rfl (aA rfl ((hi.ah e1).cell (i:=0) rfl)) ?_;refine cG rfl (Bc rfl rfl i rfl (ic hc)) ?_;refine af ?_;refine bw ?_;exact⟨_,rfl,by show Value.bool _=_;rw[K5];rfl,e1⟩
theorem AK {gf:FuncId}{caps:List Value}(hf:ME Tryz.prog gf){v:Value}{ts:List (UInt8×UInt8)}(hv:aZ Qh h (fun _=>False) v ts) (p:UInt8×UInt8->Bool)
 (hp:∀t g,aj h g->au Tryz.prog gf ([Value.agg (lH t).toArray]++caps).toArray g (bL fun r h'=>r= .bool (p t)/\aj g h')) :
 au Tryz.prog 153 #[v,.func (.func gf) #[] caps.toArray] h (bL fun r h'=>(∃i:Int,r= .int .i64 i/\((i<0/\ts.find? p=none)\/∃(k:Nat) (t:UInt8×UInt8),i=k/\ts[k]? =some t/\ts.find? p=some t))/\aj h h'):=by
 obtain⟨va,vn,vc,rfl,hvs⟩:=hv.open;have hvl:ts.length=vn:=hvs.len;subst hvl;have hvm:=hvs.cap;have hvc:=hvs.le;simp only[maxLen] at hvm;refine b9 ?_;refine af ?_;refine jd (σ:=Nat) (fun i=>[(8,.int .i64 (i:Nat))]) (fun i h'=>aj h h'/\i<=ts.length/\∀a∈ts.take i,p a=false) (fun i=>ts.length-i) (0) ⟨Ext.refl _ _,Nat.zero_le _,by simp⟩ rfl ?_;rintro i g ⟨eg,hi,hin⟩ ih;refine af ?_;refine aX (fun hlt=>?_) (fun hlt=>?_)
 · have hil:i<ts.length:=by omega
   have hvg:=hvs.mv (Mv.ah eg);obtain⟨b,o,t,ha,_,ht,hrow⟩:=hvg.xZ hil;have hpt:=hp t g eg
   iterate 4 refine bl ?_
   refine cW ?_
   iterate 2 refine bz ?_
   refine dH ?_;refine bl ?_;refine cW ?_
   iterate 3 refine bz ?_
   refine xp rfl (cM rfl rfl i rfl ha) ?_;refine xp rfl (b7 rfl hrow) ?_;refine xo rfl (aQ.Lq (vs:=[_]) rfl hf rfl (au.JM (hpt))) ?_;rintro _ g1 ⟨rfl,e1⟩;refine af ?_;refine jo (fun hb=>?_) (fun hb=>?_)
   · have hb:p t=true:=hb;refine af ?_;refine bw ?_;exact⟨_,rfl,⟨i,rfl,.inr ⟨i,t,rfl,ht,EV hin ht hb⟩⟩,eg.trans e1⟩
   · have hb:p t=false:=hb;refine af ?_;exact ih (i+1) ⟨eg.trans e1,by omega,fun a ha=>by rw[List.take_add_one,ht,List.mem_append] at ha;exact ha.elim (hin a) (fun q=>by simp at q;rw[q];exact hb)⟩
 · obtain rfl:i=ts.length:=by omega
   refine af ?_;refine bw ?_;exact⟨_,rfl,⟨-1,rfl,.inl ⟨by decide,nK hin rfl⟩⟩,eg⟩
theorem Dv (c:UInt8):(fQ c).length<=2:=by unfold fQ;split<;>simp
theorem yK (s:By):(s.flatMap fQ).length<=2*s.length:=by
 induction s with
 |nil=>simp
 |cons c s ih=>rw[List.flatMap_cons,List.length_append,List.length_cons];have:=Dv c;omega
theorem BS (hg:n8 h) (s:By) (hs:s.length<=100000000):au Tryz.prog 120 #[.string (bs s)] h (bL fun r h'=>r= .string (bs (Ah s))/\aj h h'):=by
 have hbz:=aK s;have hql:=yK s;refine b9 ?_;refine af ?_;refine xo rfl (kH) ?_;rintro _ h1 ⟨rfl,k1,e1,z1⟩;refine af ?_;refine xo rfl (cH) ?_;rintro _ h2 ⟨rfl,k2,e2,z2⟩;have k1:aD h2 h.size 9 [.string (bs s)]:=k1.ah e2;have kb:kV h2 h1.size 200 5 []:=xN k2;refine af ?_;refine xo rfl (aF rfl (fZ 34 kb (by simp))) ?_;rintro _ h3 ⟨kb3,x3⟩;have k13:=k1.ext x3 (show ¬h1.size<=h.size by omega);have e13:aj h h3:=eJ (e1.trans e2) x3 (by omega);rw[List.nil_append] at kb3;refine af ?_;refine xp rfl (aA rfl (k13.cell (i:=0) rfl)) ?_;refine af ?_;refine jd (σ:=Nat) (fun i=>[(9,.int .i64 (i:Nat))]) (fun i g=>i<=s.length/\kV g h1.size 200 5 (34::(s.take i).flatMap fQ)/\aj h g/\aD g h.size 9 [.string (bs s)]/\h2.size<=g.size) (fun i=>s.length-i) (0) ⟨Nat.zero_le _,kb3,e13,k13,x3.size⟩ rfl ?_;rintro i g ⟨hi,kg,eg,k1g,hz⟩ ih
 have htl:((s.take i).flatMap fQ).length<=2*s.length:=by
  have:=yK (s.take i);rw[List.length_take] at this;omega
 refine af ?_;refine aX (fun hlt=>?_) (fun hlt=>?_)
 · have hil:i<s.length:=by omega
   obtain⟨c,hc⟩:∃c,s[i]? =some c:=⟨_,List.getElem?_eq_getElem hil⟩
   have htk:(s.take (i+1)).flatMap fQ=(s.take i).flatMap fQ++fQ c:=by rw[List.take_add_one,hc];simp
   refine af ?_;refine xo rfl (cH) ?_;rintro _ g1 ⟨rfl,kn,en,zn⟩;refine aN rfl (mG rfl rfl kn) ?_;rintro _ g2 ⟨rfl,kn2,xn,zn2⟩;have kn2:aD g2 g.size 3 [.int .i64 (i:Nat)]:=kn2;have en2:aj g g2:=aj.only en xn (Nat.le_refl _);have eg2:=eg.trans en2;have hix:=AK (h:=g2) (gf:=154) (caps:=[ptr h.size,ptr g.size]) ⟨_,func154,rfl,by kernel_rfl⟩ (Mh (hg.ah eg2)) (fun p=>p.2 ==c) (fun p g' e'=>Ai ((k1g.ah en2).ah e') (kn2.ah e') hc p);refine af ?_;refine xp rfl (az.BG underlying215 H.Hr rfl  ) ?_;refine xp rfl (az.makeFunc (vs:=[_,_]) rfl) ?_;refine xo rfl (aF rfl hix) ?_;rintro _ g3 ⟨⟨j,rfl,hj⟩,e3⟩;have eg3:=eg2.trans e3;have kg3:=kV.ah kg (en2.trans e3);have z3:=(en2.trans e3).size;refine af ?_;refine aX (fun hj0=>?_) (fun hj0=>?_)
   · obtain⟨k,p,rfl,hkp,hfp⟩:=hj.resolve_left (fun q=>by omega);have hk6:k<6:=(List.getElem?_eq_some_iff.1 hkp).1;have hqc:fQ c=[92,p.1]:=by unfold fQ;rw[hfp]
     have hrow:=(hg.ah eg3) (k*2+0) _ (iC (enc:=lH) (fun _=>rfl) iR k p 0 _ hkp rfl);refine cW ?_;refine bz ?_;refine xp rfl (Be rfl rfl k rfl hk6) ?_;refine af ?_;refine xp rfl (aA rfl hrow) ?_;refine xo rfl (jb [_,_]) ?_;rintro _ g4 ⟨rfl,hg4⟩;have e4:aj g3 g4:=by rw[hg4];exact Ext.push _ _ _
     have hby:aZ .byte g4 (fun _=>False) (.slice (some ⟨g3.size,0,none⟩) 2 2) [92,p.1]:=by rw[hg4];exact Eh.read (lM tY g3 _ [92,p.1] 2 rfl (by decide) 0 (Nat.zero_le _) rfl) (fun _ _ k=>k)
     have hw:=dI (bs [92,p.1]) (kV.ah kg3 e4) (by show (34::_).length+2<=_;rw[List.length_cons];omega);refine xp rfl (MV rfl hby) ?_;refine xo rfl (aF rfl hw) ?_;rintro _ g5 ⟨rfl,kb5,x5⟩;rw[gj] at kb5;have z4:=e4.size;refine af ?_;exact ih (i+1) ⟨hil,by rw[htk,hqc];exact kb5,eJ (eg3.trans e4) x5 (by omega),((k1g.ah (en2.trans e3)).ah e4).ext x5 (show ¬h1.size<=h.size by omega),by have:=x5.size;omega⟩
   · have hfn:iR.find? (fun p=>p.2 ==c)=none:=by
      rcases hj with hj|⟨k,p,hj,_⟩
      · exact hj.2
      · omega
     have hqc:fQ c=[c]:=by unfold fQ;rw[hfn]
     have hw:=fZ c kg3 (by rw[List.length_cons];omega);refine af ?_;refine xp rfl (aA rfl ((k1g.ah (en2.trans e3)).cell (i:=0) rfl)) ?_;refine xp rfl (aA rfl ((kn2.ah e3).cell (i:=0) rfl)) ?_;refine xp rfl (Bc rfl rfl i rfl (ic hc)) ?_;refine xo rfl (aF rfl hw) ?_;rintro _ g5 ⟨kb5,x5⟩;refine af ?_;exact ih (i+1) ⟨hil,by rw[htk,hqc];exact kb5,eJ eg3 x5 (by omega),(k1g.ah (en2.trans e3)).ext x5 (show ¬h1.size<=h.size by omega),by have:=x5.size;omega⟩
 · have hie:i=s.length:=by omega
   rw[hie,List.take_length] at kg;have hw:=fZ 34 kg (by rw[List.length_cons];omega);refine af ?_;refine xo rfl (aF rfl hw) ?_;rintro _ g5 ⟨kb5,x5⟩;have hw2:=kR kb5 (by rw[List.length_append,List.length_cons,List.length_singleton];omega);refine af ?_;refine xo rfl (aF rfl hw2) ?_;rintro _ g6 ⟨rfl,x6⟩;refine af ?_;refine bw ?_;exact⟨_,rfl,rfl,eJ (eJ eg x5 (by omega)) x6 (by omega)⟩
def oJ (l:By):List Value:=(List.range 256).map fun n=>.bool (decide (UInt8.ofNat n∈l))
@[simp] theorem HE (l:By):(oJ l).length=256:=by unfold oJ;rw[List.length_map,List.length_range]
theorem ED (l:By) (c:UInt8):(oJ l)[c.toNat]? =some (.bool (decide (c∈l))):=by
 unfold oJ;rw[List.getElem?_map,List.getElem?_range c.toNat_lt];simp
theorem HD (l:By) (c:UInt8):(oJ l).set c.toNat (.bool true)=oJ (l++[c]):=by
 apply List.ext_getElem?
 intro n;rw[List.getElem?_set]
 by_cases h:c.toNat=n
 · subst h;rw[if_pos rfl,if_pos (by rw[HE];exact c.toNat_lt),ED];simp
 · rw[if_neg h];unfold oJ;rw[List.getElem?_map,List.getElem?_map]
   by_cases hn:n<256
   · rw[List.getElem?_range hn];have:¬UInt8.ofNat n=c:=fun q=>h (by rw[<-q];exact UInt8.toNat_ofNat_of_lt' hn)
     simp[this]
   · rw[List.getElem?_eq_none (by rw[List.length_range];omega)];rfl
theorem BN (l:By):∀v∈oJ l,v.oneCell'=true:=fun v hv=>by unfold oJ at hv;simp at hv;obtain⟨_,_,rfl⟩:=hv;rfl
theorem FG (s:By) (hs:s.all (fun c=>decide (c.toNat<128))=true) (hsl:s.length<=1000000):au Tryz.prog 185 #[.string (bs s)] h (bL fun r h'=>r=packed [.agg (oJ s).toArray,.bool true]/\aj h h'):=by
 have hbz:=aK s;refine b9 ?_;refine af ?_;refine xo rfl (cH) ?_;rintro _ h1 ⟨rfl,k1,e1,z1⟩;have k1:aD h1 h.size 279 (oJ []):=k1;refine af ?_;refine jd (σ:=Nat) (fun i=>[(4,.int .i64 (i:Nat))]) (fun i g=>i<=s.length/\aD g h.size 279 (oJ (s.take i))/\aj h g) (fun i=>s.length-i) (0) ⟨Nat.zero_le _,k1,e1⟩ rfl ?_;rintro i g ⟨hi,kg,eg⟩ ih;refine af ?_;refine aX (fun hlt=>?_) (fun hlt=>?_)
 · have hil:i<s.length:=by omega
   obtain⟨c,hc⟩:∃c,s[i]? =some c:=⟨_,List.getElem?_eq_getElem hil⟩
   have hc7:c.toNat<128:=of_decide_eq_true (List.all_eq_true.1 hs c (List.mem_of_getElem? hc));refine af ?_;refine xp rfl (Bc rfl rfl i rfl (ic hc)) ?_;refine af ?_;refine gm rfl (by simp;omega) ?_;refine bl ?_;refine cW ?_;refine bz ?_;refine xp rfl (Be rfl rfl c.toNat rfl c.toNat_lt) ?_;refine aN rfl (mG rfl rfl kg) ?_;rintro _ g2 ⟨rfl,k2,x2,z2⟩;have k2:aD g2 h.size 279 (oJ (s.take (i+1))):=by rw[List.take_add_one,hc,show (some c).toList=[c] from rfl,<-HD];simpa using k2
   refine af ?_;exact ih (i+1) ⟨hil,k2,aj.only eg x2 (Nat.le_refl _)⟩
 · have hie:i=s.length:=by omega
   rw[hie,List.take_length] at kg;refine af ?_;refine xp rfl (b7 rfl kg.row) ?_;refine aN rfl (aV rfl rfl kg (BN s)) ?_;rintro _ g2 ⟨rfl,k2,x2,z2⟩;refine af ?_;refine cn (cg rfl k2.row (eD cm)) ?_;exact⟨_,rfl,by simp[over,List.drop_eq_nil_of_le],aj.only eg x2 (Nat.le_refl _)⟩
theorem tV {l:By}(k:aD h b 279 (oJ l)) (c:UInt8):au Tryz.prog 196 #[ptr b,.int .u8 (c.toNat:Nat)] h (bL fun r h'=>r= .bool (decide (c∈l))/\h'=h):=by
 refine b9 ?_;refine bl ?_;refine cW ?_;refine bz ?_;refine dH ?_;refine bl ?_;refine cW ?_
 iterate 3 refine bz ?_
 refine xp rfl (Be rfl rfl c.toNat rfl c.toNat_lt) ?_;refine xp rfl (aA rfl (by simpa using k.cell (ED l c))) ?_;refine af ?_;refine bw ?_;exact⟨_,rfl,rfl,rfl⟩
theorem Bv {l:By}(k:aD h b 279 (oJ l)) (s:By):au Tryz.prog 186 #[.string (bs s),ptr b] h (bL fun r h'=>r= .string (bs (s.dropWhile fun c=>decide (c∈l)))/\h'=h):=by
 refine b9 ?_;refine af ?_;refine jd (σ:=By) (fun t=>[(0,.string (bs t))]) (fun t g=>g=h/\t.dropWhile (fun c=>decide (c∈l))=s.dropWhile fun c=>decide (c∈l)) (fun t=>t.length) (s) ⟨rfl,rfl⟩ rfl ?_;rintro t g ⟨rfl,ht⟩ ih;have hbz:=aK t;rw[<-ht];refine af ?_
 rcases t with _|⟨c,r⟩
 · refine gm rfl (by decide) ?_;refine af ?_;refine bw ?_;exact⟨_,rfl,rfl,rfl⟩
 · refine fH rfl (by rw[hbz];simp) ?_;refine af ?_;refine xp rfl (Bc rfl rfl 0 rfl (ic (l:=c::r) (c:=c) rfl)) ?_;refine xo rfl (aF rfl (tV k c)) ?_;rintro _ g1 ⟨rfl,hg1⟩;subst hg1;refine af ?_;refine jo (fun hb=>?_) (fun hb=>?_)
   · have hb:¬c∈l:=by simpa using hb
     refine af ?_;refine bw ?_;exact⟨_,rfl,by rw[List.dropWhile_cons,if_neg (by simpa using hb)];rfl,rfl⟩
   · have hb:c∈l:=by simpa using hb
     refine af ?_;refine xp rfl (az.iq underlying9 rfl rfl 1 rfl (by rw[hbz];simp)) ?_;rw[oD,ht];refine af ?_;exact ih r ⟨rfl,by rw[<-ht,List.dropWhile_cons,if_pos (by simpa using hb)]⟩ (by simp)
abbrev Dj:By:=[48,49,50,51,52,53,54,55,56,57]
theorem Kx (c:UInt8):decide (c∈Dj)=dN c:=by
 have k:∀n:Fin 256,decide (UInt8.ofFin n∈Dj)=dN (UInt8.ofFin n):=by unfold dN;decide +kernel
 exact k c.toFin
theorem De (s:By):au Tryz.prog 173 #[.string (bs s),.string (bs Dj)] h (bL fun r h'=>r= .string (bs (cC s))/\aj h h'):=by
 have hd:s.dropWhile (fun c=>decide (c∈Dj))=cC s:=by unfold cC;congr 1;funext c;exact Kx c
 refine b9 ?_;refine bl ?_;refine cW ?_;refine bz ?_;refine dH ?_
 iterate 2 refine bl ?_
 refine gG [(12,.bool (decide (s=[])))] rfl ?_ ?_
 · refine af ?_;refine dV 9 (fun g=>?_) (fun g=>?_)
   · have g:=of_decide_eq_true g;refine af ?_;exact aH rfl ⟨av rfl (by rw[decide_eq_true (bu g)]),sb rfl⟩
   · have g:=of_decide_eq_false g;refine af ?_;exact aH rfl ⟨av rfl (by rw[show decide (s=[])=false from decide_eq_false (fun q=>g (by rw[q];rfl))];rfl),sb rfl⟩
 · refine aX (fun h0=>?_) (fun h0=>?_)
   · refine af ?_;refine bw ?_;exact⟨_,rfl,by rw[h0];rfl,Ext.refl _ _⟩
   · iterate 3 refine bl ?_
     refine gG [(21,.bool false)] rfl ?_ ?_
     · refine af ?_;refine RW.cy (d:=17) (b':=false) rfl (rfl) ?_;refine af ?_;exact aH rfl ⟨av rfl (rfl),sb rfl⟩
     · refine gm rfl (by simp) ?_;refine af ?_;refine xo rfl (aF rfl (FG Dj (by decide) (by decide))) ?_;rintro _ h1 ⟨rfl,e1⟩;refine af ?_;refine xo rfl (cH) ?_;rintro _ h2 ⟨rfl,k2,e2,z2⟩;refine aN rfl (aV rfl rfl k2 (BN Dj)) ?_;rintro _ h3 ⟨rfl,k3,x3,z3⟩;have k3:aD h3 h1.size 279 (oJ Dj):=k3;refine af ?_;refine fH rfl (by simp) ?_;refine af ?_;refine xo rfl (aF rfl (Bv k3 s)) ?_;rintro _ h4 ⟨rfl,hh4⟩;refine af ?_;refine bw ?_;have e13:aj h1 h3:=aj.only e2 x3 (Nat.le_refl _);exact⟨_,rfl,by rw[hd];rfl,by rw[hh4];exact e1.trans e13⟩
theorem ji (s:By):au Tryz.prog 156 #[.string (bs s)] h (bL fun r h'=>r=packed [.string (bs (cC s)),.bool (eF s)]/\aj h h'):=by
 have q1:=aK s;have q2:=aK (cC s);refine b9 ?_;refine af ?_;refine xo rfl (aF rfl (De s)) ?_;rintro _ h1 ⟨rfl,e1⟩;refine af ?_;refine bw ?_;exact⟨_,rfl,by unfold eF;rw[q1,q2];simp,e1⟩
def wF (s:By):Bool:=match s with| []=>false|c::_=>decide (c=46)
theorem AT (s:By):au Tryz.prog 157 #[.string (bs s),.string (bs [46])] h (bL fun r h'=>r=packed [.string (bs (if wF s then s.drop 1 else s)),.bool (wF s)]/\h'=h):=by
 have k:au Tryz.prog 157 #[.string (bs s),.string (bs [46])] h _:=au.uo fun w=>Tryz.strings_CutPrefix (bs s) (bs [46]) w
 refine k.ret fun v h' ⟨h1,h2⟩=>⟨?_,h2⟩
 rw[h1]
 have e:Lib.hasPrefix (bs s).data.toList (bs [46]).data.toList=wF s:=by
  rw[gj,gj];unfold Lib.hasPrefix wF;cases s with
  |nil=>rfl
  |cons c r=>simp only[List.isPrefixOf,Bool.and_true];rw[Bool.eq_iff_iff];simp only[beq_iff_eq,decide_eq_true_iff];exact eq_comm
 rw[e];unfold Lib.trimPrefix;rw[e,gj,gj];rfl
def tD (s:By) (a b:UInt8):Bool:=match s with| []=>false|c::_=>decide (c=a) ||decide (c=b)
theorem IV (s:By) (ok:Bool):oM s ok=if (ok && tD s 101 69)=true then (if tD (s.drop 1) 43 45=true then eF ((s.drop 1).drop 1) && decide (cC ((s.drop 1).drop 1)=[]) else eF (s.drop 1) && decide (cC (s.drop 1)=[])) else (ok && decide (s=[])):=by
 cases s with
 |nil=>simp[oM,tD]
 |cons c r =>
  unfold oM tD;simp only[Bool.and_eq_true,Bool.or_eq_true,decide_eq_true_eq,List.drop_succ_cons,List.drop_zero]
  by_cases h:ok=true/\(c=101\/c=69)
  · rw[if_pos h,if_pos h];cases r with
    |nil=>rfl
    |cons d r=>simp only[Bool.or_eq_true,decide_eq_true_eq,List.drop_succ_cons,List.drop_zero]
  · rw[if_neg h,if_neg h];simp
theorem H7 (s:By):tX s=if (eF s && wF (cC s))=true then oM (cC ((cC s).drop 1)) (eF ((cC s).drop 1)) else oM (cC s) (eF s):=by
 unfold tX;cases hd:cC s with
 |nil=>simp[wF,oM]
 |cons c r =>
  simp only[wF,Bool.and_eq_true,decide_eq_true_eq,List.drop_succ_cons,List.drop_zero]
theorem ne_nil (h:¬bs s=(⟨#[]⟩:ByteArray)):∃c r,s=c::r:=by
 cases s with
 |nil=>exact absurd rfl h
 |cons c r=>exact⟨c,r,rfl⟩
theorem eq_nil (h:bs s=(⟨#[]⟩:ByteArray)):s=[]:=bu (m:=[]) h
theorem mU (c:UInt8) (n:UInt8):decide ((c.toNat:Int)=(n.toNat:Int))=decide (c=n):=K5 c n
theorem yh (s:By):au Tryz.prog 124 #[.string (bs s)] h (bL fun r h'=>r= .bool (tX s)/\aj h h'):=by
 rw[H7];refine b9 ?_;refine af ?_;refine xo rfl (aF rfl (ji s)) ?_;rintro _ h1 ⟨rfl,e1⟩;refine af ?_;refine xo rfl (aF rfl (AT (cC s))) ?_;rintro _ h2 ⟨rfl,hh2⟩;subst hh2
 iterate 5 refine bz ?_
 refine dH ?_;refine bl ?_;refine gG [(19,.bool (eF s && wF (cC s)))] rfl ?_ ?_
 · refine af ?_;refine dV 17 (fun a=>?_) (fun a=>?_)
   · refine af ?_;exact aH rfl ⟨av rfl (by rw[a];rfl),sb rfl⟩
   · refine af ?_;exact aH rfl ⟨av rfl (by rw[a];rfl),sb rfl⟩
 · have fin:∀(s1:By) (ok1:Bool) (h':ai) (ρ':Env),Sub [(0,.string (bs s1)),(3,.bool ok1)] ρ'->aj h h'->(if (eF s && wF (cC s))=true then oM (cC ((cC s).drop 1)) (eF ((cC s).drop 1)) else oM (cC s) (eF s))=oM s1 ok1->G Tryz.prog 124 f124 [.code [1,1,1]] ρ' h' (bL fun r h'=>r= .bool (if (eF s && wF (cC s))=true then oM (cC ((cC s).drop 1)) (eF ((cC s).drop 1)) else oM (cC s) (eF s))/\aj h h'):=by
    rintro s1 ok1 h3 ρ' hsub e3 hnum;rw[hnum,IV];have hbz:=aK s1;refine G.sub (ρ':=[(0,.string (bs s1)),(3,.bool ok1)]) hsub ?_
    iterate 2 refine bl ?_
    refine gG [(39,.bool (ok1 && tD s1 101 69))] rfl ?_ ?_
    · refine af ?_;refine dV 26 (fun a=>?_) (fun a=>?_)
      · rw[a,Bool.true_and];refine af ?_;refine dV 30 (fun b=>?_) (fun b=>?_)
        · obtain⟨c,r,rfl⟩:=ne_nil (s:=s1) (by simpa using b);refine af ?_;refine xp rfl (Bc rfl rfl 0 rfl (ic (l:=c::r) rfl)) ?_;refine af ?_;refine dV 34 (fun d=>?_) (fun d=>?_)
          · refine af ?_;exact aH rfl ⟨av rfl (by show _=(decide (c=101) ||decide (c=69));rw[<-mU c 101,<-mU c 69,show (((101:UInt8).toNat:Nat):Int)=101 from rfl,d];rfl),sb rfl⟩
          · refine af ?_;refine xp rfl (Bc rfl rfl 0 rfl (ic (l:=c::r) rfl)) ?_;refine af ?_;exact aH rfl ⟨av rfl (by show _=(decide (c=101) ||decide (c=69));rw[<-mU c 101,<-mU c 69,show (((101:UInt8).toNat:Nat):Int)=101 from rfl,d];rfl),sb rfl⟩
        · have hb:s1=[]:=eq_nil (by simpa using b);refine af ?_;exact aH rfl ⟨av rfl (by rw[hb];rfl),sb rfl⟩
      · rw[a,Bool.false_and];refine af ?_;exact aH rfl ⟨av rfl (rfl),sb rfl⟩
    · refine jo (fun hq=>?_) (fun hq=>?_)
      · rw[if_pos hq]
        have hne:1<=s1.length:=by
         cases s1 with
         |nil=>simp[tD] at hq
         |cons c r=>simp
        refine af ?_;refine xp rfl (az.iq underlying9 rfl rfl 1 rfl (by omega)) ?_;rw[oD];have hbz2:=aK (s1.drop 1);refine bz ?_;refine dH ?_
        iterate 2 refine bl ?_
        refine gG [(53,.bool (tD (s1.drop 1) 43 45))] rfl ?_ ?_
        · refine af ?_;refine dV 44 (fun b=>?_) (fun b=>?_)
          · obtain⟨c,r,hcr⟩:=ne_nil (s:=s1.drop 1) (by simpa using b);rw[hcr];refine af ?_;refine xp rfl (Bc rfl rfl 0 rfl (ic (l:=c::r) rfl)) ?_;refine af ?_;refine dV 48 (fun d=>?_) (fun d=>?_)
            · refine af ?_;exact aH rfl ⟨av rfl (by show _=(decide (c=43) ||decide (c=45));rw[<-mU c 43,<-mU c 45,show (((43:UInt8).toNat:Nat):Int)=43 from rfl,d];rfl),sb rfl⟩
            · refine af ?_;refine xp rfl (Bc rfl rfl 0 rfl (ic (l:=c::r) rfl)) ?_;refine af ?_;exact aH rfl ⟨av rfl (by show _=(decide (c=43) ||decide (c=45));rw[<-mU c 43,<-mU c 45,show (((43:UInt8).toNat:Nat):Int)=43 from rfl,d];rfl),sb rfl⟩
          · have hb:s1.drop 1=[]:=eq_nil (by simpa using b);refine af ?_;exact aH rfl ⟨av rfl (by rw[hb];rfl),sb rfl⟩
        · refine jo (fun hg=>?_) (fun hg=>?_)
          · rw[if_pos hg]
            have hne2:1<=(s1.drop 1).length:=by
             cases hs:s1.drop 1 with
             |nil=>rw[hs] at hg;simp[tD] at hg
             |cons c r=>simp
            refine af ?_;refine xp rfl (az.iq underlying9 rfl rfl 1 rfl (by omega)) ?_;rw[oD];refine af ?_;refine xo rfl (aF rfl (ji ((s1.drop 1).drop 1))) ?_;rintro _ h4 ⟨rfl,e4⟩
            iterate 5 refine bz ?_
            refine dH ?_;refine bl ?_;refine gG [(2,.bool (eF ((s1.drop 1).drop 1) && decide (cC ((s1.drop 1).drop 1)=[])))] rfl ?_ ?_
            · refine af ?_;refine dV 62 (fun b=>?_) (fun b=>?_)
              · refine af ?_;exact aH rfl ⟨av rfl (by rw[b];exact AW _),sb rfl⟩
              · refine af ?_;exact aH rfl ⟨av rfl (by rw[b];rfl),sb rfl⟩
            · refine bw ?_;exact⟨_,rfl,rfl,e3.trans e4⟩
          · rw[if_neg (by rw[hg];decide)];refine af ?_;refine xo rfl (aF rfl (ji (s1.drop 1))) ?_;rintro _ h4 ⟨rfl,e4⟩
            iterate 5 refine bz ?_
            refine dH ?_;refine bl ?_;refine gG [(2,.bool (eF (s1.drop 1) && decide (cC (s1.drop 1)=[])))] rfl ?_ ?_
            · refine af ?_;refine dV 62 (fun b=>?_) (fun b=>?_)
              · refine af ?_;exact aH rfl ⟨av rfl (by rw[b];exact AW _),sb rfl⟩
              · refine af ?_;exact aH rfl ⟨av rfl (by rw[b];rfl),sb rfl⟩
            · refine bw ?_;exact⟨_,rfl,rfl,e3.trans e4⟩
      · rw[if_neg (by rw[hq];decide)]
        iterate 2 refine bl ?_
        refine gG [(2,.bool (ok1 && decide (s1=[])))] rfl ?_ ?_
        · refine af ?_;refine dV 62 (fun b=>?_) (fun b=>?_)
          · refine af ?_;exact aH rfl ⟨av rfl (by rw[b];exact AW _),sb rfl⟩
          · refine af ?_;exact aH rfl ⟨av rfl (by rw[b];rfl),sb rfl⟩
        · refine bw ?_;exact⟨_,rfl,rfl,e3⟩
   refine jo (fun hp=>?_) (fun hp=>?_)
   · have hp2:wF (cC s)=true:=by rw[Bool.and_eq_true] at hp;exact hp.2
     rw[if_pos hp2];refine af ?_;refine xo rfl (aF rfl (ji ((cC s).drop 1))) ?_;rintro _ h4 ⟨rfl,e4⟩
     iterate 5 refine bz ?_
     refine dH ?_;exact fin _ _ _ _ (by exact sb rfl) (e1.trans e4) (if_pos hp)
   · refine bl ?_;exact fin _ _ _ _ (by exact sb rfl) e1 (if_neg (by rw[hp];decide))
structure GR (h:ai):Prop where
 lx:C0 h
 esc:n8 h
 O8:∃v,cellAt h ⟨2,0,none⟩=some v/\aZ oz h (fun _=>False) v G6
 bin:∃v,cellAt h ⟨3,0,none⟩=some v/\aZ oz h (fun _=>False) v pF
theorem GR.ah {h h':ai}(k:GR h) (e:aj h h'):GR h':=by
 obtain⟨h1,h2,⟨v,h3,h4⟩,w,h5,h6⟩:=k;exact⟨h1.ah e,h2.ah e,⟨v,e.cell (fun k=>k) h3,h4.mv (Mv.ah e)⟩,⟨w,e.cell (fun k=>k) h5,h6.mv (Mv.ah e)⟩⟩
theorem xS (c:UInt8):au Tryz.prog 158 #[.int .u8 (c.toNat:Nat)] h (bL fun r h'=>r= .bool (isLet c)/\h'=h):=by
 rw[Gi];refine b9 ?_;refine bl ?_;refine cW ?_;refine bz ?_;refine dH ?_;refine bl ?_;refine gG [(2,.bool (decide ((97<=c.toNat/\c.toNat<=122)\/(65<=c.toNat/\c.toNat<=90)\/c.toNat=95)))] rfl ?_ ?_
 · refine af ?_;refine dV 5 (fun a=>?_) (fun a=>?_)
   · have a:=of_decide_eq_true a;refine af ?_;refine dV 9 (fun b=>?_) (fun b=>?_)
     · have b:=of_decide_eq_true b;refine af ?_;exact aH rfl ⟨av rfl (by rw[decide_eq_true (by omega)]),sb rfl⟩
     · have b:=of_decide_eq_false b;refine af ?_;refine dV 12 (fun d=>?_) (fun d=>?_)
       · have d:=of_decide_eq_true d;refine af ?_;refine dV 17 (fun e=>?_) (fun e=>?_)
         · have e:=of_decide_eq_true e;refine af ?_;exact aH rfl ⟨av rfl (by rw[decide_eq_true (by omega)]),sb rfl⟩
         · have e:=of_decide_eq_false e;refine af ?_;exact aH rfl ⟨av rfl (by rw[decide_eq_decide];omega),sb rfl⟩
       · have d:=of_decide_eq_false d
         iterate 2 refine OF ?_
         iterate 7 refine bz ?_
         exact aH rfl ⟨av rfl (by rw[decide_eq_decide];omega),sb rfl⟩
   · have a:=of_decide_eq_false a
     iterate 2 refine OF ?_
     iterate 5 refine bz ?_
     refine xD (d:=12) rfl (fun d=>?_) (fun d=>?_)
     · have d:=of_decide_eq_true d;refine af ?_;refine dV 17 (fun e=>?_) (fun e=>?_)
       · have e:=of_decide_eq_true e;refine af ?_;exact aH rfl ⟨av rfl (by rw[decide_eq_true (by omega)]),sb rfl⟩
       · have e:=of_decide_eq_false e;refine af ?_;exact aH rfl ⟨av rfl (by rw[decide_eq_decide];omega),sb rfl⟩
     · have d:=of_decide_eq_false d;refine af ?_;exact aH rfl ⟨av rfl (by rw[decide_eq_decide];omega),sb rfl⟩
 · refine bw ?_;exact⟨_,rfl,rfl,rfl⟩
theorem zG (c:UInt8):au Tryz.prog 159 #[.int .u8 (c.toNat:Nat)] h (bL fun r h'=>r= .bool (dN c)/\h'=h):=by
 rw[Gj];refine b9 ?_;refine bl ?_;refine cW ?_;refine bz ?_;refine dH ?_;refine bl ?_;refine gG [(2,.bool (decide (48<=c.toNat/\c.toNat<=57)))] rfl ?_ ?_
 · refine af ?_;refine dV 5 (fun a=>?_) (fun a=>?_)
   · have a:=of_decide_eq_true a;refine af ?_;exact aH rfl ⟨av rfl (by rw[decide_eq_decide];omega),sb rfl⟩
   · have a:=of_decide_eq_false a;refine af ?_;exact aH rfl ⟨av rfl (by rw[decide_eq_false (by omega)]),sb rfl⟩
 · refine bw ?_;exact⟨_,rfl,rfl,rfl⟩
theorem nA (hg:C0 h) (s:By) (hs:s.length<=1000000):au Tryz.prog 125 #[.string (bs s)] h (bL fun r h'=>r= .bool (cY aW s)/\h'=h):=by
 have hbz:=aK s;refine b9 ?_;refine af ?_;refine jd (σ:=Nat) (fun i=>[(6,.int .i64 (i:Nat))]) (fun i g=>g=h/\i<=s.length/\∀j c,j<i->s[j]? =some c->EM j c=true) (fun i=>s.length-i) (0) ⟨rfl,Nat.zero_le _,fun j c q=>by omega⟩ rfl ?_;rintro i g ⟨rfl,hi,hin⟩ ih;refine af ?_;refine aX (fun hlt=>?_) (fun hlt=>?_)
 · have hil:i<s.length:=by omega
   obtain⟨c,hc⟩:∃c,s[i]? =some c:=⟨_,List.getElem?_eq_getElem hil⟩
   iterate 4 refine bl ?_
   refine cW ?_
   iterate 2 refine bz ?_
   refine dH ?_;refine bl ?_;refine gG [(24,.bool (!EM i c))] rfl ?_ ?_
   · refine af ?_;refine xp rfl (Bc rfl rfl i rfl (ic hc)) ?_;refine xo rfl (aF rfl (xS c)) ?_;rintro _ g1 ⟨rfl,hg1⟩;subst hg1;refine af ?_;refine dV 14 (fun a=>?_) (fun a=>?_)
     · have a:isLet c=false:=by simpa using a
       refine af ?_;refine dV 17 (fun z=>?_) (fun z=>?_)
       · have z:=of_decide_eq_true z;refine af ?_;exact aH rfl ⟨av rfl (by unfold EM;rw[a,decide_eq_false (by omega)];rfl),sb rfl⟩
       · have z:=of_decide_eq_false z;refine af ?_;refine xp rfl (Bc rfl rfl i rfl (ic hc)) ?_;refine xo rfl (aF rfl (zG c)) ?_;rintro _ g1 ⟨rfl,hg1⟩;subst hg1;refine af ?_;exact aH rfl ⟨av rfl (by unfold EM;rw[a,decide_eq_true (show i≠0 by omega)];rfl),sb rfl⟩
     · have a:isLet c=true:=by simpa using a
       refine af ?_;exact aH rfl ⟨av rfl (by unfold EM;rw[a];rfl),sb rfl⟩
   · refine jo (fun hb=>?_) (fun hb=>?_)
     · have hb:EM i c=false:=by simpa using hb
       refine af ?_;refine bw ?_;exact⟨_,rfl,by rw[Ih aW hc hb];rfl,rfl⟩
     · have hb:EM i c=true:=by simpa using hb
       refine af ?_;exact ih (i+1) ⟨rfl,hil,fun j d hj hd=>(Nat.lt_succ_iff_lt_or_eq.1 hj).elim (fun q=>hin j d q hd) (fun q=>by subst q;rw[hc] at hd;cases hd;exact hb)⟩
 · iterate 2 refine bl ?_
   refine gG [(2,.bool (cY aW s))] rfl ?_ ?_
   · refine af ?_;refine dV 28 (fun a=>?_) (fun a=>?_)
     · have h0:s≠[]:=fun q=>by rw[q] at a;exact of_decide_eq_true a rfl
       refine af ?_;refine xo rfl (aF rfl (uG hg s hs)) ?_;rintro _ g1 ⟨rfl,hg1⟩;subst hg1;refine af ?_;exact aH rfl ⟨av rfl (by rw[F6 aW h0 (fun j c hj=>hin j c (by have:=(List.getElem?_eq_some_iff.1 hj).1;omega) hj)]),sb rfl⟩
     · have h0:s=[]:=by simpa using eq_nil (s:=s) (by simpa using a)
       refine af ?_;exact aH rfl ⟨av rfl (by rw[h0,F0]),sb rfl⟩
   · refine bw ?_;exact⟨_,rfl,rfl,rfl⟩
theorem DM (k:Int):au Tryz.prog 123 #[.int .i64 k] h (bL fun r h'=>r=packed [.int .i64 ((cw k).1:Nat),.int .i64 ((cw k).2:Nat)]/\h'=h):=by
 refine b9 ?_;refine af ?_;refine aX (fun c4=>?_) (fun c4=>?_)
 · refine af ?_;refine fH rfl (by simp[c4]) ?_;refine af ?_;refine bw ?_;exact⟨_,rfl,by unfold cw;rw[if_pos (.inl c4)];rfl,rfl⟩
 · refine af ?_;refine aX (fun c8=>?_) (fun c8=>?_)
   · refine af ?_;refine bw ?_;exact⟨_,rfl,by unfold cw;rw[if_pos (.inr c8)];rfl,rfl⟩
   · refine af ?_;refine aX (fun c5=>?_) (fun c5=>?_)
     · refine af ?_;refine fH rfl (by simp[c5]) ?_;refine af ?_;refine bw ?_;exact⟨_,rfl,by unfold cw;rw[if_neg (by omega),if_pos (.inl c5)];rfl,rfl⟩
     · refine af ?_;refine aX (fun c9=>?_) (fun c9=>?_)
       · refine af ?_;refine bw ?_;exact⟨_,rfl,by unfold cw;rw[if_neg (by omega),if_pos (.inr c9)];rfl,rfl⟩
       · refine af ?_;refine aX (fun c6=>?_) (fun c6=>?_)
         · refine af ?_;refine bw ?_;exact⟨_,rfl,by unfold cw;rw[if_neg (by omega),if_neg (by omega),if_pos c6];rfl,rfl⟩
         · refine af ?_;refine aX (fun c7=>?_) (fun c7=>?_)
           · refine af ?_;refine bw ?_;exact⟨_,rfl,by unfold cw;rw[if_neg (by omega),if_neg (by omega),if_neg c6,if_pos c7];rfl,rfl⟩
           · refine af ?_;refine aX (fun c10=>?_) (fun c10=>?_)
             · refine af ?_;refine bw ?_;exact⟨_,rfl,by unfold cw;rw[if_neg (by omega),if_neg (by omega),if_neg c6,if_neg c7,if_pos c10];rfl,rfl⟩
             · refine af ?_;refine bw ?_;exact⟨_,rfl,by unfold cw;rw[if_neg (by omega),if_neg (by omega),if_neg c6,if_neg c7,if_neg c10];rfl,rfl⟩
def bounds (k:Int) (n:Nat):Bool:=decide ((0<=k/\k<=10)/\(cw k).1<=n/\n<=(cw k).2)
theorem uX (word:By->Bool) (k:Int) (t:By) (n:Nat):eH word k t n=(bounds k n && dZ word k t):=by
 unfold eH bounds;rw[Bool.eq_iff_iff];simp only[Bool.and_eq_true,decide_eq_true_eq];constructor
 · intro ⟨a,b,c,d,e⟩;exact⟨⟨⟨c,d⟩,a,b⟩,e⟩
 · intro ⟨⟨⟨c,d⟩,a,b⟩,e⟩;exact⟨a,b,c,d,e⟩
abbrev zF (k:Int) (t:By) (a:Option Addr) (n c:Nat):List Value:=[.int .i64 k,.string (bs t),.slice a n c]
theorem BM (hg:GR h) (k:Int) (t:By) (a:Option Addr) (n c:Nat) (ht:t.length<=1000000) :
 au Tryz.prog 80 #[.agg #[.int .i64 k,.string (bs t),.slice a n c]] h (bL fun r h'=>r= .bool (eH aW k t n)/\aj h h'):=by
 rw[uX];have hbz:=aK t;refine b9 ?_;refine af ?_;refine xo rfl (kH) ?_;rintro _ h1 ⟨rfl,k1,e1,z1⟩;have k1:aD h1 h.size 27 (zF k t a n c):=k1;refine af ?_;refine xp rfl (aA rfl (k1.cell (i:=0) rfl)) ?_;refine xo rfl (aF rfl (DM k)) ?_;rintro _ h2 ⟨rfl,hh2⟩;subst hh2
 iterate 5 refine bz ?_
 refine dH ?_
 iterate 2 refine bl ?_
 refine gG [(32,.bool (!bounds k n))] rfl ?_ ?_
 · refine af ?_;refine xp rfl (aA rfl (k1.cell (i:=0) rfl)) ?_;refine af ?_;refine dV 14 (fun a=>?_) (fun a=>?_)
   · have a:=of_decide_eq_true a;refine af ?_;exact aH rfl ⟨av rfl (by unfold bounds;rw[decide_eq_false (by omega)];rfl),sb rfl⟩
   · have a:=of_decide_eq_false a;refine af ?_;refine xp rfl (aA rfl (k1.cell (i:=0) rfl)) ?_;refine af ?_;refine dV 19 (fun b=>?_) (fun b=>?_)
     · have b:=of_decide_eq_true b;refine af ?_;exact aH rfl ⟨av rfl (by unfold bounds;rw[decide_eq_false (by omega)];rfl),sb rfl⟩
     · have b:=of_decide_eq_false b;refine af ?_;refine xp rfl (aA rfl (k1.cell (i:=2) rfl)) ?_;refine af ?_;refine dV 26 (fun d=>?_) (fun d=>?_)
       · have d:=of_decide_eq_true d;refine af ?_;exact aH rfl ⟨av rfl (by unfold bounds;rw[decide_eq_false (by omega)];rfl),sb rfl⟩
       · have d:=of_decide_eq_false d;refine af ?_;refine xp rfl (aA rfl (k1.cell (i:=2) rfl)) ?_;refine af ?_;exact aH rfl ⟨av rfl (by unfold bounds;rw[<-decide_not,decide_eq_decide];omega),sb rfl⟩
 · refine jo (fun hb=>?_) (fun hb=>?_)
   · have hb:bounds k n=false:=by simpa using hb
     rw[hb];refine af ?_;refine bw ?_;exact⟨_,rfl,rfl,e1⟩
   · have hb:bounds k n=true:=by simpa using hb
     rw[hb,Bool.true_and];refine af ?_;refine xp rfl (aA rfl (k1.cell (i:=0) rfl)) ?_;refine af ?_;refine aX (fun c0=>?_) (fun c0=>?_)
     · refine af ?_;refine xp rfl (aA rfl (k1.cell (i:=1) rfl)) ?_;refine xo rfl (aF rfl (yh t)) ?_;rintro _ h3 ⟨rfl,e3⟩;refine af ?_;refine bw ?_;exact⟨_,rfl,by unfold dZ;rw[if_pos c0];rfl,e1.trans e3⟩
     · refine af ?_;refine aX (fun c1=>?_) (fun c1=>?_)
       · refine af ?_;refine xp rfl (aA rfl (k1.cell (i:=1) rfl)) ?_;refine af ?_;refine bw ?_;exact⟨_,rfl,by unfold dZ;rw[if_neg c0,if_pos c1];show Value.bool _=_;rw[hbz];simp only[Value.bool.injEq,decide_eq_decide];omega,e1⟩
       · refine af ?_;refine aX (fun c2=>?_) (fun c2=>?_)
         · refine bl ?_;refine gG [(2,.bool (decide (t=kY) ||decide (t=pK)))] rfl ?_ ?_
           · refine af ?_;refine xp rfl (aA rfl (k1.cell (i:=1) rfl)) ?_;refine af ?_;refine dV 51 (fun g=>?_) (fun g=>?_)
             · have g:t=kY:=bu (m:=kY) (of_decide_eq_true g);refine af ?_;exact aH rfl ⟨av rfl (by rw[decide_eq_true g];rfl),sb rfl⟩
             · have g:¬t=kY:=fun q=>of_decide_eq_false g (by rw[q];rfl)
               refine af ?_;refine xp rfl (aA rfl (k1.cell (i:=1) rfl)) ?_;refine af ?_;exact aH rfl ⟨av rfl (by rw[decide_eq_false g,Bool.false_or];exact Lr t pK),sb rfl⟩
           · refine bw ?_;exact⟨_,rfl,by unfold dZ;rw[if_neg c0,if_neg c1,if_pos c2];rfl,e1⟩
         · refine af ?_;refine aX (fun c3=>?_) (fun c3=>?_)
           · refine af ?_;refine fH rfl (by simp[c3]) ?_;refine af ?_;refine xp rfl (aA rfl (k1.cell (i:=1) rfl)) ?_;refine xo rfl (aF rfl (nA (hg.ah e1).lx t ht)) ?_;rintro _ h3 ⟨rfl,hh3⟩;refine af ?_;refine bw ?_;exact⟨_,rfl,by unfold dZ;rw[if_neg c0,if_neg c1,if_neg c2,if_pos (.inl c3)];rfl,by rw[hh3];exact e1⟩
           · refine af ?_;refine aX (fun c7=>?_) (fun c7=>?_)
             · refine af ?_;refine fH rfl (by simp[c7]) ?_;refine af ?_;refine xp rfl (aA rfl (k1.cell (i:=1) rfl)) ?_;refine xo rfl (aF rfl (nA (hg.ah e1).lx t ht)) ?_;rintro _ h3 ⟨rfl,hh3⟩;refine af ?_;refine bw ?_;exact⟨_,rfl,by unfold dZ;rw[if_neg c0,if_neg c1,if_neg c2,if_pos (.inr (.inl c7))];rfl,by rw[hh3];exact e1⟩
             · refine af ?_;refine aX (fun c8=>?_) (fun c8=>?_)
               · refine af ?_;refine xp rfl (aA rfl (k1.cell (i:=1) rfl)) ?_;refine xo rfl (aF rfl (nA (hg.ah e1).lx t ht)) ?_;rintro _ h3 ⟨rfl,hh3⟩;refine af ?_;refine bw ?_;exact⟨_,rfl,by unfold dZ;rw[if_neg c0,if_neg c1,if_neg c2,if_pos (.inr (.inr c8))];rfl,by rw[hh3];exact e1⟩
               · refine af ?_;refine aX (fun c4=>?_) (fun c4=>?_)
                 · obtain⟨uv,hu1,hu2⟩:=(hg.ah e1).O8;refine af ?_;refine xp rfl (aA rfl hu1) ?_;refine af ?_;refine xp rfl (aA rfl (k1.cell (i:=1) rfl)) ?_;refine xo rfl (aF rfl (pU hu2 t)) ?_;rintro _ h3 ⟨rfl,hh3⟩;refine af ?_;refine bw ?_;exact⟨_,rfl,by unfold dZ;rw[if_neg c0,if_neg c1,if_neg c2,if_neg (by omega),if_pos c4];rfl,by rw[hh3];exact e1⟩
                 · refine af ?_;refine aX (fun c5=>?_) (fun c5=>?_)
                   · obtain⟨uv,hu1,hu2⟩:=(hg.ah e1).bin;refine af ?_;refine xp rfl (aA rfl hu1) ?_;refine af ?_;refine xp rfl (aA rfl (k1.cell (i:=1) rfl)) ?_;refine xo rfl (aF rfl (pU hu2 t)) ?_;rintro _ h3 ⟨rfl,hh3⟩;refine af ?_;refine bw ?_;exact⟨_,rfl,by unfold dZ;rw[if_neg c0,if_neg c1,if_neg c2,if_neg (by omega),if_neg c4,if_pos c5];rfl,by rw[hh3];exact e1⟩
                   · refine af ?_;refine xp rfl (aA rfl (k1.cell (i:=1) rfl)) ?_;refine af ?_;refine bw ?_;exact⟨_,rfl,by unfold dZ;rw[if_neg c0,if_neg c1,if_neg c2,if_neg (by omega),if_neg c4,if_neg c5];show Value.bool _=_;rw[<-AW],e1⟩
end
end Go.Proofs.YtdgckfkoihcmjaaGreatDoor

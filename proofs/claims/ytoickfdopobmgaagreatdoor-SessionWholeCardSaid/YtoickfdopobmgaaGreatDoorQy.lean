/- What the proof of the statement leans on (part 25). -/
import Derived.Below
import Derived.Lib.TrimUEq
import Derived.KernelRfl
import Derived.Test.YtoickfdopobmgaaGreatDoorQx

namespace Go.Proofs.YtoickfdopobmgaaGreatDoor
open Go.Proofs.Tryz
open Go Go.Lw
set_option maxRecDepth 20000 set_option maxHeartbeats 4000000
section
variable {h:ai}{p:Value}
def Mh (h:ai):Prop:=(∀c,c<256->cellAt h ⟨6,c,none⟩=some (.int .u8 (Lib.firstT c))) /\
 (∀i,i<16->cellAt h ⟨7,2*i,none⟩=some (.int .u8 (Lib.accLo i))/\cellAt h ⟨7,2*i+1,none⟩=some (.int .u8 (Lib.accHi i)))
structure Dx (h:ai):Prop where
 sg:∃lim,lim<=h.size/\Sg h lim
 tens:rM h
 rules:mZ h
 utf:Mh h
 most:∃m,cellAt h ⟨5,0,none⟩=some (.int .i64 m)
theorem Dx.ah {h h':ai}(k:Dx h) (e:aj h h'):Dx h':=by
 obtain⟨⟨lim,h1,h2⟩,h3,h4,h5,m,h6⟩:=k;have hz:=e.size;exact⟨⟨lim,by omega,h2.ext e (fun _ k=>k.elim)⟩,h3.ah e,h4.ah e,⟨fun c hc=>e.cell (fun k=>k) (h5.1 c hc),fun i hi=>⟨e.cell (fun k=>k) (h5.2 i hi).1,e.cell (fun k=>k) (h5.2 i hi).2⟩⟩,m,e.cell (fun k=>k) h6⟩
theorem Bb (hg:Dx h) (l:By) (hl:l≠[]):aq Tryz.prog 114 #[.string (bs l)] h (bw fun r h'=>(∃x:Nat,r= .tuple #[.int .i32 (x:Nat),.int .i64 (qM l:Nat)])/\aj h h'):=by
 refine aq.oK fun w hw=>?_
 subst hw;have hT:Lib.Utf8Tabs 6 7 w:=⟨fun c hc=>by rw[cU];exact hg.utf.1 c hc,fun i hi=>⟨by rw[cU];exact(hg.utf.2 i hi).1,by rw[cU];exact(hg.utf.2 i hi).2⟩⟩
 refine(Tryz.utf8_DecodeRuneInString (bs l) w hT).mono ?_;rintro e w' ⟨rfl,hb⟩
 have hn:(Lib.decodeGo (bs l)).2=qM l:=by
  have h0:¬(bs l).size=0:=by rw[aG];have:=List.length_pos_iff.2 hl;omega
  unfold Lib.decodeGo;rw[if_neg h0,Lib.decode_N,eD];rfl
 refine⟨_,rfl,⟨⟨(Lib.decodeGo (bs l)).1,by rw[hn]⟩,⟨hb.size,fun b hlt _=>hb.block b hlt⟩⟩,hb.os,hb.tape,hb.output⟩
theorem og (hg:Dx h) (s t:By) (hs:s.length<=1000000):aq Tryz.prog 116 #[.string (bs s),.string (bs t)] h (bw fun r h'=>r= .bool (Lib.contains s t)/\h'=h):=by
 obtain⟨m,hm⟩:=hg.most;refine aq.oK fun w hw=>?_
 subst hw;refine(Tryz.strings_Contains (bs s) (bs t) m w (by rw[aG];omega) (by rw[cU];exact hm)).mono ?_;rintro e w' ⟨rfl,rfl⟩;rw[eD,eD];exact⟨_,rfl,⟨rfl,rfl⟩,rfl,rfl,rfl⟩
theorem uJ (hg:Dx h) (s:By) (hs:s.length<=1000000):aq Tryz.prog 68 #[.string (bs s)] h (bw fun r h'=>r= .bool (bz s)/\h'=h):=by
 have hbs:=aG s
 have e1:((⟨#[32]⟩:ByteArray)++bs s)++⟨#[32]⟩=bs (32::(s++[32])):=by
  rw[show (⟨#[32]⟩:ByteArray)=bs [32] from rfl,br,br];rfl
 have w1:(⟨#[32]⟩:ByteArray).size=1:=rfl;refine bL ?_;refine aX ?_;refine cD ?_;refine aW ?_;refine cX ?_;refine aX ?_;refine fL [(2,.bool (bz s))] rfl ?_ ?_
 · refine af ?_;refine dG 5 (fun hc=>?_) (fun hc=>?_)
   · have hc':decide (s≠[])=true:=decide_eq_true (fun e=>of_decide_eq_true hc (by rw[e];rfl));refine af ?_;refine xo rfl (aE rfl (og hg s [32] hs)) ?_;rintro _ h0 ⟨rfl,hh0⟩;subst hh0;refine af ?_;refine dG 10 (fun hc2=>?_) (fun hc2=>?_)
     · iterate 2 refine aW ?_
       refine xp rfl (ay.aH rfl rfl (by rw[ByteArray.size_append];omega)) ?_;rw[e1];refine xo rfl (aE rfl (og hg HG (32::(s++[32])) (by decide))) ?_;rintro _ h1 ⟨rfl,hh1⟩;subst hh1;refine af ?_;exact aF rfl ⟨au rfl (by rw[bz,hc',hc2,Bool.true_and,Bool.true_and]),sb rfl⟩
     · refine af ?_;exact aF rfl ⟨au rfl (by rw[bz,hc',hc2,Bool.true_and,Bool.false_and]),sb rfl⟩
   · refine af ?_;exact aF rfl ⟨au rfl (by rw[bz,decide_eq_false (fun k=>of_decide_eq_false hc (fun e=>k (bl (m:=[]) e))),Bool.false_and]),sb rfl⟩
 · refine bp ?_;exact⟨_,rfl,rfl,rfl⟩
theorem GY {m:Nat}(hm:m<3){i:Nat}:(pT m)[i]?.map (fun r=>(r.2.1,r.2.2))=(wj m)[i]? :=by
 have h:(pT m).map (fun r=>(r.2.1,r.2.2))=wj m:=by
  match m,hm with
  | 0,_=>decide
  | 1,_=>decide
  | 2,_=>decide
 rw[<-h,List.getElem?_map]
theorem sn {m:Int}(h:m<0\/3<=m):wj m=[]:=by
 unfold wj;rw[if_neg (by omega),if_neg (by omega),if_neg (by omega)]
theorem G8 {α:Type}{l:List α}{kn:Nat}{n:Int}(hk:l.length=kn) (hn:¬n<0):decide ((kn:Int)<=n)= !(l[n.toNat]?).isSome:=by
 cases hq:l[n.toNat]? with
 |none=>have:=List.getElem?_eq_none_iff.1 hq;simp;omega
 |some v=>have:=(List.getElem?_eq_some_iff.1 hq).1;simp;omega
theorem wG (hg:Dx h) (m n:Int):aq Tryz.prog 115 #[.int .i64 m,.int .i64 n] h (bw fun r h'=>(∃x:By×Int×Int,r= .tuple #[.agg (eT x).toArray,.bool (j9 m n).isSome]/\∀p,j9 m n=some p->(x.2.1,x.2.2)=p)/\aj h h'):=by
 refine bL ?_;refine af ?_;refine xo rfl (cO) ?_;rintro _ h1 ⟨rfl,k1,e1,z1⟩;have k1:aD h1 h.size 138 [.string ⟨#[]⟩,.int .i64 0,.int .i64 0]:=k1
 have hrow:∀mm:Nat,mm<3->∃oa kn kc,cellAt h1 ⟨0,0+mm*1,none⟩=some (.slice oa kn kc)/\Sl Nb h1 (fun _=>False) oa kn kc (pT mm):=fun mm hmm=>by
  obtain⟨v,hv,hsl⟩:=(hg.rules.ah e1) mm hmm;obtain⟨oa,kn,kc,rfl,h2⟩:=hsl.open;exact⟨oa,kn,kc,by rw[Nat.mul_one,Nat.zero_add];exact hv,h2⟩
 have hlenT:∀mm:Nat,mm<3->(pT mm).length=(wj mm).length:=fun mm hmm=>by
  match mm,hmm with
  | 0,_=>rfl
  | 1,_=>rfl
  | 2,_=>rfl
 refine aW ?_;refine cX ?_
 iterate 2 refine aX ?_
 refine fL [(23,.bool (!(j9 m n).isSome))] rfl ?_ ?_
 · refine af ?_;refine dG 8 (fun c1=>?_) (fun c1=>?_)
   · have c1':=of_decide_eq_true c1;refine af ?_;exact aF rfl ⟨au rfl (by rw[j9,sn (.inl c1')];simp),sb rfl⟩
   · have c1':=of_decide_eq_false c1;refine af ?_;refine dG 12 (fun c2=>?_) (fun c2=>?_)
     · have c2':=of_decide_eq_true c2;refine af ?_;exact aF rfl ⟨au rfl (by rw[j9,sn (.inr c2')];simp),sb rfl⟩
     · have c2':=of_decide_eq_false c2;refine af ?_;refine dG 16 (fun c3=>?_) (fun c3=>?_)
       · have c3':=of_decide_eq_true c3;refine af ?_;exact aF rfl ⟨au rfl (by rw[j9,if_pos c3'];rfl),sb rfl⟩
       · have c3':=of_decide_eq_false c3;obtain⟨mm,rfl⟩:=Int.eq_ofNat_of_zero_le (show 0<=m by omega);have hmm:mm<3:=by omega
         obtain⟨oa,kn,kc,hv,hsl⟩:=hrow mm hmm;have hkl:=hsl.len;rw[hlenT mm hmm] at hkl
         iterate 2 refine aW ?_
         refine xp rfl (zW rfl rfl mm rfl (by omega)) ?_;refine xp rfl (aA rfl hv) ?_;refine af ?_;exact aF rfl ⟨au rfl (by rw[j9,if_neg c3'];exact G8 hkl c3'),sb rfl⟩
 · rcases hf:j9 m n with _|p
   · refine fF rfl (by simp) ?_;refine af ?_;refine xp rfl (av (H.Np ) rfl) ?_;refine aM rfl (aY rfl rfl k1) ?_;rintro _ h2 ⟨rfl,k2,x2,z2⟩;refine af ?_;have k2:aD h2 h.size 138 (eT ([],0,0)):=k2;refine ct (cj rfl k2.row (eo cq)) ?_;exact⟨_,rfl,⟨([],0,0),rfl,fun p hp=>by cases hp⟩,e1.only x2 (Nat.le_refl _)⟩
   · have hn0:0<=n:=by
      by_cases q:n<0
      · rw[j9,if_pos q] at hf;cases hf
      · omega
     have hm0:0<=m/\m<3:=by
      by_cases q:m<0\/3<=m
      · rw[j9,sn q] at hf;simp at hf
      · omega
     obtain⟨mm,rfl⟩:=Int.eq_ofNat_of_zero_le hm0.1;obtain⟨i,rfl⟩:=Int.eq_ofNat_of_zero_le hn0;have hmm:mm<3:=by omega
     obtain⟨oa,kn,kc,hv,hsl⟩:=hrow mm hmm;have hkl:=hsl.len;rw[j9,if_neg (by omega),Int.toNat_natCast,<-GY hmm] at hf;obtain⟨r,hr,hrp⟩:=Option.map_eq_some_iff.1 hf;obtain⟨b3,o3,cs3,ha3,_,hrow3,rfl⟩:=hsl.get i r hr;have hil:=(List.getElem?_eq_some_iff.1 hr).1;refine fe rfl (by simp) ?_
     iterate 2 refine aX ?_
     refine cD ?_;refine aW ?_;refine xp rfl (zW rfl rfl mm rfl (by omega)) ?_;refine xp rfl (aA rfl hv) ?_;refine aW ?_;refine xp rfl (cz rfl rfl i rfl ha3) ?_;refine xp rfl (bY rfl hrow3) ?_;refine aM rfl (aY rfl rfl k1 (qJ r)) ?_;rintro _ h2 ⟨rfl,k2,x2,z2⟩;refine af ?_;have k2:aD h2 h.size 138 (eT r):=k2;refine ct (cj rfl k2.row (eo cq)) ?_;exact⟨_,rfl,⟨r,rfl,fun p hp=>by cases hp;exact hrp⟩,e1.only x2 (Nat.le_refl _)⟩
theorem Eo (hg:Dx h) (m n:Int):aq Tryz.prog 67 #[.int .i64 m,.int .i64 n] h (bw fun r h'=>r= .int .i64 (jX m n)/\aj h h'):=by
 refine bL ?_;refine af ?_;refine xo rfl (aE rfl (wG hg m n)) ?_;rintro _ h1 ⟨⟨x,rfl,hx⟩,e1⟩;refine af ?_;refine xo rfl (cO) ?_;rintro _ h2 ⟨rfl,k2,e2,z2⟩;refine aM rfl (aY rfl rfl k2 (qJ x)) ?_;rintro _ h3 ⟨rfl,k3,x3,z3⟩;have k3:aD h3 h1.size 138 (eT x):=k3;have e3:aj h1 h3:=e2.only x3 (Nat.le_refl _)
 rcases hf:j9 m n with _|p
 · refine af ?_;refine fF rfl (by simp) ?_;refine af ?_;refine bp ?_;exact⟨_,rfl,by rw[jX,hf];rfl,e1.trans e3⟩
 · have hp:=hx p hf;refine af ?_;refine fe rfl (by simp) ?_;refine af ?_;refine xp rfl (aA rfl (k3.cell (i:=1) rfl)) ?_;refine af ?_;refine bp ?_;exact⟨_,rfl,by rw[jX,hf,<-hp];rfl,e1.trans e3⟩
def bU (s:uF):List Value:=[.int .i64 s.1,.int .i64 s.2]
theorem iG (s:uF):∀v∈bU s,v.oneCell'=true:=fun v hv=>by simp[bU] at hv;rcases hv with rfl|rfl<;>rfl
def Kt (i:Int):Prop:= -9223372036854775808<=i/\i<=9223372036854775807
theorem tX (hg:Dx h) (s:uF) (n:Int) (hs:Kt s.2):aq Tryz.prog 69 #[.agg (bU s).toArray,.int .i64 n] h (bw fun r h'=>r= .agg (bU (gV s n)).toArray/\aj h h'):=by
 obtain⟨m,d⟩:=s;obtain⟨hd1,hd2⟩:=hs;simp only at hd1 hd2;refine bL ?_;refine af ?_;refine xo rfl (jj) ?_;rintro _ h1 ⟨rfl,k1,e1,z1⟩;refine xo rfl (cO) ?_;rintro _ h2 ⟨rfl,k2,e2,z2⟩;have k1:aD h1 h.size 57 [.int .i64 m,.int .i64 d]:=k1;have k2:aD h2 h1.size 57 [.int .i64 0,.int .i64 0]:=k2;have e02:=e1.trans e2;have q1:=k1.ah e2;refine af ?_;refine xp rfl (aA rfl (q1.cell (i:=0) rfl)) ?_;refine af ?_;refine xo rfl (aE rfl (wG (hg.ah e02) m n)) ?_;rintro _ h3 ⟨⟨x,rfl,hx⟩,e3⟩;refine af ?_;refine xo rfl (cO) ?_;rintro _ h4 ⟨rfl,k4,e4,z4⟩;refine aM rfl (aY rfl rfl k4 (qJ x)) ?_;rintro _ h5 ⟨rfl,k5,x5,z5⟩;have k5:aD h5 h3.size 138 (eT x):=k5;have e45:aj h3 h5:=e4.only x5 (Nat.le_refl _);have e25:=e3.trans e45;have e05:=e02.trans e25;have s1:=q1.ah e25;have s2:=k2.ah e25;have hz1:=e1.size;have hz2:=e2.size;have hz5:=e25.size;have hne:¬h.size=h1.size:=by omega
 have hout:∀{g:ai},Ext (fun b=>b=h1.size) h5 g->aj h g:=fun e=>aj.only e05 e hz1
 rcases hf:j9 m n with _|p
 · have haf:gV (m,d) n=(m,d):=by unfold gV;rw[hf]
   refine af ?_;refine fF rfl (by simp) ?_;refine af ?_;refine fF rfl (by simp) ?_;refine af ?_;refine xp rfl (bY rfl s1.row) ?_;refine aM rfl (aY rfl rfl s2) ?_;rintro _ h6 ⟨rfl,k6,x6,z6⟩;refine af ?_;have k6:aD h6 h1.size 57 (bU (m,d)):=k6;refine ct (cj rfl k6.row cq) ?_;exact⟨_,rfl,by rw[haf];rfl,hout x6⟩
 · have hp:=hx p hf;obtain⟨hp1,hp2⟩:=Prod.mk.inj hp;have haf:gV (m,d) n=if x.2.2=0 then (m,d) else if x.2.2=1 then (1,0) else if x.2.2=3 then (2,min (max d 0) 16383+1) else if x.2.2=4/\1<d then (m,d-1) else (0,0):=by unfold gV;rw[hf,<-hp]
   refine af ?_;refine fe rfl (by simp) ?_;refine af ?_;refine xp rfl (aA rfl (k5.cell (i:=2) rfl)) ?_;refine af ?_;refine aR (fun h0=>?_) (fun h0=>?_)
   · rw[if_pos h0] at haf;refine af ?_;refine xp rfl (bY rfl s1.row) ?_;refine aM rfl (aY rfl rfl s2) ?_;rintro _ h6 ⟨rfl,k6,x6,z6⟩;refine af ?_;have k6:aD h6 h1.size 57 (bU (m,d)):=k6;refine ct (cj rfl k6.row cq) ?_;exact⟨_,rfl,by rw[haf];rfl,hout x6⟩
   · rw[if_neg h0] at haf;refine af ?_;refine xp rfl (aA rfl (k5.cell (i:=2) rfl)) ?_;refine af ?_;refine aR (fun h1'=>?_) (fun h1'=>?_)
     · rw[if_pos h1'] at haf;refine af ?_;refine xp rfl (av (H.Nk _) rfl) ?_;refine aM rfl (aY rfl rfl s2) ?_;rintro _ h6 ⟨rfl,k6,x6,z6⟩;refine af ?_;have k6:aD h6 h1.size 57 (bU (1,0)):=k6;refine ct (cj rfl k6.row cq) ?_;exact⟨_,rfl,by rw[haf];rfl,hout x6⟩
     · rw[if_neg h1'] at haf;refine af ?_;refine xp rfl (aA rfl (k5.cell (i:=2) rfl)) ?_;refine af ?_;refine aR (fun h3'=>?_) (fun h3'=>?_)
       · rw[if_pos h3'] at haf;refine af ?_;refine xp rfl (aA rfl (s1.cell (i:=1) rfl)) ?_;refine af ?_;refine xp rfl (av (H.J4 _ _) rfl) ?_;refine aM rfl (aY rfl rfl s2) ?_;rintro _ h6 ⟨rfl,k6,x6,z6⟩;refine af ?_;have hmm:(if (16383:Int)<if d<0 then 0 else d then 16383 else if d<0 then 0 else d)=min (max d 0) 16383:=by split<;>split<;>omega
         have k6:aD h6 h1.size 57 (bU (2,min (max d 0) 16383+1)):=by rw[<-hmm];exact k6
         refine ct (cj rfl k6.row cq) ?_;exact⟨_,rfl,by rw[haf];rfl,hout x6⟩
       · rw[if_neg h3'] at haf;refine aX ?_;refine fL [(36,.bool (decide (x.2.2=4/\1<d)))] rfl ?_ ?_
         · refine af ?_;refine xp rfl (aA rfl (k5.cell (i:=2) rfl)) ?_;refine af ?_;refine dG 40 (fun hc=>?_) (fun hc=>?_)
           · have hc':=of_decide_eq_true hc;refine af ?_;refine xp rfl (aA rfl (s1.cell (i:=1) rfl)) ?_;refine af ?_;exact aF rfl ⟨au rfl (by simp[hc']),sb rfl⟩
           · have hc':=of_decide_eq_false hc;refine af ?_;exact aF rfl ⟨au rfl (by simp[hc']),sb rfl⟩
         · refine aR (fun h4'=>?_) (fun h4'=>?_)
           · rw[if_pos h4'] at haf;refine af ?_;refine xp rfl (aA rfl (s1.cell (i:=1) rfl)) ?_;refine af ?_;refine aM rfl (bX H.nD rfl rfl rfl (s1.cell (i:=1) rfl) s1.nf) ?_;rintro _ h6 ⟨rfl,hg6⟩;have s6:=s1.set 1 (.int .i64 (d-1));have x6:Ext (fun b=>b=h.size) h5 h6:=by rw[hg6];exact Ext.dV _ _ _ rfl
             have s6:aD h6 h.size 57 (bU (m,d-1)):=by rw[hg6];exact s6
             refine af ?_;refine xp rfl (bY rfl s6.row) ?_;refine aM rfl (aY rfl rfl ((s2.ext x6 (fun k=>by omega))) (iG _)) ?_;rintro _ h7 ⟨rfl,k7,x7,z7⟩;refine af ?_;have k7:aD h7 h1.size 57 (bU (m,d-1)):=k7;refine ct (cj rfl k7.row cq) ?_;have hz6:=x6.size;exact⟨_,rfl,by rw[haf];rfl,aj.only (aj.only e05 x6 (Nat.le_refl _)) x7 hz1⟩
           · rw[if_neg h4'] at haf;refine af ?_;refine xp rfl (av (H.Pd ) rfl) ?_;refine aM rfl (aY rfl rfl s2) ?_;rintro _ h6 ⟨rfl,k6,x6,z6⟩;refine af ?_;have k6:aD h6 h1.size 57 (bU (0,0)):=k6;refine ct (cj rfl k6.row cq) ?_;exact⟨_,rfl,by rw[haf];rfl,hout x6⟩
theorem C4 (hg:Dx h) (s:By) (k:Nat) (hk:k<s.length) (hs:s.length<=1000000):aq Tryz.prog 66 #[.string (bs s),.int .i64 (k:Nat)] h (bw fun r h'=>(∃(x:Nat) (ok:Bool),r= .tuple #[.int .i32 (x:Nat),.int .i64 (qM (s.drop k):Nat),.bool ok])/\aj h h'):=by
 have hbs:=aG s;have hne:s.drop k≠[]:=fun e=>by have:=congrArg List.length e;rw[List.length_drop] at this;simp at this;omega
 refine bL ?_;refine aX ?_;refine cD ?_
 iterate 3 refine aW ?_
 refine cX ?_
 iterate 2 refine aX ?_
 refine fL [(14,.bool false)] rfl ?_ ?_
 · refine af ?_;refine RW.cV (d:=9) (b':=false) rfl ((by simp)) ?_;refine af ?_;exact aF rfl ⟨au rfl (by simp;omega),sb rfl⟩
 · refine fe rfl (by decide) ?_;refine af ?_;refine xp rfl (ay.iq underlying9 rfl rfl k rfl (by omega)) ?_;rw[oU];refine xo rfl (aE rfl (Bb hg (s.drop k) hne)) ?_;rintro _ h1 ⟨⟨x,rfl⟩,e1⟩;generalize hn:qM (s.drop k)=n
   iterate 5 refine aW ?_
   refine cX ?_;refine aX ?_;refine fL [(4,.int .i32 (x:Nat)),(5,.int .i64 (n:Nat)),(6,.bool (decide (¬(x:Int)=65533\/(1:Int)<n)))] rfl ?_ ?_
   · refine af ?_;refine dG 26 (fun hc=>?_) (fun hc=>?_)
     · have hc':=of_decide_eq_true hc;refine af ?_;exact aF rfl ⟨rfl,rfl,au rfl (by rw[decide_eq_true (Or.inl hc')]),sb rfl⟩
     · have hc':=of_decide_eq_false hc;refine af ?_;exact aF rfl ⟨rfl,rfl,au rfl (by simp only[decide_eq_decide];exact⟨fun q=>.inr q,fun q=>q.resolve_left hc'⟩),sb rfl⟩
   · refine bp ?_;exact⟨_,rfl,⟨x,_,rfl⟩,e1⟩
theorem CC (k:oC h p):aq Tryz.prog 64 #[p] h (bw fun r h'=>r= .bool false/\h'=h):=by
 obtain⟨lb,vm,rfl,hk,⟨oa,n,c,rfl,hl,_⟩⟩:=k;have hl:n=3:=by rw[<-hl];rfl
 subst hl;refine bL ?_;refine aX ?_;refine cD ?_;refine aW ?_;refine cX ?_;refine aX ?_;refine fL [(2,.bool false)] rfl ?_ ?_
 · refine aW ?_;refine xp rfl (ay.n8 underlying45 rfl rfl) ?_;refine af ?_;refine RW.cV (d:=5) (b':=false) rfl (rfl) ?_;refine af ?_;refine xp rfl (aA rfl (hk.cell (i:=0) rfl)) ?_;refine af ?_;exact aF rfl ⟨au rfl (rfl),sb rfl⟩
 · refine bp ?_;exact⟨_,rfl,rfl,rfl⟩
def Ej (m:Int) (l:By):Int:=if 0<=m/\m<3 then (aK (mO (o8 m)) l 0 0 (0,-1)).2.2 else 0
theorem GR (m:Nat) (hm:m<3) (s:By) (k:Nat) (hk:k<=s.length):dc (mO (o8 m)) s k=((fP m (s.drop k)).1,(fP m (s.drop k)).2,Ej m (s.drop k)):=by
 obtain⟨ss,st,h1,h2,h3,h4,h5⟩:=vT m hm;have hok:=oQ h2;have hsp:=zi hok.1 hok.2;have htl:=DL hok.1 hsp.1 hsp.2.2.2.2 hok.2 hsp.2.1 (fun w=>(hsp.2.2.2.1 w).symm) s k;have htm:=BT h2 s k;have hst:=(gw h1).stl
 have hM:AL (iu m) s k=fP m (s.drop k):=by
  unfold AL Ef;rw[h1];simp only;rw[if_neg (by omega),Int.toNat_natCast,h4]
 rw[hM] at htm
 have hA:(dc (mO (o8 m)) s k).2.2=Ej m (s.drop k):=by
  rw[Ej,if_pos (show (0:Int)<=m/\(m:Int)<3 by omega),dc,if_neg (by have:=hsp.2.1;omega),Int.toNat_natCast]
 rw[<-hA];refine Prod.ext ?_ (Prod.ext ?_ rfl)
 · rw[<-htl.1];exact(Prod.mk.inj htm).1
 · rw[<-htl.2.1];exact(Prod.mk.inj htm).2
theorem Jb {m:Int}(h:m<0\/3<=m) (l:By):fP m l=(0,-1):=by
 unfold fP;rw[if_neg (by omega),if_neg (by omega),if_neg (by omega)]
theorem AM (k:oC h p) (s:By) (i:Nat) (hi:i<=s.length) (hs:s.length<=1000000) (m:Int) :
 aq Tryz.prog 65 #[p,.string (bs s),.int .i64 (i:Nat),.int .i64 m] h (bw fun r h'=>r= .tuple #[.int .i64 (fP m (s.drop i)).1,.int .i64 (fP m (s.drop i)).2,.int .i64 (Ej m (s.drop i))]/\h'=h):=by
 obtain⟨lb,vm,rfl,hk,hv⟩:=k;obtain⟨oa,n,c,rfl,hsl⟩:=hv.open;have hl:n=3:=by rw[<-hsl.len];rfl
 subst hl;refine bL ?_;refine aX ?_;refine cD ?_
 iterate 3 refine aW ?_
 refine cX ?_
 iterate 2 refine aX ?_
 refine fL [(21,.bool (decide (m<0\/3<=m)))] rfl ?_ ?_
 · refine af ?_;refine dG 13 (fun hc=>?_) (fun hc=>?_)
   · have hc':=of_decide_eq_true hc;refine af ?_;exact aF rfl ⟨au rfl (by simp[hc']),sb rfl⟩
   · have hc':=of_decide_eq_false hc;refine af ?_;refine xp rfl (aA rfl (hk.cell (i:=0) rfl)) ?_;refine af ?_;exact aF rfl ⟨au rfl (by simp only[decide_eq_decide];omega),sb rfl⟩
 · refine aR (fun hout=>?_) (fun hout=>?_)
   · rw[Jb hout];refine af ?_;refine bp ?_;exact⟨_,rfl,by rw[Ej,if_neg (by omega)];rfl,rfl⟩
   · obtain⟨mm,rfl⟩:=Int.eq_ofNat_of_zero_le (show 0<=m by omega);have hmm:mm<3:=by omega
     have hx:(vU 3)[mm]? =some (mO (o8 mm)):=by
      match mm,hmm with
      | 0,_=>rfl
      | 1,_=>rfl
      | 2,_=>rfl
     obtain⟨b3,o3,cs3,ha3,_,hrow3,db,rfl,htab⟩:=hsl.get mm _ hx;obtain⟨ss,st,h1,h2,h3,h4,h5⟩:=vT mm hmm;have hok:=oQ h2;have hsp:=zi hok.1 hok.2;refine af ?_;refine xp rfl (aA rfl (hk.cell (i:=0) rfl)) ?_;refine aW ?_;refine xp rfl (cz rfl rfl mm rfl ha3) ?_;refine xp rfl (aA rfl (hrow3 0 _ rfl)) ?_;refine af ?_;refine xo rfl (aE rfl (A8 (s:=s) (a:=(i:Int)) (.inr ⟨db,rfl,htab.rd⟩) hsp.1 hs)) ?_;rintro _ h0 ⟨rfl,hh0⟩;subst hh0;rw[GR mm hmm s i hi];refine af ?_;refine bp ?_;exact⟨_,rfl,rfl,rfl⟩
def fB (t:Tk):List Value:=[.int .i64 t.1,.int .i64 t.2.1,.int .i64 t.2.2]
theorem pS (t:Tk):∀v∈fB t,v.oneCell'=true:=fun v hv=>by simp[fB] at hv;rcases hv with rfl|rfl|rfl<;>rfl
theorem Ht {s:uF}(h:Kt s.2) (n:Int):Kt (gV s n).2:=by
 unfold Kt at *;unfold gV;split
 · exact h
 · split
   · exact h
   · split
     · simp only;omega
     · split
       · simp only;omega
       · split
         · simp only;omega
         · simp only;omega
theorem KL {s:uF}(h:Kt s.2) (l:By):Kt (o7 l s).2:=by
 unfold o7;split
 · exact h
 · exact Ht h _
theorem jL {h':ai}{b:Nat}{t:TypeId}{cs:List Value}(k:aD h b t cs) (k':aD h' b t cs) (e:Ext (fun x=>x=b) h h'):aj h h':=⟨e.size,fun x hx _=>by
 by_cases q:x=b
 · subst q;exact k'.trans k.symm
 · exact e.block x hx q⟩
def MR (s:By) (i:Nat) (st:uF):Value:=.tuple #[.agg (fB (yo (s.drop i) st.1,(i:Int),((i+iP (s.drop i) st.1:Nat):Int))).toArray,.agg (bU (o7 (s.drop i) st)).toArray,.int .i64 (Ej st.1 (s.drop i))]
theorem GG (hg:Dx h) (k:oC h p) (s:By) (i:Nat) (hi:i<s.length) (hs:s.length<=1000000) (st:uF) (hst:Kt st.2) :
 aq Tryz.prog 35 #[p,.string (bs s),.int .i64 (i:Nat),.agg (bU st).toArray] h (bw fun r h'=>r=MR s i st/\aj h h'):=by
 have hbs:=aG s;unfold MR;have hne:s.drop i≠[]:=fun e=>by have:=congrArg List.length e;rw[List.length_drop] at this;simp at this;omega
 have hll:=CE st.1 (s.drop i);have hrl:=B8 hne;rw[List.length_drop] at hll hrl;refine bL ?_;refine af ?_;refine xo rfl (jj) ?_;rintro _ h1 ⟨rfl,k7,e1,z1⟩;refine xo rfl (cO) ?_;rintro _ h2 ⟨rfl,k8,e2,z2⟩;refine xo rfl (cO) ?_;rintro _ h3 ⟨rfl,k9,e3,z3⟩;have k7:aD h1 h.size 57 (bU st):=k7;have k8:aD h2 h1.size 87 (fB (0,0,0)):=k8;have k9:aD h3 h2.size 57 (bU (0,0)):=k9;have e03:=(e1.trans e2).trans e3;have q7:=(k7.ah e2).ah e3;have q8:=k8.ah e3;have y1:=e1.size;have y2:=e2.size;have hout:∀{g g2 g3:ai},aj h3 g->Ext (fun b=>b=h1.size) g g2->Ext (fun b=>b=h2.size) g2 g3->aj h g3:=fun ea eb ec=>aj.only (aj.only (e03.trans ea) eb (by omega)) ec (by omega)
 refine aW ?_;refine cX ?_
 iterate 2 refine aX ?_
 refine fL [(27,.bool false)] rfl ?_ ?_
 · refine af ?_;refine xo rfl (aE rfl (CC (k.ah e03))) ?_;rintro _ h4 ⟨rfl,hh4⟩;subst hh4;refine af ?_;refine RW.cV (d:=18) (b':=false) rfl (rfl) ?_;refine af ?_;refine RW.cV (d:=22) (b':=false) rfl ((by simp)) ?_;refine af ?_;exact aF rfl ⟨au rfl (by simp;omega),sb rfl⟩
 · refine fe rfl (by decide) ?_;refine af ?_;refine xp rfl (aA rfl (q7.cell (i:=0) rfl)) ?_;refine xo rfl (aE rfl (AM (k.ah e03) s i (by omega) hs st.1)) ?_;rintro _ h4 ⟨rfl,hh4⟩;subst hh4;refine af ?_;refine aR (fun hz=>?_) (fun hz=>?_)
   · have hlen:iP (s.drop i) st.1=qM (s.drop i):=by rw[iP,if_pos hz]
     have hknd:yo (s.drop i) st.1=0:=by rw[yo,if_pos hz]
     have hnxt:o7 (s.drop i) st=st:=by rw[o7,if_pos hz]
     rw[hlen,hknd,hnxt];refine af ?_;refine xo rfl (aE rfl (C4 (hg.ah e03) s i hi hs)) ?_;rintro _ h5 ⟨⟨x,ok,rfl⟩,e5⟩;have r7:=q7.ah e5;have r8:=q8.ah e5;have r9:=k9.ah e5;have y5:=e5.size;have hM7:¬(h.size=h1.size\/h.size=h2.size\/Array.size h5<=h.size):=by have:=e03.size;omega
     refine af ?_;refine me 10 (fun b=>b=Array.size h1\/b=Array.size h2\/Array.size h5<=b) (fun i=>Nat.blt i 9) ?_;refine aI 0 ?_;refine aI 1 ?_;refine aI 2 ?_;refine aI 3 ?_;refine bI 4 rfl (fun h' e=>av (H.xu _ _ _) rfl) ?_;refine bI 5 rfl (fun h' e=>bY rfl (e.rowAt hM7 r7.row)) ?_;refine aI 6 ?_;refine kX 7 rfl (aY rfl rfl r8) ?_;rintro _ h6 ⟨rfl,w8,x6,z6⟩;refine⟨fun _=>x6.mono (fun _ _ k=>.inl k),?_⟩;refine kX 8 rfl (aY rfl rfl ((r9.ext x6 (fun k=>by omega))) (iG st)) ?_;rintro _ h7 ⟨rfl,w9,x7,z7⟩;refine⟨fun _=>x7.mono (fun _ _ k=>.inr (.inl k)),?_⟩;have w8:aD h6 h1.size 87 (fB (0,(i:Int),((i+qM (s.drop i):Nat):Int))):=by rw[Int.natCast_add];exact w8
     have w8:=w8.ext x7 (show ¬h1.size=h2.size by omega);have w9:aD h7 h2.size 57 (bU st):=w9;refine aI 9 ?_;refine iT ?_;refine ct (cj rfl w8.row (cj rfl w9.row (eo cq))) ?_;exact⟨_,rfl,rfl,hout e5 x6 x7⟩
   · obtain⟨L,hL⟩:=Int.eq_ofNat_of_zero_le hll.1;have hL0:0<L:=by omega
     have hlen:iP (s.drop i) st.1=L:=by rw[iP,if_neg hz,hL];rfl
     have hknd:yo (s.drop i) st.1=if jX st.1 (fP st.1 (s.drop i)).2=3/\bz ((s.drop i).take L)=true then 4 else jX st.1 (fP st.1 (s.drop i)).2:=by rw[yo,if_neg hz,hL];rfl
     have hnxt:o7 (s.drop i) st=gV st (fP st.1 (s.drop i)).2:=by rw[o7,if_neg hz]
     rw[hlen,hknd,hnxt,hL];generalize (fP st.1 (s.drop i)).2=rl at *;rw[hL] at hll;refine af ?_;refine xp rfl (aA rfl (q7.cell (i:=0) rfl)) ?_;refine af ?_;refine xo rfl (aE rfl (Eo (hg.ah e03) st.1 rl)) ?_;rintro _ h5 ⟨rfl,e5⟩;refine af ?_;refine xp rfl (av (H.xu _ _ _) rfl) ?_;refine aM rfl (aY rfl rfl ((q8.ah e5))) ?_;rintro _ h6 ⟨rfl,w8,x6,z6⟩;have w8:aD h6 h1.size 87 (fB (jX st.1 rl,(i:Int),((i+L:Nat):Int))):=by rw[Int.natCast_add];exact w8
     generalize jX st.1 rl=kd at *;have hcut:(bs s).extract i (i+L)=bs ((s.drop i).take L):=by rw[Bg s i (i+L) (by omega),List.drop_take,Nat.add_sub_cancel_left]
     have y6:=x6.size;have e06:aj h h6:=aj.only (e03.trans e5) x6 (by omega);have r7:=(q7.ah e5).ext x6 (show ¬h.size=h1.size by omega);have r9:=(k9.ah e5).ext x6 (show ¬h2.size=h1.size by omega);refine cX ?_
     iterate 2 refine aX ?_
     refine fL [(76,.bool (decide (kd=3/\bz ((s.drop i).take L)=true)))] rfl ?_ ?_
     · refine af ?_;refine xp rfl (aA rfl (w8.cell (i:=0) rfl)) ?_;refine af ?_;refine dG 68 (fun hc=>?_) (fun hc=>?_)
       · have hc':kd=3:=of_decide_eq_true hc;refine af ?_;refine xp rfl (aA rfl (w8.cell (i:=1) rfl)) ?_;refine af ?_;refine xp rfl (aA rfl (w8.cell (i:=2) rfl)) ?_;refine xp rfl (ay.B0 underlying9 rfl rfl i rfl rfl (i+L) rfl (by omega) (by omega)) ?_;rw[hcut];refine xo rfl (aE rfl (uJ (hg.ah e06) ((s.drop i).take L) (by rw[List.length_take,List.length_drop];omega))) ?_;rintro _ h7 ⟨rfl,hh7⟩;subst hh7;refine af ?_;exact aF rfl ⟨au rfl (by simp[hc']),sb rfl⟩
       · have hc':¬kd=3:=of_decide_eq_false hc;refine af ?_;exact aF rfl ⟨au rfl (by simp[hc']),sb rfl⟩
     · refine aR (fun hw=>?_) (fun hw=>?_)
       · refine af ?_;refine aM rfl (bX H.nD rfl rfl rfl (w8.cell (i:=0) rfl) w8.nf) ?_;rintro _ h7 ⟨rfl,hg7⟩;have w7:=w8.set 0 (.int .i64 4);have x7:Ext (fun b=>b=h1.size) h6 h7:=by rw[hg7];exact Ext.dV _ _ _ rfl
         have w7:aD h7 h1.size 87 (fB (4,(i:Int),((i+L:Nat):Int))):=by rw[hg7];exact w7
         have y7:=x7.size;have e07:aj h h7:=aj.only e06 x7 (by omega);have p7:=r7.ext x7 (show ¬h.size=h1.size by omega);have p9:=r9.ext x7 (show ¬h2.size=h1.size by omega);have hMa:¬(h1.size=h2.size\/Array.size h7<=h1.size):=by have:=e03.size;have:=e5.size;omega
         have hMb:¬(h.size=h2.size\/Array.size h7<=h.size):=by have:=e03.size;have:=e5.size;omega
         refine af ?_;refine me 8 (fun b=>b=Array.size h2\/Array.size h7<=b) (fun i=>Nat.blt i 7) ?_;refine bI 0 rfl (fun h' e=>bY rfl (e.rowAt hMa w7.row)) ?_;refine bI 1 rfl (fun h' e=>bY rfl (e.rowAt hMb p7.row)) ?_;refine aI 2 ?_;refine aI 4 ?_;refine dH 3 rfl (aE rfl (tX (hg.ah e07) st rl hst)) ?_;rintro _ h8 ⟨rfl,e8⟩;refine⟨fun _=>e8.mono (fun _ _ k=>k.elim),?_⟩;have w8':=w7.ah e8;refine kX 5 rfl (aY rfl rfl w8' (pS _)) ?_;rintro _ h9 ⟨rfl,w9',x9,z9⟩;refine⟨fun _=>(jL w8' w9' x9).mono (fun _ _ k=>k.elim),?_⟩;have w9':aD h9 h1.size 87 (fB (4,(i:Int),((i+L:Nat):Int))):=w9';have e9:=jL w8' w9' x9;have p9':=(p9.ah e8).ah e9;refine kX 6 rfl (aY rfl rfl p9' (iG _)) ?_;rintro _ h10 ⟨rfl,w10,x10,z10⟩;refine⟨fun _=>x10.mono (fun _ _ k=>.inl k),?_⟩;have w10:aD h10 h2.size 57 (bU (gV st rl)):=w10;have w11:=w9'.ext x10 (show ¬h1.size=h2.size by omega);refine aI 7 ?_;refine iT ?_;refine ct (cj rfl w11.row (cj rfl w10.row (eo cq))) ?_;have y10:=x10.size;exact⟨_,rfl,by rw[if_pos hw];rfl,aj.only ((e07.trans e8).trans e9) x10 (by omega)⟩
       · have hMa:¬(h1.size=h2.size\/Array.size h6<=h1.size):=by have:=e03.size;have:=e5.size;omega
         have hMb:¬(h.size=h2.size\/Array.size h6<=h.size):=by have:=e03.size;have:=e5.size;omega
         refine af ?_;refine me 8 (fun b=>b=Array.size h2\/Array.size h6<=b) (fun i=>Nat.blt i 7) ?_;refine bI 0 rfl (fun h' e=>bY rfl (e.rowAt hMa w8.row)) ?_;refine bI 1 rfl (fun h' e=>bY rfl (e.rowAt hMb r7.row)) ?_;refine aI 2 ?_;refine aI 4 ?_;refine dH 3 rfl (aE rfl (tX (hg.ah e06) st rl hst)) ?_;rintro _ h8 ⟨rfl,e8⟩;refine⟨fun _=>e8.mono (fun _ _ k=>k.elim),?_⟩;have w8':=w8.ah e8;refine kX 5 rfl (aY rfl rfl w8' (pS _)) ?_;rintro _ h9 ⟨rfl,w9',x9,z9⟩;refine⟨fun _=>(jL w8' w9' x9).mono (fun _ _ k=>k.elim),?_⟩;have w9':aD h9 h1.size 87 (fB (kd,(i:Int),((i+L:Nat):Int))):=w9';have e9:=jL w8' w9' x9;have p9':=(r9.ah e8).ah e9;refine kX 6 rfl (aY rfl rfl p9' (iG _)) ?_;rintro _ h10 ⟨rfl,w10,x10,z10⟩;refine⟨fun _=>x10.mono (fun _ _ k=>.inl k),?_⟩;have w10:aD h10 h2.size 57 (bU (gV st rl)):=w10;have w11:=w9'.ext x10 (show ¬h1.size=h2.size by omega);refine aI 7 ?_;refine iT ?_;refine ct (cj rfl w11.row (cj rfl w10.row (eo cq))) ?_;have y10:=x10.size;exact⟨_,rfl,by rw[if_neg hw];rfl,aj.only ((e06.trans e8).trans e9) x10 (by omega)⟩
theorem KJ {b:Bool}(hn:∀g,aj h g->aq Tryz.prog 64 #[p] g (bw fun r h'=>r= .bool b/\h'=g)) (s:By) (i:Int) (hs:s.length<=1000000) (st:uF) (hb:b=true\/i<0\/(s.length:Int)<=i) :
 aq Tryz.prog 35 #[p,.string (bs s),.int .i64 i,.agg (bU st).toArray] h (bw fun r h'=>r= .tuple #[.agg (fB (0,0,0)).toArray,.agg (bU st).toArray,.int .i64 0]/\aj h h'):=by
 have hbs:=aG s;refine bL ?_;refine af ?_;refine xo rfl (jj) ?_;rintro _ h1 ⟨rfl,k7,e1,z1⟩;refine xo rfl (cO) ?_;rintro _ h2 ⟨rfl,k8,e2,z2⟩;refine xo rfl (cO) ?_;rintro _ h3 ⟨rfl,k9,e3,z3⟩;have k7:aD h1 h.size 57 (bU st):=k7;have k8:aD h2 h1.size 87 (fB (0,0,0)):=k8;have k9:aD h3 h2.size 57 (bU (0,0)):=k9;have e03:=(e1.trans e2).trans e3;have q7:=(k7.ah e2).ah e3;have q8:=k8.ah e3;have y1:=e1.size;have y2:=e2.size;refine aW ?_;refine cX ?_
 iterate 2 refine aX ?_
 refine fL [(27,.bool true)] rfl ?_ ?_
 · refine af ?_;refine xo rfl (aE rfl (hn _ e03)) ?_;rintro _ h4 ⟨rfl,hh4⟩;subst hh4;refine af ?_;refine dG 18 (fun c1=>?_) (fun c1=>?_)
   · refine af ?_;exact aF rfl ⟨au rfl (rfl),sb rfl⟩
   · refine af ?_;refine dG 22 (fun c2=>?_) (fun c2=>?_)
     · refine af ?_;exact aF rfl ⟨au rfl (rfl),sb rfl⟩
     · have c2':=of_decide_eq_false c2;refine af ?_;exact aF rfl ⟨au rfl (by rw[decide_eq_true_iff];rcases hb with k|k|k;rw[c1] at k;cases k;exact absurd k c2';omega),sb rfl⟩
 · refine fF rfl (by decide) ?_;have hM:¬(h.size=h1.size\/Array.size h3<=h.size):=by have:=e03.size;omega
   refine af ?_;refine me 5 (fun b=>b=Array.size h1\/Array.size h3<=b) (fun i=>Nat.blt i 3) ?_;refine bI 0 rfl (fun h' e=>av (H.Pb ) rfl) ?_;refine bI 1 rfl (fun h' e=>bY rfl (e.rowAt hM q7.row)) ?_;refine kX 2 rfl (aY rfl rfl q8) ?_;rintro _ h4 ⟨rfl,w8,x4,zz4⟩;refine⟨fun _=>x4.mono (fun _ _ k=>.inl k),?_⟩;have w8:aD h4 h1.size 87 (fB (0,0,0)):=w8;refine kX 3 rfl (aY rfl rfl ((k9.ext x4 (show ¬h2.size=h1.size by omega))) (iG st)) ?_;rintro _ h5 ⟨rfl,w9,x5,z5⟩;refine⟨nofun,?_⟩;refine aI 4 ?_;refine iT ?_;have w9:aD h5 h2.size 57 (bU st):=w9;have w8:=w8.ext x5 (show ¬h1.size=h2.size by omega);refine ct (cj rfl w8.row (cj rfl w9.row (eo cq))) ?_;exact⟨_,rfl,rfl,aj.only (aj.only e03 x4 (by omega)) x5 (by omega)⟩
def Ld:fQ Tk:=.record 3 (by decide) fB (fun _=>rfl) pS
theorem CN (O:Nat->Prop) (hO:∀y,O y->y<h.size) (hg:Dx h) (k:oC h p) (s:By) (hs:s.length<=1000000) :
 aq Tryz.prog 19 #[p,.string (bs s)] h (bw fun r h'=>(∃v,r= .tuple #[v,.agg (bU (dP s).2).toArray]/\aT Ld h' O v (dP s).1)/\aj h h'):=by
 have hbs:=aG s;generalize hres:dP s=res;refine bL ?_;refine af ?_;refine xo rfl (cO) ?_;rintro _ h1 ⟨rfl,k5,e1,z1⟩;have k5:aD h1 h.size 57 (bU (0,0)):=k5;have y1:=e1.size;refine af ?_;refine gY (σ:=Nat×uF×Value×List Tk) (fun q=>[(4,q.2.2.1),(6,.int .i64 (q.1:Nat))]) (fun q h'=>(q.1<=s.length/\q.2.2.2.length<=q.1/\Kt q.2.1.2)/\aj h h'/\h1.size<=h'.size/\aD h' h.size 57 (bU q.2.1)/\mh 3 fB h' h1.size 87 q.2.2.1 q.2.2.2/\(q.2.2.2++(iA s.length (s.drop q.1) q.1 q.2.1).1,(iA s.length (s.drop q.1) q.1 q.2.1).2)=res) (fun q=>s.length+1-q.1) ((0,(0,0),.slice none 0 0,[])) ⟨⟨Nat.zero_le _,by simp,by show Kt 0;unfold Kt;omega⟩,e1,Nat.le_refl _,k5,mh.nil _ _ _ _ _,hres⟩ rfl ?_;rintro⟨i,st,vt,toks⟩ g ⟨⟨hi,htl,hst⟩,eg,hz,kS,ho,hcon⟩ ih
 try dsimp only
 dsimp only at hi htl hst kS ho hcon;have hho:aB g h1.size 87 3 vt toks.length (toks.flatMap fB):=ho;obtain⟨ta,tc,rfl,_⟩:=hho.open;have tge:∀b,(Value.slice ta toks.length tc).ownBlock=some b->h1.size<=b/\b<g.size:=fun b hb=>hho.lt hb
 rcases Nat.lt_or_ge i s.length with hlt|hge
 · have hne:s.drop i≠[]:=fun e=>by have:=congrArg List.length e;rw[List.length_drop] at this;simp at this;omega
   have hkl:=qX hne st.1;rw[List.length_drop] at hkl;rw[sK hne (by rw[List.length_drop];omega)] at hcon;have hone:=GG (hg.ah eg) (k.ah eg) s i hlt hs st hst;unfold MR at hone;have hnI:=KL hst (s.drop i);rw[List.drop_drop] at hcon;generalize iP (s.drop i) st.1=L at *;generalize yo (s.drop i) st.1=kd at *;generalize o7 (s.drop i) st=nx at *;generalize Ej st.1 (s.drop i)=sp at *;refine af ?_;refine xp rfl (bY rfl kS.row) ?_;refine xo rfl (aE rfl hone) ?_;rintro _ g1 ⟨rfl,f1⟩;refine af ?_;refine xo rfl (cO) ?_;rintro _ g2 ⟨rfl,c7,f2,y2⟩;refine xo rfl (cO) ?_;rintro _ g3 ⟨rfl,c8,f3,y3⟩;refine aM rfl (aY rfl rfl ((c7.ah f3)) (pS _)) ?_;rintro _ g4 ⟨rfl,d7,x4,y4⟩;have d7:aD g4 g1.size 87 (fB (kd,(i:Int),((i+L:Nat):Int))):=d7;have yz1:=f1.size;have yz2:=f2.size;have yz4:=x4.size;refine aM rfl (aY rfl rfl (((c8.ext x4 (show ¬g2.size=g1.size by omega)))) (iG nx)) ?_;rintro _ g5 ⟨rfl,d8,x5,y5⟩;have d8:aD g5 g2.size 57 (bU nx):=d8;have d7:=d7.ext x5 (show ¬g1.size=g2.size by omega);have yz5:=x5.size;have eg5:aj g g5:=aj.only (aj.only ((f1.trans f2).trans f3) x4 (by omega)) x5 (by omega);have hho5:=hho.CW eg5;refine af ?_;refine xp rfl (aA rfl (d7.cell (i:=2) rfl)) ?_;refine af ?_;refine fe rfl (by simp;omega) ?_;refine af ?_;refine xp rfl (bY rfl d7.row) ?_;refine xo rfl (ue) ?_;rintro _ _ ⟨rfl,rfl⟩;refine xo rfl (aQ.gG underlying55 H.OR rfl rfl (hho5) rfl rfl (pS _) (by omega) (by decide) (by omega)) ?_;rintro vt2 g6 ⟨ho6,hx6,hx6',hv6⟩;have yz6:=hx6.size;have d7:=d7.ext hx6 (fun k=>by have:=tge _ k.symm;omega);have d8:=d8.ext hx6 (fun k=>by have:=tge _ k.symm;omega);have kS6:=(kS.ah eg5).ext hx6 (fun k=>by have:=tge _ k.symm;omega);have e06:aj h g6:=Ext.own (eg.trans eg5) hho5 (by omega) hx6;have ho6:mh 3 fB g6 h1.size 87 vt2 (toks++[(kd,(i:Int),((i+L:Nat):Int))]):=mh.of ho6 rfl rfl;have hMa:¬(g1.size=h.size\/Array.size g6<=g1.size):=by omega
   have hMb:¬(g2.size=h.size\/Array.size g6<=g2.size):=by omega
   refine af ?_;refine me 5 (fun b=>b=Array.size h\/Array.size g6<=b) (fun i=>Nat.blt i 6) ?_;refine aI 0 ?_;refine bI 1 rfl (fun h' e=>aA rfl (e.cell hMa (d7.cell (i:=2) rfl))) ?_;refine bI 2 rfl (fun h' e=>bY rfl (e.rowAt hMb d8.row)) ?_;refine aI 3 ?_;refine kX 4 rfl (aY rfl rfl kS6 (iG nx)) ?_;rintro _ g7 ⟨rfl,kS7,x7,y7⟩;refine⟨fun _=>x7.mono (fun _ _ k=>.inl k),?_⟩;have kS7:aD g7 h.size 57 (bU nx):=kS7;have ho7:mh 3 fB g7 h1.size 87 vt2 (toks++[(kd,(i:Int),((i+L:Nat):Int))]):=aB.ext x7 ho6 (fun b hb (k:b=h.size)=>by have:=(aB.lt ho6 hb).1;omega);refine iT ?_;refine af ?_;exact ih (i+L,nx,vt2,toks++[(kd,(i:Int),((i+L:Nat):Int))]) ⟨⟨by show i+L<=s.length;omega,by simp;omega,hnI⟩,aj.only e06 x7 (by omega),by have:=x7.size;show h1.size<=g7.size;omega,kS7,ho7,by simpa using hcon⟩
 · obtain rfl:i=s.length:=by omega
   have hone:=KJ (h:=g) (p:=p) (b:=false) (fun g' eg'=>CC (k.ah (eg.trans eg'))) s (s.length:Nat) hs st (.inr (.inr (by omega)));rw[List.drop_length,Dg] at hcon;refine af ?_;refine xp rfl (bY rfl kS.row) ?_;refine xo rfl (aE rfl hone) ?_;rintro _ g1 ⟨rfl,f1⟩;refine af ?_;refine xo rfl (cO) ?_;rintro _ g2 ⟨rfl,c7,f2,y2⟩;refine xo rfl (cO) ?_;rintro _ g3 ⟨rfl,c8,f3,y3⟩;refine aM rfl (aY rfl rfl ((c7.ah f3)) (pS _)) ?_;rintro _ g4 ⟨rfl,d7,x4,y4⟩;have d7:aD g4 g1.size 87 (fB (0,0,0)):=d7;have yz1:=f1.size;have yz2:=f2.size;have yz4:=x4.size;refine aM rfl (aY rfl rfl (((c8.ext x4 (show ¬g2.size=g1.size by omega)))) (iG st)) ?_;rintro _ g5 ⟨rfl,d8,x5,y5⟩;have d7:=d7.ext x5 (show ¬g1.size=g2.size by omega);have yz5:=x5.size;have eg5:aj g g5:=aj.only (aj.only ((f1.trans f2).trans f3) x4 (by omega)) x5 (by omega);have hho5:=ho.ah eg5;have kS5:=kS.ah eg5;refine af ?_;refine xp rfl (aA rfl (d7.cell (i:=2) rfl)) ?_;refine af ?_;refine fF rfl (by simp) ?_;have hMa:¬(h.size=h.size/\Array.size g5<=h.size):=by omega
   refine af ?_;refine me 4 (fun b=>Array.size g5<=b) (fun i=>Nat.blt i 5) ?_;refine aI 0 ?_;refine bI 1 rfl (fun h' e=>bY rfl (e.rowAt (by omega) kS5.row)) ?_;refine aI 2 ?_;refine kX 3 rfl (aY rfl rfl kS5 (iG st)) ?_;rintro _ g7 ⟨rfl,kS7,x7,y7⟩;refine⟨fun _=>(jL kS5 kS7 x7).mono (fun _ _ k=>k.elim),?_⟩;have kS7:aD g7 h.size 57 (bU st):=kS7;have e7:=jL kS5 kS7 x7;refine iT ?_;refine ct (eo (cj rfl kS7.row cq)) ?_;rw[<-hcon];exact⟨_,rfl,⟨_,rfl,by show aT Ld g7 _ _ (toks++[]);rw[List.append_nil];exact mh.read (hho5.ah e7) (fun b hb k=>by have:=hO b k;omega)⟩,(eg.trans eg5).trans e7⟩
theorem En (hg:Dx h) (k:oC h p) (s:By) (hs:s.length<=1000000) :
 aq Tryz.prog 19 #[p,.string (bs s)] h (bw fun r h'=>(∃v,r= .tuple #[v,.agg (bU (dP s).2).toArray]/\aT Ld h' (fun _=>False) v (dP s).1)/\aj h h'):=CN _ (fun _ k=>k.elim) hg k s hs
end
end Go.Proofs.YtoickfdopobmgaaGreatDoor
namespace Go.Proofs.YtoickfdopobmgaaGreatDoor
open Go Go.Lw
set_option maxRecDepth 100000
section
variable {c:UInt8}
structure Sm where
  how:Nat
  a:UInt8
  b:UInt8
  c:UInt8
  d:UInt8
def Sm.Ok (x:Sm):Prop:=x.how<6/\(x.a=97\/x.a=98\/x.a=99\/x.a=100)/\(x.b=97\/x.b=98\/x.b=99\/x.b=100)/\dz x.c=true/\dz x.d=true
def Sm.text (x:Sm):By :=
  if x.how=0 then [108,101,116,32,x.a,32,61,32,x.c,x.d]
  else if x.how=1 then [108,101,116,32,x.a,32,61,32,x.b,32,43,32,x.c,x.d]
  else if x.how=2 then [x.a]
  else if x.how=3 then [x.a,32,42,32,x.b,32,45,32,x.c,x.d]
  else if x.how=4 then [108,101,116,32,x.a,32,61,32,102,117,110,32,120,32,45,62,32,120,32,43,32,x.b]
  else [x.a,40,x.b,41]
def Sm.units (x:Sm):List Sh :=
  if x.how=0 then [(4,kZ),(3,[x.a]),(6,[61]),(5,[x.c,x.d])]
  else if x.how=1 then [(4,kZ),(3,[x.a]),(6,[61]),(3,[x.b]),(6,[43]),(5,[x.c,x.d])]
  else if x.how=2 then [(3,[x.a])]
  else if x.how=3 then [(3,[x.a]),(6,[42]),(3,[x.b]),(6,[45]),(5,[x.c,x.d])]
  else if x.how=4 then [(4,kZ),(3,[x.a]),(6,[61]),(4,uQ),(3,[120]),(6,[45,62]),(3,[120]),(6,[43]),(3,[x.b])]
  else [(3,[x.a]),(7,[40]),(3,[x.b]),(8,[41])]
def Sm.node (x:Sm):Tr :=
  if x.how=0 then .mk 7 [x.a] [.mk 0 [x.c,x.d] []]
  else if x.how=1 then .mk 7 [x.a] [.mk 5 [43] [.mk 3 [x.b] [],.mk 0 [x.c,x.d] []]]
  else if x.how=2 then .mk 3 [x.a] []
  else if x.how=3 then .mk 5 [45] [.mk 5 [42] [.mk 3 [x.a] [],.mk 3 [x.b] []],.mk 0 [x.c,x.d] []]
  else if x.how=4 then .mk 7 [x.a] [.mk 8 [120] [.mk 5 [43] [.mk 3 [120] [],.mk 3 [x.b] []]]]
  else .mk 9 [] [.mk 3 [x.a] [],.mk 3 [x.b] []]
theorem Bs (h:c=97\/c=98\/c=99\/c=100):jR bz [c]=true/\(c≠32/\c≠9/\c≠13):=by
  rcases h with rfl|rfl|rfl|rfl<;>decide +kernel
theorem Nh {d:UInt8}(h1:dz c=true) (h2:dz d=true):ym [c,d]=true:=by
  unfold ym dN cK;simp only[List.dropWhile,h1,h2];rfl
theorem Nf (h:dz c=true):c≠32/\c≠9/\c≠13:=by
  refine⟨?_,?_,?_⟩<;>intro q<;>rw[q] at h<;>revert h<;>decide
theorem fT (h:c≠32/\c≠9/\c≠13) (l:By):Hd (c::l):=⟨c,l,rfl,h⟩
theorem Sm.Q9 {x:Sm}(h:x.Ok){r:By}{us:List Sh}(hr:yD r) (ih:kQ r us):kQ (x.text++r) (x.units++us):=by
  obtain⟨h0,ha,hb,hc,hd⟩:=h;obtain⟨na,pa⟩:=Bs ha;obtain⟨nb,pb⟩:=Bs hb;have nn:=Nh hc hd;have pc:=Nf hc;unfold Sm.text Sm.units;have L:∀(r:By){us:List Sh},Hd r->kQ r us->kQ (kZ++32::r) ((4,kZ)::us):=fun _ _ hh k=>HQ (by decide) (by decide +kernel) (E1 _) (HR hh k)
  have F:∀(r:By){us:List Sh},Hd r->kQ r us->kQ (uQ++32::r) ((4,uQ)::us):=fun _ _ hh k=>HQ (by decide) (by decide +kernel) (E1 _) (HR hh k)
  have N:∀(c:UInt8) (r:By){us:List Sh},jR bz [c]=true->Hd r->kQ r us->kQ ([c]++32::r) ((3,[c])::us):=fun _ _ _ n hh k=>uO n (E1 _) (HR hh k)
  have O:∀(w r:By){us:List Sh},w∈opsL->Hd r->kQ r us->kQ (w++32::r) ((6,w)::us):=fun _ _ _ n hh k=>NZ n (HR hh k)
  have Q:kQ ([x.c,x.d]++r) ((5,[x.c,x.d])::us):=N0 nn hr ih;have B:kQ ([x.b]++r) ((3,[x.b])::us):=uO nb hr ih;have n120:jR bz [120]=true:=by decide +kernel
  have hq:∀l,Hd (61::l):=fT (by decide);have hp:∀l,Hd (43::l):=fT (by decide);have hm:∀l,Hd (45::l):=fT (by decide);have ht:∀l,Hd (42::l):=fT (by decide);have hf:∀l,Hd (102::l):=fT (by decide);have hx:∀l,Hd (120::l):=fT (by decide);have m1:[61]∈opsL:=by decide
  have m2:[43]∈opsL:=by decide
  have m3:[42]∈opsL:=by decide
  have m4:[45]∈opsL:=by decide
  have m5:[45,62]∈opsL:=by decide
  match hh:x.how,h0 with
  | 0,_=>exact L _ (fT pa _) (N _ _ na (hq _) (O _ _ m1 (fT pc _) Q))
  | 1,_=>exact L _ (fT pa _) (N _ _ na (hq _) (O _ _ m1 (fT pb _) (N _ _ nb (hp _) (O _ _ m2 (fT pc _) Q))))
  | 2,_=>exact uO na hr ih
  | 3,_=>exact N _ _ na (ht _) (O _ _ m3 (fT pb _) (N _ _ nb (hm _) (O _ _ m4 (fT pc _) Q)))
  | 4,_=>exact L _ (fT pa _) (N _ _ na (hq _) (O _ _ m1 (hf _) (F _ (hx _) (N _ _ n120 (hm _) (O _ _ m5 (hx _) (N _ _ n120 (hp _) (O _ _ m2 (fT pb _) B)))))))
  | 5,_=>exact uO na (yD.op _) (Ms (.inl rfl) (uO nb (yD.cl _) (KA (.inl rfl) ih)))
def Q2 (r:List Un):Prop:=r=[]\/∃q r',r=q::r'/\q.1=6/\q.2.1=[59]
theorem Sm.Ra {x:Sm}(h:x.how<6) (e:Int){vs r:List Un}(hv:vs.map Ce=x.units) (hr:Q2 r):vs≠[]/\∃n,pM e n .stmt (.ok (vs++r))=some (x.node,.ok r):=by
  unfold Sm.units at hv;unfold Sm.node
  match hh:x.how,h with
  | 0,_ =>
    rw[hh,if_pos rfl] at hv
    match vs,hv with
    | [(_,_,p0),(_,_,p1),(_,_,p2),(_,_,p3)],hv =>
      simp only[List.map_cons,List.map_nil,Ce,List.cons.injEq,Prod.mk.injEq,and_true] at hv;obtain⟨⟨rfl,rfl⟩,⟨rfl,rfl⟩,⟨rfl,rfl⟩,rfl,rfl⟩:=hv;refine⟨by simp,40,?_⟩
      rcases hr with rfl|⟨⟨k,t,p⟩,r',rfl,h1,h2⟩
      · kernel_rfl
      · dsimp only at h1 h2;subst h1 h2;kernel_rfl
  | 1,_ =>
    rw[hh,if_neg (by decide),if_pos rfl] at hv
    match vs,hv with
    | [(_,_,p0),(_,_,p1),(_,_,p2),(_,_,p3),(_,_,p4),(_,_,p5)],hv =>
      simp only[List.map_cons,List.map_nil,Ce,List.cons.injEq,Prod.mk.injEq,and_true] at hv;obtain⟨⟨rfl,rfl⟩,⟨rfl,rfl⟩,⟨rfl,rfl⟩,⟨rfl,rfl⟩,⟨rfl,rfl⟩,rfl,rfl⟩:=hv;refine⟨by simp,40,?_⟩
      rcases hr with rfl|⟨⟨k,t,p⟩,r',rfl,h1,h2⟩
      · kernel_rfl
      · dsimp only at h1 h2;subst h1 h2;kernel_rfl
  | 2,_ =>
    rw[hh,if_neg (by decide),if_neg (by decide),if_pos rfl] at hv
    match vs,hv with
    | [(_,_,p0)],hv =>
      simp only[List.map_cons,List.map_nil,Ce,List.cons.injEq,Prod.mk.injEq,and_true] at hv;obtain⟨rfl,rfl⟩:=hv;refine⟨by simp,40,?_⟩
      rcases hr with rfl|⟨⟨k,t,p⟩,r',rfl,h1,h2⟩
      · kernel_rfl
      · dsimp only at h1 h2;subst h1 h2;kernel_rfl
  | 3,_ =>
    rw[hh,if_neg (by decide),if_neg (by decide),if_neg (by decide),if_pos rfl] at hv
    match vs,hv with
    | [(_,_,p0),(_,_,p1),(_,_,p2),(_,_,p3),(_,_,p4)],hv =>
      simp only[List.map_cons,List.map_nil,Ce,List.cons.injEq,Prod.mk.injEq,and_true] at hv;obtain⟨⟨rfl,rfl⟩,⟨rfl,rfl⟩,⟨rfl,rfl⟩,⟨rfl,rfl⟩,rfl,rfl⟩:=hv;refine⟨by simp,40,?_⟩
      rcases hr with rfl|⟨⟨k,t,p⟩,r',rfl,h1,h2⟩
      · kernel_rfl
      · dsimp only at h1 h2;subst h1 h2;kernel_rfl
  | 4,_ =>
    rw[hh,if_neg (by decide),if_neg (by decide),if_neg (by decide),if_neg (by decide),if_pos rfl] at hv
    match vs,hv with
    | [(_,_,p0),(_,_,p1),(_,_,p2),(_,_,p3),(_,_,p4),(_,_,p5),(_,_,p6),(_,_,p7),(_,_,p8)],hv =>
      simp only[List.map_cons,List.map_nil,Ce,List.cons.injEq,Prod.mk.injEq,and_true] at hv;obtain⟨⟨rfl,rfl⟩,⟨rfl,rfl⟩,⟨rfl,rfl⟩,⟨rfl,rfl⟩,⟨rfl,rfl⟩,⟨rfl,rfl⟩,⟨rfl,rfl⟩,⟨rfl,rfl⟩,rfl,rfl⟩:=hv;refine⟨by simp,40,?_⟩
      rcases hr with rfl|⟨⟨k,t,p⟩,r',rfl,h1,h2⟩
      · kernel_rfl
      · dsimp only at h1 h2;subst h1 h2;kernel_rfl
  | 5,_ =>
    rw[hh,if_neg (by decide),if_neg (by decide),if_neg (by decide),if_neg (by decide),if_neg (by decide)] at hv
    match vs,hv with
    | [(_,_,p0),(_,_,p1),(_,_,p2),(_,_,p3)],hv =>
      simp only[List.map_cons,List.map_nil,Ce,List.cons.injEq,Prod.mk.injEq,and_true] at hv;obtain⟨⟨rfl,rfl⟩,⟨rfl,rfl⟩,⟨rfl,rfl⟩,rfl,rfl⟩:=hv;refine⟨by simp,40,?_⟩
      rcases hr with rfl|⟨⟨k,t,p⟩,r',rfl,h1,h2⟩
      · kernel_rfl
      · dsimp only at h1 h2;subst h1 h2;kernel_rfl
def eH:List By->By
  | []=>[]
  |x::l=>if l=[] then x else x++59::32::eH l
def FD:List (List Sh)->List Sh
  | []=>[]
  |x::l=>if l=[] then x else x++(6,[59])::FD l
theorem Mk {x:Sm}(h:x.Ok) (r:By):Hd (x.text++r):=by
  obtain⟨h0,ha,hb,hc,hd⟩:=h;obtain⟨_,pa⟩:=Bs ha;unfold Sm.text
  match hh:x.how,h0 with
  | 0,_=>exact fT (by decide) _
  | 1,_=>exact fT (by decide) _
  | 2,_=>exact fT pa _
  | 3,_=>exact fT pa _
  | 4,_=>exact fT (by decide) _
  | 5,_=>exact fT pa _
theorem K1:∀{l:List Sm},(∀x∈l,x.Ok)->l≠[]->Hd (eH (l.map Sm.text))
  | [],_,h=>absurd rfl h
  | [x],hl,_=>by
    have:=Mk (hl x (by simp)) [];rw[List.append_nil] at this;exact this
  |x::y::l,hl,_=>Mk (hl x (by simp)) _
theorem CQ:∀{l:List Sm},(∀x∈l,x.Ok)->kQ (eH (l.map Sm.text)) (FD (l.map Sm.units))
  | [],_=>kQ.nil
  | [x],hl=>by
    have:=Sm.Q9 (hl x (by simp)) (r:=[]) (us:=[]) (.inl rfl) kQ.nil;rw[List.append_nil,List.append_nil] at this;exact this
  |x::y::l,hl=>Sm.Q9 (hl x (by simp)) (NC _) (NZ (w:=[59]) (by decide) (HR (K1 (fun z hz=>hl z (List.mem_cons_of_mem _ hz)) (by simp)) (CQ fun z hz=>hl z (List.mem_cons_of_mem _ hz))))
theorem Sm.len (x:Sm):x.text.length<=22:=by
  unfold Sm.text
  repeat' split
  all_goals simp
theorem rj:∀(l:List Sm),(eH (l.map Sm.text)).length<=24*l.length
  | []=>Nat.zero_le _
  | [x]=>by
    have:=x.len
    show x.text.length<=24;omega
  |x::y::l=>by
    have h1:=x.len;have h2:=rj (y::l)
    show (x.text++59::32::eH ((y::l).map Sm.text)).length<=_
    rw[List.length_append,List.length_cons,List.length_cons,List.length_cons];omega
theorem lH {s:By}:∀{l:List Tok}{out:List Un}{op:Bool},out.length+l.length<=500->∀p,dX s l out op≠ .er p 3
  | [],_,_,_,p,h=>by cases h
  |t::l,out,op,hl,p,h=>by
    rw[List.length_cons] at hl;rw[dX] at h;unfold fR at h
    by_cases h0:t.1=0
    · rw[if_pos h0] at h;cases h
    rw[if_neg h0] at h;cases op with
    |true =>
      rw[if_pos rfl] at h
      by_cases h1:t.1=9/\cB s t=[34]
      · rw[if_pos h1] at h;exact lH (by omega) p h
      rw[if_neg h1] at h
      by_cases h2:t.1=10
      · rw[if_pos h2] at h;exact lH (by rw[kq];omega) p h
      · rw[if_neg h2] at h;exact lH (by rw[kq];omega) p h
    |false =>
      rw[if_neg (by decide)] at h
      by_cases h1:t.1=1\/t.1=2\/t.1=11
      · rw[if_pos h1] at h;exact lH (by omega) p h
      rw[if_neg h1,if_neg (by omega)] at h;exact lH (by rw[List.length_append,List.length_singleton];omega) p h
theorem vw (e:Int):∀(l:List Sm) (ks:List Tr) (vs:List Un),(∀x∈l,x.Ok)->vs.map Ce=FD (l.map Sm.units)->∃n,cg e n ks (.ok vs)=some (ks++l.map Sm.node,.ok [])
  | [],ks,vs,_,hv=>by
    have:vs=[]:=List.map_eq_nil_iff.1 hv;subst this;exact⟨1,by rw[cg,if_pos (show PS.len (.ok [])=0 from rfl),List.map_nil,List.append_nil]⟩
  | [x],ks,vs,hl,hv=>by
    obtain⟨hne,n,hn⟩:=Sm.Ra (hl x (by simp)).1 e (vs:=vs) (r:=[]) hv (.inl rfl);rw[List.append_nil] at hn;refine⟨n+2,?_⟩;rw[cg,if_neg (by show ¬vs.length=0;exact fun q=>hne (List.length_eq_zero_iff.1 q)),Fv hn (Nat.le_succ n)];simp only[Option.bind_some];rw[K3]
    show cg e (n+1) (ks++[x.node]) (if PS.len (.ok [])=0 then .ok [] else cI e (.ok []))=_
    rw[if_pos (show PS.len (.ok [])=0 from rfl),cg,if_pos (show PS.len (.ok [])=0 from rfl)];rfl
  |x::y::l,ks,vs,hl,hv=>by
    have hv:vs.map Ce=x.units++(6,[59])::FD ((y::l).map Sm.units):=hv;obtain⟨v1,v2,rfl,h1,h2⟩:=List.map_eq_append_iff.1 hv;obtain⟨q,v3,rfl,h3,h4⟩:=List.map_eq_cons_iff.1 h2
    have hq:q.1=6/\q.2.1=[59]:=by
      have a:=congrArg Prod.fst h3;have b:=congrArg Prod.snd h3;exact⟨a,b⟩
    obtain⟨hne,n,hn⟩:=Sm.Ra (hl x (by simp)).1 e h1 (.inr ⟨q,v3,rfl,hq⟩);obtain⟨m,hm⟩:=vw e (y::l) (ks++[x.node]) v3 (fun z hz=>hl z (List.mem_cons_of_mem _ hz)) h4;refine⟨max n m+1,?_⟩;rw[cg,if_neg (by show ¬(v1++q::v3).length=0;simp),Fv hn (Nat.le_max_left n m)];simp only[Option.bind_some];rw[K2 (k:=6) (ts:=[[59]]) ⟨hq.1,by rw[hq.2];simp⟩];dsimp only;rw[Ci hm (Nat.le_max_right n m)];simp
theorem tq {l:List Sm}(hl:∀x∈l,x.Ok) (h20:l.length<=20):cy (eH (l.map Sm.text)) (dP (eH (l.map Sm.text))).1 (dP (eH (l.map Sm.text))).2.1 (l.map Sm.node) 0 0:=by
  have hu:=CQ hl;have hlen:=rj l;obtain⟨s,hs'⟩:∃s,s=eH (l.map Sm.text):=⟨_,rfl⟩
  rw[<-hs'] at hu hlen ⊢;obtain⟨h1,h2,h3⟩:=hu s 0 s.length rfl (Nat.zero_le _) (Nat.le_refl _);have hall:(dP s).1.all (yp s)=true:=List.all_eq_true.2 h2;have hm:(dP s).2.1=0:=h1;have htk:(dP s).1.length<=s.length:=ox _ _ _ _
  rcases h3 [] with ⟨vs,q1,q2⟩|⟨p,q⟩
  · rw[List.nil_append] at q2
    have hup:eR s (dP s).1 (dP s).2.1= .inr vs:=by
      unfold eR;rw[if_pos hall]
      show (match dX s (iA s.length s 0 (0,0)).1 [] false with|.er a e=>_|.go out op=>_)=_
      rw[q2];simp only;rw[if_neg (by rw[hm];simp)]
    obtain⟨n,hn⟩:=vw s.length l [] vs hl q1;rw[List.nil_append] at hn;exact .ok hup hn
  · exact absurd q (lH (by show 0+(dP s).1.length<=500;omega) p)
theorem pZ {e:Int}:∀{n:Nat}{l:List Tr}{s:PS}{K:List Tr}{F:PS},cg e n l s=some (K,F)->K.length<=l.length+s.len
  | 0,_,_,_,_,h=>by cases h
  |n+1,l,s,K,F,h=>by
    rw[cg] at h
    by_cases h0:s.len=0
    · rw[if_pos h0] at h;cases h;omega
    rw[if_neg h0] at h;cases hp:pM e n .stmt s with
    |none=>rw[hp] at h;cases h
    |some p =>
      rw[hp] at h;simp only[Option.bind_some] at h;have hle:=vB hp
      rcases hi:bW 6 [[59]] p.2 with ⟨o,s2⟩
      rw[hi] at h;cases o with
      |some x =>
        have h2:=pZ h;have h3:=cZ hi;rw[List.length_append,List.length_singleton] at h2;omega
      |none =>
        have h2:=pZ h;rw[List.length_append,List.length_singleton] at h2
        have h4:(if s2.len=0 then s2 else cI e s2).len=0:=by
          split
          · assumption
          · exact sw _ _
        omega
theorem jB {s:By}:∀{l:List Tok}{out:List Un}{op:Bool}{out':List Un}{op':Bool},dX s l out op= .go out' op'->out'.length<=out.length+l.length
  | [],_,_,_,_,h=>by rw[dX] at h;cases h;exact Nat.le_refl _
  |t::l,out,op,out',op',h=>by
    rw[List.length_cons];rw[dX] at h;unfold fR at h
    by_cases h0:t.1=0
    · rw[if_pos h0] at h;cases h
    rw[if_neg h0] at h;cases op with
    |true =>
      rw[if_pos rfl] at h
      by_cases h1:t.1=9/\cB s t=[34]
      · rw[if_pos h1] at h;have:=jB h;omega
      rw[if_neg h1] at h
      by_cases h2:t.1=10
      · rw[if_pos h2] at h;have:=jB h;rw[kq] at this;omega
      · rw[if_neg h2] at h;have:=jB h;rw[kq] at this;omega
    |false =>
      rw[if_neg (by decide)] at h
      by_cases h1:t.1=1\/t.1=2\/t.1=11
      · rw[if_pos h1] at h;have:=jB h;omega
      rw[if_neg h1] at h
      by_cases h2:out.length=500
      · rw[if_pos h2] at h;cases h
      · rw[if_neg h2] at h;have:=jB h;rw[List.length_append,List.length_singleton] at this;omega
theorem vu {s:By}{m:Int}{k:List Tr}{a e:Int}(h:cy s (dP s).1 m k a e):k.length<=s.length:=by
  have htk:(dP s).1.length<=s.length:=ox _ _ _ _;cases h with
  |units _=>exact Nat.zero_le _
  |bad _ _=>exact Nat.zero_le _
  | @ok u n k r hu hp =>
    have h1:=pZ hp;unfold eR at hu;split at hu
    · split at hu
      · cases hu
      · rename_i out op hq;have h2:=jB hq;split at hu
        · cases hu
        · have hu:=Sum.inr.inj hu;rw[hu] at h2;have h3:PS.len (.ok u)=u.length:=rfl;rw[h3] at h1;simp only[List.length_nil] at h1 h2;omega
    · cases hu
end
end Go.Proofs.YtoickfdopobmgaaGreatDoor

/- What the proof of the statement leans on (part 27). -/
import Derived.Below
import Derived.Lib.TrimUEq
import Derived.Test.YtdihgdeciopfpaaGreatDoorQz

namespace Go.Proofs.YtdihgdeciopfpaaGreatDoor
open Go.Proofs.Tryz
open Go Go.Lw
set_option maxRecDepth 20000 set_option maxHeartbeats 4000000
section
variable {h:aj}{p:Value}
def M1 (h:aj):Prop:=(∀c,c<256->cellAt h ⟨6,c,none⟩=some (.int .u8 (Lib.firstT c))) /\
 (∀i,i<16->cellAt h ⟨7,2*i,none⟩=some (.int .u8 (Lib.accLo i))/\cellAt h ⟨7,2*i+1,none⟩=some (.int .u8 (Lib.accHi i)))
structure tG (h:aj):Prop where
 sg:∃lim,lim<=h.size/\Sg h lim
 tens:rQ h
 rules:lQ h
 utf:M1 h
 most:∃m,cellAt h ⟨2,0,none⟩=some (.int .i64 m)
theorem tG.ak {h h':aj}(k:tG h) (e:aq h h'):tG h':=by
 obtain⟨⟨lim,h1,h2⟩,h3,h4,h5,m,h6⟩:=k;have hz:=e.size;exact⟨⟨lim,by omega,h2.ext e (fun _ k=>k.elim)⟩,h3.ak e,h4.ak e,⟨fun c hc=>e.cell (fun k=>k) (h5.1 c hc),fun i hi=>⟨e.cell (fun k=>k) (h5.2 i hi).1,e.cell (fun k=>k) (h5.2 i hi).2⟩⟩,m,e.cell (fun k=>k) h6⟩
theorem Bc (hg:tG h) (l:By) (hl:l≠[]):af Tryz.prog 150 #[.string (bs l)] h (bf fun r h'=>(∃x:Nat,r= .tuple #[.int .i32 (x:Nat),.int .i64 (aZ l:Nat)])/\aq h h'):=by
 refine af.qj fun w hw=>?_
 subst hw;have hT:Lib.Utf8Tabs 6 7 w:=⟨fun c hc=>by rw[cR];exact hg.utf.1 c hc,fun i hi=>⟨by rw[cR];exact(hg.utf.2 i hi).1,by rw[cR];exact(hg.utf.2 i hi).2⟩⟩
 refine(Tryz.utf8_DecodeRuneInString (bs l) w hT).mono ?_;rintro e w' ⟨rfl,hb⟩
 have hn:(Lib.decodeGo (bs l)).2=aZ l:=by
  have h0:¬(bs l).size=0:=by rw[aR];have:=List.length_pos_iff.2 hl;omega
  unfold Lib.decodeGo;rw[if_neg h0,Lib.decode_N,qF];rfl
 refine⟨_,rfl,⟨⟨(Lib.decodeGo (bs l)).1,by rw[hn]⟩,⟨hb.size,fun b hlt _=>hb.block b hlt⟩⟩,hb.os,hb.tape,hb.output⟩
theorem mZ (hg:tG h) (s t:By) (hs:s.length<=1000000):af Tryz.prog 285 #[.string (bs s),.string (bs t)] h (bf fun r h'=>r= .bool (Lib.contains s t)/\h'=h):=by
 obtain⟨m,hm⟩:=hg.most;refine af.qj fun w hw=>?_
 subst hw;refine(Tryz.strings_Contains (bs s) (bs t) m w (by rw[aR];omega) (by rw[cR];exact hm)).mono ?_;rintro e w' ⟨rfl,rfl⟩;rw[qF,qF];exact⟨_,rfl,⟨rfl,rfl⟩,rfl,rfl,rfl⟩
theorem Dx (hg:tG h) (s:By) (hs:s.length<=1000000):af Tryz.prog 236 #[.string (bs s)] h (bf fun r h'=>r= .bool (rX s)/\h'=h):=by
 have hbs:=aR s
 have e1:((⟨#[32]⟩:ByteArray)++bs s)++⟨#[32]⟩=bs (32::(s++[32])):=by
  rw[show (⟨#[32]⟩:ByteArray)=bs [32] from rfl,eH,eH];rfl
 have w1:(⟨#[32]⟩:ByteArray).size=1:=rfl;refine eV ?_;refine dc ?_;refine fE ?_;refine cG ?_;refine iF ?_;refine dc ?_;refine rV [(2,.bool (rX s))] rfl ?_ ?_
 · refine ax ?_;refine qV 5 (fun hc=>?_) (fun hc=>?_)
   · have hc':decide (s≠[])=true:=decide_eq_true (fun e=>of_decide_eq_true hc (by rw[e];rfl));refine ax ?_;refine xo rfl (dz rfl (mZ hg s [32] hs)) ?_;rintro _ h0 ⟨rfl,hh0⟩;subst hh0;refine ax ?_;refine qV 10 (fun hc2=>?_) (fun hc2=>?_)
     · iterate 2 refine cG ?_
       refine xp rfl (ai.jm rfl rfl (by rw[ByteArray.size_append];omega)) ?_;rw[e1];refine xo rfl (dz rfl (mZ hg HR (32::(s++[32])) (by decide))) ?_;rintro _ h1 ⟨rfl,hh1⟩;subst hh1;refine ax ?_;exact cY rfl ⟨aC rfl (by rw[rX,hc',hc2,Bool.true_and,Bool.true_and]),sb rfl⟩
     · refine ax ?_;exact cY rfl ⟨aC rfl (by rw[rX,hc',hc2,Bool.true_and,Bool.false_and]),sb rfl⟩
   · refine ax ?_;exact cY rfl ⟨aC rfl (by rw[rX,decide_eq_false (fun k=>of_decide_eq_false hc (fun e=>k (jj (m:=[]) e))),Bool.false_and]),sb rfl⟩
 · refine dS ?_;exact⟨_,rfl,rfl,rfl⟩
theorem GY {m:Nat}(hm:m<3){i:Nat}:(oG m)[i]?.map (fun r=>(r.2.1,r.2.2))=(vP m)[i]? :=by
 have h:(oG m).map (fun r=>(r.2.1,r.2.2))=vP m:=by
  match m,hm with
  | 0,_=>decide
  | 1,_=>decide
  | 2,_=>decide
 rw[<-h,List.getElem?_map]
theorem rF {m:Int}(h:m<0\/3<=m):vP m=[]:=by
 unfold vP;rw[if_neg (by omega),if_neg (by omega),if_neg (by omega)]
theorem G7 {α:Type}{l:List α}{kn:Nat}{n:Int}(hk:l.length=kn) (hn:¬n<0):decide ((kn:Int)<=n)= !(l[n.toNat]?).isSome:=by
 cases hq:l[n.toNat]? with
 |none=>have:=List.getElem?_eq_none_iff.1 hq;simp;omega
 |some v=>have:=(List.getElem?_eq_some_iff.1 hq).1;simp;omega
theorem wh (hg:tG h) (m n:Int):af Tryz.prog 284 #[.int .i64 m,.int .i64 n] h (bf fun r h'=>(∃x:By×Int×Int,r= .tuple #[.agg (eN x).toArray,.bool (jg m n).isSome]/\∀p,jg m n=some p->(x.2.1,x.2.2)=p)/\aq h h'):=by
 refine eV ?_;refine ax ?_;refine xo rfl (pI) ?_;rintro _ h1 ⟨rfl,k1,e1,z1⟩;have k1:aH h1 h.size 303 [.string ⟨#[]⟩,.int .i64 0,.int .i64 0]:=k1
 have hrow:∀mm:Nat,mm<3->∃oa kn kc,cellAt h1 ⟨1,0+mm*1,none⟩=some (.slice oa kn kc)/\Sl NT h1 (fun _=>False) oa kn kc (oG mm):=fun mm hmm=>by
  obtain⟨v,hv,hsl⟩:=(hg.rules.ak e1) mm hmm;obtain⟨oa,kn,kc,rfl,h2⟩:=hsl.open;exact⟨oa,kn,kc,by rw[Nat.mul_one,Nat.zero_add];exact hv,h2⟩
 have hlenT:∀mm:Nat,mm<3->(oG mm).length=(vP mm).length:=fun mm hmm=>by
  match mm,hmm with
  | 0,_=>rfl
  | 1,_=>rfl
  | 2,_=>rfl
 refine cG ?_;refine iF ?_
 iterate 2 refine dc ?_
 refine rV [(23,.bool (!(jg m n).isSome))] rfl ?_ ?_
 · refine ax ?_;refine qV 8 (fun c1=>?_) (fun c1=>?_)
   · have c1':=of_decide_eq_true c1;refine ax ?_;exact cY rfl ⟨aC rfl (by rw[jg,rF (.inl c1')];simp),sb rfl⟩
   · have c1':=of_decide_eq_false c1;refine ax ?_;refine qV 12 (fun c2=>?_) (fun c2=>?_)
     · have c2':=of_decide_eq_true c2;refine ax ?_;exact cY rfl ⟨aC rfl (by rw[jg,rF (.inr c2')];simp),sb rfl⟩
     · have c2':=of_decide_eq_false c2;refine ax ?_;refine qV 16 (fun c3=>?_) (fun c3=>?_)
       · have c3':=of_decide_eq_true c3;refine ax ?_;exact cY rfl ⟨aC rfl (by rw[jg,if_pos c3'];rfl),sb rfl⟩
       · have c3':=of_decide_eq_false c3;obtain⟨mm,rfl⟩:=Int.eq_ofNat_of_zero_le (show 0<=m by omega);have hmm:mm<3:=by omega
         obtain⟨oa,kn,kc,hv,hsl⟩:=hrow mm hmm;have hkl:=hsl.len;rw[hlenT mm hmm] at hkl
         iterate 2 refine cG ?_
         refine xp rfl (Dt rfl rfl mm rfl (by omega)) ?_;refine xp rfl (bJ rfl hv) ?_;refine ax ?_;exact cY rfl ⟨aC rfl (by rw[jg,if_neg c3'];exact G7 hkl c3'),sb rfl⟩
 · rcases hf:jg m n with _|p
   · refine tf rfl (by simp) ?_;refine ax ?_;refine xp rfl (aE (H.N1 ) rfl) ?_;refine dD rfl (iV rfl rfl k1) ?_;rintro _ h2 ⟨rfl,k2,x2,z2⟩;refine ax ?_;have k2:aH h2 h.size 303 (eN ([],0,0)):=k2;refine qZ (pH rfl k2.row (M6 qW)) ?_;exact⟨_,rfl,⟨([],0,0),rfl,fun p hp=>by cases hp⟩,e1.only x2 (Nat.le_refl _)⟩
   · have hn0:0<=n:=by
      by_cases q:n<0
      · rw[jg,if_pos q] at hf;cases hf
      · omega
     have hm0:0<=m/\m<3:=by
      by_cases q:m<0\/3<=m
      · rw[jg,rF q] at hf;simp at hf
      · omega
     obtain⟨mm,rfl⟩:=Int.eq_ofNat_of_zero_le hm0.1;obtain⟨i,rfl⟩:=Int.eq_ofNat_of_zero_le hn0;have hmm:mm<3:=by omega
     obtain⟨oa,kn,kc,hv,hsl⟩:=hrow mm hmm;have hkl:=hsl.len;rw[jg,if_neg (by omega),Int.toNat_natCast,<-GY hmm] at hf;obtain⟨r,hr,hrp⟩:=Option.map_eq_some_iff.1 hf;obtain⟨b3,o3,cs3,ha3,_,hrow3,rfl⟩:=hsl.get i r hr;have hil:=(List.getElem?_eq_some_iff.1 hr).1;refine qT rfl (by simp) ?_
     iterate 2 refine dc ?_
     refine fE ?_;refine cG ?_;refine xp rfl (Dt rfl rfl mm rfl (by omega)) ?_;refine xp rfl (bJ rfl hv) ?_;refine cG ?_;refine xp rfl (fN rfl rfl i rfl ha3) ?_;refine xp rfl (jT rfl hrow3) ?_;refine dD rfl (iV rfl rfl k1 (p8 r)) ?_;rintro _ h2 ⟨rfl,k2,x2,z2⟩;refine ax ?_;have k2:aH h2 h.size 303 (eN r):=k2;refine qZ (pH rfl k2.row (M6 qW)) ?_;exact⟨_,rfl,⟨r,rfl,fun p hp=>by cases hp;exact hrp⟩,e1.only x2 (Nat.le_refl _)⟩
theorem El (hg:tG h) (m n:Int):af Tryz.prog 235 #[.int .i64 m,.int .i64 n] h (bf fun r h'=>r= .int .i64 (qs m n)/\aq h h'):=by
 refine eV ?_;refine ax ?_;refine xo rfl (dz rfl (wh hg m n)) ?_;rintro _ h1 ⟨⟨x,rfl,hx⟩,e1⟩;refine ax ?_;refine xo rfl (pI) ?_;rintro _ h2 ⟨rfl,k2,e2,z2⟩;refine dD rfl (iV rfl rfl k2 (p8 x)) ?_;rintro _ h3 ⟨rfl,k3,x3,z3⟩;have k3:aH h3 h1.size 303 (eN x):=k3;have e3:aq h1 h3:=e2.only x3 (Nat.le_refl _)
 rcases hf:jg m n with _|p
 · refine ax ?_;refine tf rfl (by simp) ?_;refine ax ?_;refine dS ?_;exact⟨_,rfl,by rw[qs,hf];rfl,e1.trans e3⟩
 · have hp:=hx p hf;refine ax ?_;refine qT rfl (by simp) ?_;refine ax ?_;refine xp rfl (bJ rfl (k3.cell (i:=1) rfl)) ?_;refine ax ?_;refine dS ?_;exact⟨_,rfl,by rw[qs,hf,<-hp];rfl,e1.trans e3⟩
def aY (s:ew):List Value:=[.int .i64 s.1,.int .i64 s.2]
theorem cF (s:ew):∀v∈aY s,v.oneCell'=true:=fun v hv=>by simp[aY] at hv;rcases hv with rfl|rfl<;>rfl
def HN (i:Int):Prop:= -9223372036854775808<=i/\i<=9223372036854775807
theorem sZ (hg:tG h) (s:ew) (n:Int) (hs:HN s.2):af Tryz.prog 237 #[.agg (aY s).toArray,.int .i64 n] h (bf fun r h'=>r= .agg (aY (jk s n)).toArray/\aq h h'):=by
 obtain⟨m,d⟩:=s;obtain⟨hd1,hd2⟩:=hs;simp only at hd1 hd2;refine eV ?_;refine ax ?_;refine xo rfl (Bu) ?_;rintro _ h1 ⟨rfl,k1,e1,z1⟩;refine xo rfl (pI) ?_;rintro _ h2 ⟨rfl,k2,e2,z2⟩;have k1:aH h1 h.size 211 [.int .i64 m,.int .i64 d]:=k1;have k2:aH h2 h1.size 211 [.int .i64 0,.int .i64 0]:=k2;have e02:=e1.trans e2;have q1:=k1.ak e2;refine ax ?_;refine xp rfl (bJ rfl (q1.cell (i:=0) rfl)) ?_;refine ax ?_;refine xo rfl (dz rfl (wh (hg.ak e02) m n)) ?_;rintro _ h3 ⟨⟨x,rfl,hx⟩,e3⟩;refine ax ?_;refine xo rfl (pI) ?_;rintro _ h4 ⟨rfl,k4,e4,z4⟩;refine dD rfl (iV rfl rfl k4 (p8 x)) ?_;rintro _ h5 ⟨rfl,k5,x5,z5⟩;have k5:aH h5 h3.size 303 (eN x):=k5;have e45:aq h3 h5:=e4.only x5 (Nat.le_refl _);have e25:=e3.trans e45;have e05:=e02.trans e25;have s1:=q1.ak e25;have s2:=k2.ak e25;have hz1:=e1.size;have hz2:=e2.size;have hz5:=e25.size;have hne:¬h.size=h1.size:=by omega
 have hout:∀{g:aj},Ext (fun b=>b=h1.size) h5 g->aq h g:=fun e=>aq.only e05 e hz1
 rcases hf:jg m n with _|p
 · have haf:jk (m,d) n=(m,d):=by unfold jk;rw[hf]
   refine ax ?_;refine tf rfl (by simp) ?_;refine ax ?_;refine tf rfl (by simp) ?_;refine ax ?_;refine xp rfl (jT rfl s1.row) ?_;refine dD rfl (iV rfl rfl s2) ?_;rintro _ h6 ⟨rfl,k6,x6,z6⟩;refine ax ?_;have k6:aH h6 h1.size 211 (aY (m,d)):=k6;refine qZ (pH rfl k6.row qW) ?_;exact⟨_,rfl,by rw[haf];rfl,hout x6⟩
 · have hp:=hx p hf;obtain⟨hp1,hp2⟩:=Prod.mk.inj hp;have haf:jk (m,d) n=if x.2.2=0 then (m,d) else if x.2.2=1 then (1,0) else if x.2.2=3 then (2,min (max d 0) 16383+1) else if x.2.2=4/\1<d then (m,d-1) else (0,0):=by unfold jk;rw[hf,<-hp]
   refine ax ?_;refine qT rfl (by simp) ?_;refine ax ?_;refine xp rfl (bJ rfl (k5.cell (i:=2) rfl)) ?_;refine ax ?_;refine dM (fun h0=>?_) (fun h0=>?_)
   · rw[if_pos h0] at haf;refine ax ?_;refine xp rfl (jT rfl s1.row) ?_;refine dD rfl (iV rfl rfl s2) ?_;rintro _ h6 ⟨rfl,k6,x6,z6⟩;refine ax ?_;have k6:aH h6 h1.size 211 (aY (m,d)):=k6;refine qZ (pH rfl k6.row qW) ?_;exact⟨_,rfl,by rw[haf];rfl,hout x6⟩
   · rw[if_neg h0] at haf;refine ax ?_;refine xp rfl (bJ rfl (k5.cell (i:=2) rfl)) ?_;refine ax ?_;refine dM (fun h1'=>?_) (fun h1'=>?_)
     · rw[if_pos h1'] at haf;refine ax ?_;refine xp rfl (aE (H.Lj _) rfl) ?_;refine dD rfl (iV rfl rfl s2) ?_;rintro _ h6 ⟨rfl,k6,x6,z6⟩;refine ax ?_;have k6:aH h6 h1.size 211 (aY (1,0)):=k6;refine qZ (pH rfl k6.row qW) ?_;exact⟨_,rfl,by rw[haf];rfl,hout x6⟩
     · rw[if_neg h1'] at haf;refine ax ?_;refine xp rfl (bJ rfl (k5.cell (i:=2) rfl)) ?_;refine ax ?_;refine dM (fun h3'=>?_) (fun h3'=>?_)
       · rw[if_pos h3'] at haf;refine ax ?_;refine xp rfl (bJ rfl (s1.cell (i:=1) rfl)) ?_;refine ax ?_;refine xp rfl (aE (H.Ht _ _) rfl) ?_;refine dD rfl (iV rfl rfl s2) ?_;rintro _ h6 ⟨rfl,k6,x6,z6⟩;refine ax ?_;have hmm:(if (16383:Int)<if d<0 then 0 else d then 16383 else if d<0 then 0 else d)=min (max d 0) 16383:=by split<;>split<;>omega
         have k6:aH h6 h1.size 211 (aY (2,min (max d 0) 16383+1)):=by rw[<-hmm];exact k6
         refine qZ (pH rfl k6.row qW) ?_;exact⟨_,rfl,by rw[haf];rfl,hout x6⟩
       · rw[if_neg h3'] at haf;refine dc ?_;refine rV [(36,.bool (decide (x.2.2=4/\1<d)))] rfl ?_ ?_
         · refine ax ?_;refine xp rfl (bJ rfl (k5.cell (i:=2) rfl)) ?_;refine ax ?_;refine qV 40 (fun hc=>?_) (fun hc=>?_)
           · have hc':=of_decide_eq_true hc;refine ax ?_;refine xp rfl (bJ rfl (s1.cell (i:=1) rfl)) ?_;refine ax ?_;exact cY rfl ⟨aC rfl (by simp[hc']),sb rfl⟩
           · have hc':=of_decide_eq_false hc;refine ax ?_;exact cY rfl ⟨aC rfl (by simp[hc']),sb rfl⟩
         · refine dM (fun h4'=>?_) (fun h4'=>?_)
           · rw[if_pos h4'] at haf;refine ax ?_;refine xp rfl (bJ rfl (s1.cell (i:=1) rfl)) ?_;refine ax ?_;refine dD rfl (ct H.bL rfl rfl rfl (s1.cell (i:=1) rfl) s1.nf) ?_;rintro _ h6 ⟨rfl,hg6⟩;have s6:=s1.set 1 (.int .i64 (d-1));have x6:Ext (fun b=>b=h.size) h5 h6:=by rw[hg6];exact Ext.eo _ _ _ rfl
             have s6:aH h6 h.size 211 (aY (m,d-1)):=by rw[hg6];exact s6
             refine ax ?_;refine xp rfl (jT rfl s6.row) ?_;refine dD rfl (iV rfl rfl ((s2.ext x6 (fun k=>by omega))) (cF _)) ?_;rintro _ h7 ⟨rfl,k7,x7,z7⟩;refine ax ?_;have k7:aH h7 h1.size 211 (aY (m,d-1)):=k7;refine qZ (pH rfl k7.row qW) ?_;have hz6:=x6.size;exact⟨_,rfl,by rw[haf];rfl,aq.only (aq.only e05 x6 (Nat.le_refl _)) x7 hz1⟩
           · rw[if_neg h4'] at haf;refine ax ?_;refine xp rfl (aE (H.N4 ) rfl) ?_;refine dD rfl (iV rfl rfl s2) ?_;rintro _ h6 ⟨rfl,k6,x6,z6⟩;refine ax ?_;have k6:aH h6 h1.size 211 (aY (0,0)):=k6;refine qZ (pH rfl k6.row qW) ?_;exact⟨_,rfl,by rw[haf];rfl,hout x6⟩
theorem C0 (hg:tG h) (s:By) (k:Nat) (hk:k<s.length) (hs:s.length<=1000000):af Tryz.prog 102 #[.string (bs s),.int .i64 (k:Nat)] h (bf fun r h'=>(∃(x:Nat) (ok:Bool),r= .tuple #[.int .i32 (x:Nat),.int .i64 (aZ (s.drop k):Nat),.bool ok])/\aq h h'):=by
 have hbs:=aR s;have hne:s.drop k≠[]:=fun e=>by have:=congrArg List.length e;rw[List.length_drop] at this;simp at this;omega
 refine eV ?_;refine dc ?_;refine fE ?_
 iterate 3 refine cG ?_
 refine iF ?_
 iterate 2 refine dc ?_
 refine rV [(14,.bool false)] rfl ?_ ?_
 · refine ax ?_;refine RW.bH (d:=9) (b':=false) rfl ((by simp)) ?_;refine ax ?_;exact cY rfl ⟨aC rfl (by simp;omega),sb rfl⟩
 · refine qT rfl (by decide) ?_;refine ax ?_;refine xp rfl (ai.eZ underlying9 rfl rfl k rfl (by omega)) ?_;rw[lO];refine xo rfl (dz rfl (Bc hg (s.drop k) hne)) ?_;rintro _ h1 ⟨⟨x,rfl⟩,e1⟩;generalize hn:aZ (s.drop k)=n
   iterate 5 refine cG ?_
   refine iF ?_;refine dc ?_;refine rV [(4,.int .i32 (x:Nat)),(5,.int .i64 (n:Nat)),(6,.bool (decide (¬(x:Int)=65533\/(1:Int)<n)))] rfl ?_ ?_
   · refine ax ?_;refine qV 26 (fun hc=>?_) (fun hc=>?_)
     · have hc':=of_decide_eq_true hc;refine ax ?_;exact cY rfl ⟨rfl,rfl,aC rfl (by rw[decide_eq_true (Or.inl hc')]),sb rfl⟩
     · have hc':=of_decide_eq_false hc;refine ax ?_;exact cY rfl ⟨rfl,rfl,aC rfl (by simp only[decide_eq_decide];exact⟨fun q=>.inr q,fun q=>q.resolve_left hc'⟩),sb rfl⟩
   · refine dS ?_;exact⟨_,rfl,⟨x,_,rfl⟩,e1⟩
theorem I4 (k:xw h p):af Tryz.prog 233 #[p] h (bf fun r h'=>r= .bool false/\h'=h):=by
 obtain⟨lb,vm,rfl,hk,⟨oa,n,c,rfl,hl,_⟩⟩:=k;have hl:n=3:=by rw[<-hl];rfl
 subst hl;refine eV ?_;refine dc ?_;refine fE ?_;refine cG ?_;refine iF ?_;refine dc ?_;refine rV [(2,.bool false)] rfl ?_ ?_
 · refine cG ?_;refine xp rfl (ai.cJ underlying149 rfl rfl) ?_;refine ax ?_;refine RW.bH (d:=5) (b':=false) rfl (rfl) ?_;refine ax ?_;refine xp rfl (bJ rfl (hk.cell (i:=0) rfl)) ?_;refine ax ?_;exact cY rfl ⟨aC rfl (rfl),sb rfl⟩
 · refine dS ?_;exact⟨_,rfl,rfl,rfl⟩
def tw (m:Int) (l:By):Int:=if 0<=m/\m<3 then (aP (kF (mg m)) l 0 0 (0,-1)).2.2 else 0
theorem GR (m:Nat) (hm:m<3) (s:By) (k:Nat) (hk:k<=s.length):cW (kF (mg m)) s k=((ey m (s.drop k)).1,(ey m (s.drop k)).2,tw m (s.drop k)):=by
 obtain⟨ss,st,h1,h2,h3,h4,h5⟩:=qm m hm;have hok:=kM h2;have hsp:=rD hok.1 hok.2;have htl:=DM hok.1 hsp.1 hsp.2.2.2.2 hok.2 hsp.2.1 (fun w=>(hsp.2.2.2.1 w).symm) s k;have htm:=BK h2 s k;have hst:=(fe h1).stl
 have hM:AN (gO m) s k=ey m (s.drop k):=by
  unfold AN Ec;rw[h1];simp only;rw[if_neg (by omega),Int.toNat_natCast,h4]
 rw[hM] at htm
 have hA:(cW (kF (mg m)) s k).2.2=tw m (s.drop k):=by
  rw[tw,if_pos (show (0:Int)<=m/\(m:Int)<3 by omega),cW,if_neg (by have:=hsp.2.1;omega),Int.toNat_natCast]
 rw[<-hA];refine Prod.ext ?_ (Prod.ext ?_ rfl)
 · rw[<-htl.1];exact(Prod.mk.inj htm).1
 · rw[<-htl.2.1];exact(Prod.mk.inj htm).2
theorem KO (m:Int) (l:By):0<=tw m l/\tw m l<=(ey m l).1+2:=by
 unfold tw;split
 · rename_i h;obtain⟨n,rfl⟩:=Int.eq_ofNat_of_zero_le h.1;obtain⟨ss,st,h1,h2,h3,h4,h5⟩:=qm n (by omega);have hok:=kM h2;have hsp:=rD hok.1 hok.2;have hl:=lJ hok.1 hsp.1 hsp.2.2.2.2 l 0 0 0 (0,-1) hok.2 hsp.2.1 (fun w=>(hsp.2.2.2.1 w).symm);have hs:=oy (kF (mg n)) l 0 0 (0,-1) (Int.le_refl _);have h6:=h5 l;have h7:=je n l
   have h8:(aP (mg n) l 0 0 (0,-1)).1=(ey n l).1:=by
    have:=lK h3 (by have:=(fe h1).stl;omega) l;rw[h4,<-this]
   refine⟨?_,by have:=hl.2.2;omega⟩;have:=hs.1;rw[<-hl.1,h8] at this;omega
 · have:=je m l;omega
theorem I8 {m:Int}(h:m<0\/3<=m) (l:By):ey m l=(0,-1):=by
 unfold ey;rw[if_neg (by omega),if_neg (by omega),if_neg (by omega)]
theorem AO (k:xw h p) (s:By) (i:Nat) (hi:i<=s.length) (hs:s.length<=1000000) (m:Int) :
 af Tryz.prog 234 #[p,.string (bs s),.int .i64 (i:Nat),.int .i64 m] h (bf fun r h'=>r= .tuple #[.int .i64 (ey m (s.drop i)).1,.int .i64 (ey m (s.drop i)).2,.int .i64 (tw m (s.drop i))]/\h'=h):=by
 obtain⟨lb,vm,rfl,hk,hv⟩:=k;obtain⟨oa,n,c,rfl,hsl⟩:=hv.open;have hl:n=3:=by rw[<-hsl.len];rfl
 subst hl;refine eV ?_;refine dc ?_;refine fE ?_
 iterate 3 refine cG ?_
 refine iF ?_
 iterate 2 refine dc ?_
 refine rV [(21,.bool (decide (m<0\/3<=m)))] rfl ?_ ?_
 · refine ax ?_;refine qV 13 (fun hc=>?_) (fun hc=>?_)
   · have hc':=of_decide_eq_true hc;refine ax ?_;exact cY rfl ⟨aC rfl (by simp[hc']),sb rfl⟩
   · have hc':=of_decide_eq_false hc;refine ax ?_;refine xp rfl (bJ rfl (hk.cell (i:=0) rfl)) ?_;refine ax ?_;exact cY rfl ⟨aC rfl (by simp only[decide_eq_decide];omega),sb rfl⟩
 · refine dM (fun hout=>?_) (fun hout=>?_)
   · rw[I8 hout];refine ax ?_;refine dS ?_;exact⟨_,rfl,by rw[tw,if_neg (by omega)];rfl,rfl⟩
   · obtain⟨mm,rfl⟩:=Int.eq_ofNat_of_zero_le (show 0<=m by omega);have hmm:mm<3:=by omega
     have hx:(sC 3)[mm]? =some (kF (mg mm)):=by
      match mm,hmm with
      | 0,_=>rfl
      | 1,_=>rfl
      | 2,_=>rfl
     obtain⟨b3,o3,cs3,ha3,_,hrow3,db,rfl,htab⟩:=hsl.get mm _ hx;obtain⟨ss,st,h1,h2,h3,h4,h5⟩:=qm mm hmm;have hok:=kM h2;have hsp:=rD hok.1 hok.2;refine ax ?_;refine xp rfl (bJ rfl (hk.cell (i:=0) rfl)) ?_;refine cG ?_;refine xp rfl (fN rfl rfl mm rfl ha3) ?_;refine xp rfl (bJ rfl (hrow3 0 _ rfl)) ?_;refine ax ?_;refine xo rfl (dz rfl (A8 (s:=s) (a:=(i:Int)) (.inr ⟨db,rfl,htab.rd⟩) hsp.1 hs)) ?_;rintro _ h0 ⟨rfl,hh0⟩;subst hh0;rw[GR mm hmm s i hi];refine ax ?_;refine dS ?_;exact⟨_,rfl,rfl,rfl⟩
def cB (t:Tk):List Value:=[.int .i64 t.1,.int .i64 t.2.1,.int .i64 t.2.2]
theorem dV (t:Tk):∀v∈cB t,v.oneCell'=true:=fun v hv=>by simp[cB] at hv;rcases hv with rfl|rfl|rfl<;>rfl
theorem HA {s:ew}(h:HN s.2) (n:Int):HN (jk s n).2:=by
 unfold HN at *;unfold jk;split
 · exact h
 · split
   · exact h
   · split
     · simp only;omega
     · split
       · simp only;omega
       · split
         · simp only;omega
         · simp only;omega
theorem KD {s:ew}(h:HN s.2) (l:By):HN (dH l s).2:=by
 unfold dH;split
 · exact h
 · exact HA h _
theorem qe {h':aj}{b:Nat}{t:TypeId}{cs:List Value}(k:aH h b t cs) (k':aH h' b t cs) (e:Ext (fun x=>x=b) h h'):aq h h':=⟨e.size,fun x hx _=>by
 by_cases q:x=b
 · subst q;exact k'.trans k.symm
 · exact e.block x hx q⟩
def Nz (s:By) (i:Nat) (st:ew):Value:=.tuple #[.agg (cB (mh (s.drop i) st.1,(i:Int),((i+bF (s.drop i) st.1:Nat):Int))).toArray,.agg (aY (dH (s.drop i) st)).toArray,.int .i64 (tw st.1 (s.drop i))]
theorem GJ (hg:tG h) (k:xw h p) (s:By) (i:Nat) (hi:i<s.length) (hs:s.length<=1000000) (st:ew) (hst:HN st.2) :
 af Tryz.prog 183 #[p,.string (bs s),.int .i64 (i:Nat),.agg (aY st).toArray] h (bf fun r h'=>r=Nz s i st/\aq h h'):=by
 have hbs:=aR s;unfold Nz;have hne:s.drop i≠[]:=fun e=>by have:=congrArg List.length e;rw[List.length_drop] at this;simp at this;omega
 have hll:=je st.1 (s.drop i);have hrl:=dG hne;rw[List.length_drop] at hll hrl;refine eV ?_;refine ax ?_;refine xo rfl (Bu) ?_;rintro _ h1 ⟨rfl,k7,e1,z1⟩;refine xo rfl (pI) ?_;rintro _ h2 ⟨rfl,k8,e2,z2⟩;refine xo rfl (pI) ?_;rintro _ h3 ⟨rfl,k9,e3,z3⟩;have k7:aH h1 h.size 211 (aY st):=k7;have k8:aH h2 h1.size 281 (cB (0,0,0)):=k8;have k9:aH h3 h2.size 211 (aY (0,0)):=k9;have e03:=(e1.trans e2).trans e3;have q7:=(k7.ak e2).ak e3;have q8:=k8.ak e3;have y1:=e1.size;have y2:=e2.size;have hout:∀{g g2 g3:aj},aq h3 g->Ext (fun b=>b=h1.size) g g2->Ext (fun b=>b=h2.size) g2 g3->aq h g3:=fun ea eb ec=>aq.only (aq.only (e03.trans ea) eb (by omega)) ec (by omega)
 refine cG ?_;refine iF ?_
 iterate 2 refine dc ?_
 refine rV [(27,.bool false)] rfl ?_ ?_
 · refine ax ?_;refine xo rfl (dz rfl (I4 (k.ak e03))) ?_;rintro _ h4 ⟨rfl,hh4⟩;subst hh4;refine ax ?_;refine RW.bH (d:=18) (b':=false) rfl (rfl) ?_;refine ax ?_;refine RW.bH (d:=22) (b':=false) rfl ((by simp)) ?_;refine ax ?_;exact cY rfl ⟨aC rfl (by simp;omega),sb rfl⟩
 · refine qT rfl (by decide) ?_;refine ax ?_;refine xp rfl (bJ rfl (q7.cell (i:=0) rfl)) ?_;refine xo rfl (dz rfl (AO (k.ak e03) s i (by omega) hs st.1)) ?_;rintro _ h4 ⟨rfl,hh4⟩;subst hh4;refine ax ?_;refine dM (fun hz=>?_) (fun hz=>?_)
   · have hlen:bF (s.drop i) st.1=aZ (s.drop i):=by rw[bF,if_pos hz]
     have hknd:mh (s.drop i) st.1=0:=by rw[mh,if_pos hz]
     have hnxt:dH (s.drop i) st=st:=by rw[dH,if_pos hz]
     rw[hlen,hknd,hnxt];refine ax ?_;refine xo rfl (dz rfl (C0 (hg.ak e03) s i hi hs)) ?_;rintro _ h5 ⟨⟨x,ok,rfl⟩,e5⟩;have r7:=q7.ak e5;have r8:=q8.ak e5;have r9:=k9.ak e5;have y5:=e5.size;have hM7:¬(h.size=h1.size\/h.size=h2.size\/Array.size h5<=h.size):=by have:=e03.size;omega
     refine ax ?_;refine Bt 10 (fun b=>b=Array.size h1\/b=Array.size h2\/Array.size h5<=b) (fun i=>Nat.blt i 9) ?_;refine cS 0 ?_;refine cS 1 ?_;refine cS 2 ?_;refine cS 3 ?_;refine eO 4 rfl (fun h' e=>aE (H.nq _ _ _) rfl) ?_;refine eO 5 rfl (fun h' e=>jT rfl (e.rowAt hM7 r7.row)) ?_;refine cS 6 ?_;refine zS 7 rfl (iV rfl rfl r8) ?_;rintro _ h6 ⟨rfl,w8,x6,z6⟩;refine⟨fun _=>x6.mono (fun _ _ k=>.inl k),?_⟩;refine zS 8 rfl (iV rfl rfl ((r9.ext x6 (fun k=>by omega))) (cF st)) ?_;rintro _ h7 ⟨rfl,w9,x7,z7⟩;refine⟨fun _=>x7.mono (fun _ _ k=>.inr (.inl k)),?_⟩;have w8:aH h6 h1.size 281 (cB (0,(i:Int),((i+aZ (s.drop i):Nat):Int))):=by rw[Int.natCast_add];exact w8
     have w8:=w8.ext x7 (show ¬h1.size=h2.size by omega);have w9:aH h7 h2.size 211 (aY st):=w9;refine cS 9 ?_;refine xM ?_;refine qZ (pH rfl w8.row (pH rfl w9.row (M6 qW))) ?_;exact⟨_,rfl,rfl,hout e5 x6 x7⟩
   · obtain⟨L,hL⟩:=Int.eq_ofNat_of_zero_le hll.1;have hL0:0<L:=by omega
     have hlen:bF (s.drop i) st.1=L:=by rw[bF,if_neg hz,hL];rfl
     have hknd:mh (s.drop i) st.1=if qs st.1 (ey st.1 (s.drop i)).2=3/\rX ((s.drop i).take L)=true then 4 else qs st.1 (ey st.1 (s.drop i)).2:=by rw[mh,if_neg hz,hL];rfl
     have hnxt:dH (s.drop i) st=jk st (ey st.1 (s.drop i)).2:=by rw[dH,if_neg hz]
     rw[hlen,hknd,hnxt,hL];generalize (ey st.1 (s.drop i)).2=rl at *;rw[hL] at hll;refine ax ?_;refine xp rfl (bJ rfl (q7.cell (i:=0) rfl)) ?_;refine ax ?_;refine xo rfl (dz rfl (El (hg.ak e03) st.1 rl)) ?_;rintro _ h5 ⟨rfl,e5⟩;refine ax ?_;refine xp rfl (aE (H.nq _ _ _) rfl) ?_;refine dD rfl (iV rfl rfl ((q8.ak e5))) ?_;rintro _ h6 ⟨rfl,w8,x6,z6⟩;have w8:aH h6 h1.size 281 (cB (qs st.1 rl,(i:Int),((i+L:Nat):Int))):=by rw[Int.natCast_add];exact w8
     generalize qs st.1 rl=kd at *;have hcut:(bs s).extract i (i+L)=bs ((s.drop i).take L):=by rw[qE s i (i+L) (by omega),List.drop_take,Nat.add_sub_cancel_left]
     have y6:=x6.size;have e06:aq h h6:=aq.only (e03.trans e5) x6 (by omega);have r7:=(q7.ak e5).ext x6 (show ¬h.size=h1.size by omega);have r9:=(k9.ak e5).ext x6 (show ¬h2.size=h1.size by omega);refine iF ?_
     iterate 2 refine dc ?_
     refine rV [(76,.bool (decide (kd=3/\rX ((s.drop i).take L)=true)))] rfl ?_ ?_
     · refine ax ?_;refine xp rfl (bJ rfl (w8.cell (i:=0) rfl)) ?_;refine ax ?_;refine qV 68 (fun hc=>?_) (fun hc=>?_)
       · have hc':kd=3:=of_decide_eq_true hc;refine ax ?_;refine xp rfl (bJ rfl (w8.cell (i:=1) rfl)) ?_;refine ax ?_;refine xp rfl (bJ rfl (w8.cell (i:=2) rfl)) ?_;refine xp rfl (ai.uN underlying9 rfl rfl i rfl rfl (i+L) rfl (by omega) (by omega)) ?_;rw[hcut];refine xo rfl (dz rfl (Dx (hg.ak e06) ((s.drop i).take L) (by rw[List.length_take,List.length_drop];omega))) ?_;rintro _ h7 ⟨rfl,hh7⟩;subst hh7;refine ax ?_;exact cY rfl ⟨aC rfl (by simp[hc']),sb rfl⟩
       · have hc':¬kd=3:=of_decide_eq_false hc;refine ax ?_;exact cY rfl ⟨aC rfl (by simp[hc']),sb rfl⟩
     · refine dM (fun hw=>?_) (fun hw=>?_)
       · refine ax ?_;refine dD rfl (ct H.bL rfl rfl rfl (w8.cell (i:=0) rfl) w8.nf) ?_;rintro _ h7 ⟨rfl,hg7⟩;have w7:=w8.set 0 (.int .i64 4);have x7:Ext (fun b=>b=h1.size) h6 h7:=by rw[hg7];exact Ext.eo _ _ _ rfl
         have w7:aH h7 h1.size 281 (cB (4,(i:Int),((i+L:Nat):Int))):=by rw[hg7];exact w7
         have y7:=x7.size;have e07:aq h h7:=aq.only e06 x7 (by omega);have p7:=r7.ext x7 (show ¬h.size=h1.size by omega);have p9:=r9.ext x7 (show ¬h2.size=h1.size by omega);have hMa:¬(h1.size=h2.size\/Array.size h7<=h1.size):=by have:=e03.size;have:=e5.size;omega
         have hMb:¬(h.size=h2.size\/Array.size h7<=h.size):=by have:=e03.size;have:=e5.size;omega
         refine ax ?_;refine Bt 8 (fun b=>b=Array.size h2\/Array.size h7<=b) (fun i=>Nat.blt i 7) ?_;refine eO 0 rfl (fun h' e=>jT rfl (e.rowAt hMa w7.row)) ?_;refine eO 1 rfl (fun h' e=>jT rfl (e.rowAt hMb p7.row)) ?_;refine cS 2 ?_;refine cS 4 ?_;refine nG 3 rfl (dz rfl (sZ (hg.ak e07) st rl hst)) ?_;rintro _ h8 ⟨rfl,e8⟩;refine⟨fun _=>e8.mono (fun _ _ k=>k.elim),?_⟩;have w8':=w7.ak e8;refine zS 5 rfl (iV rfl rfl w8' (dV _)) ?_;rintro _ h9 ⟨rfl,w9',x9,z9⟩;refine⟨fun _=>(qe w8' w9' x9).mono (fun _ _ k=>k.elim),?_⟩;have w9':aH h9 h1.size 281 (cB (4,(i:Int),((i+L:Nat):Int))):=w9';have e9:=qe w8' w9' x9;have p9':=(p9.ak e8).ak e9;refine zS 6 rfl (iV rfl rfl p9' (cF _)) ?_;rintro _ h10 ⟨rfl,w10,x10,z10⟩;refine⟨fun _=>x10.mono (fun _ _ k=>.inl k),?_⟩;have w10:aH h10 h2.size 211 (aY (jk st rl)):=w10;have w11:=w9'.ext x10 (show ¬h1.size=h2.size by omega);refine cS 7 ?_;refine xM ?_;refine qZ (pH rfl w11.row (pH rfl w10.row (M6 qW))) ?_;have y10:=x10.size;exact⟨_,rfl,by rw[if_pos hw];rfl,aq.only ((e07.trans e8).trans e9) x10 (by omega)⟩
       · have hMa:¬(h1.size=h2.size\/Array.size h6<=h1.size):=by have:=e03.size;have:=e5.size;omega
         have hMb:¬(h.size=h2.size\/Array.size h6<=h.size):=by have:=e03.size;have:=e5.size;omega
         refine ax ?_;refine Bt 8 (fun b=>b=Array.size h2\/Array.size h6<=b) (fun i=>Nat.blt i 7) ?_;refine eO 0 rfl (fun h' e=>jT rfl (e.rowAt hMa w8.row)) ?_;refine eO 1 rfl (fun h' e=>jT rfl (e.rowAt hMb r7.row)) ?_;refine cS 2 ?_;refine cS 4 ?_;refine nG 3 rfl (dz rfl (sZ (hg.ak e06) st rl hst)) ?_;rintro _ h8 ⟨rfl,e8⟩;refine⟨fun _=>e8.mono (fun _ _ k=>k.elim),?_⟩;have w8':=w8.ak e8;refine zS 5 rfl (iV rfl rfl w8' (dV _)) ?_;rintro _ h9 ⟨rfl,w9',x9,z9⟩;refine⟨fun _=>(qe w8' w9' x9).mono (fun _ _ k=>k.elim),?_⟩;have w9':aH h9 h1.size 281 (cB (kd,(i:Int),((i+L:Nat):Int))):=w9';have e9:=qe w8' w9' x9;have p9':=(r9.ak e8).ak e9;refine zS 6 rfl (iV rfl rfl p9' (cF _)) ?_;rintro _ h10 ⟨rfl,w10,x10,z10⟩;refine⟨fun _=>x10.mono (fun _ _ k=>.inl k),?_⟩;have w10:aH h10 h2.size 211 (aY (jk st rl)):=w10;have w11:=w9'.ext x10 (show ¬h1.size=h2.size by omega);refine cS 7 ?_;refine xM ?_;refine qZ (pH rfl w11.row (pH rfl w10.row (M6 qW))) ?_;have y10:=x10.size;exact⟨_,rfl,by rw[if_neg hw];rfl,aq.only ((e06.trans e8).trans e9) x10 (by omega)⟩
def Rf:gH ew:=.record 2 (by decide) aY (fun _=>rfl) cF
def Lb:gH Tk:=.record 3 (by decide) cB (fun _=>rfl) dV
end
end Go.Proofs.YtdihgdeciopfpaaGreatDoor
namespace Go.Proofs.YtdihgdeciopfpaaGreatDoor
open Go
section
variable {s x:By}{j i:Nat}
theorem Jp:∀(j:Nat) (l:By) (a:Nat) (st:ew),HN st.2->HN (cN j l a st).2.2
  | 0,l,a,st,h=>h
  |j+1,l,a,st,h=>by
    rw[cN];split
    · exact h
    · exact Jp j _ _ _ (KD h l)
theorem J9:HN ((0,0):ew).2:=by unfold HN;simp
structure fo (s s':By) (lim:Nat) (d:Int) (p:Nat) (toks:List Tk) (sts:List ew) (a:Nat) (st:ew):Prop where
  le:a<=s'.length
  ge:p<=a
  len:toks.length<=(bh s').1.length
  go:cN toks.length s' 0 (0,0)=(a,st)
  htoks:toks=(bh s').1.take toks.length
  hsts:sts=(pV s').take toks.length
  no:∀x,p<=x->x<a->lim<=x->¬Dk s s' d x
theorem Hy (hj:j<=(bh s).1.length):bh s=((bh s).1.take j++(dK s.length (s.drop (cN j s 0 (0,0)).1) (cN j s 0 (0,0)).1 (cN j s 0 (0,0)).2).1,(dK s.length (s.drop (cN j s 0 (0,0)).1) (cN j s 0 (0,0)).1 (cN j s 0 (0,0)).2).2) /\
    pV s=(pV s).take j++iI s.length (s.drop (cN j s 0 (0,0)).1) (cN j s 0 (0,0)).2:=by
  have:=Jo j s.length s 0 (0,0) (Nat.le_refl _) hj;rw[Nat.sub_zero] at this;exact this
theorem qK (hj:j<=(bh s).1.length):(bh s).1.drop j=(dK s.length (s.drop (cN j s 0 (0,0)).1) (cN j s 0 (0,0)).1 (cN j s 0 (0,0)).2).1/\(bh s).2=(dK s.length (s.drop (cN j s 0 (0,0)).1) (cN j s 0 (0,0)).1 (cN j s 0 (0,0)).2).2 /\
    (pV s).drop j=iI s.length (s.drop (cN j s 0 (0,0)).1) (cN j s 0 (0,0)).2:=by
  obtain⟨h1,h2⟩:=Hy hj;have e1:=congrArg Prod.fst h1;have e2:=congrArg Prod.snd h1;simp only at e1 e2;have hs:=mF s;refine⟨?_,e2,?_⟩
  · have:=congrArg (List.drop j) e1;rw[List.drop_append,List.drop_take,Nat.sub_self,List.take_zero,List.nil_append,List.length_take,show j-min j (bh s).1.length=0 by omega,List.drop_zero] at this;exact this
  · have:=congrArg (List.drop j) h2;rw[List.drop_append,List.drop_take,Nat.sub_self,List.take_zero,List.nil_append,List.length_take,show j-min j (pV s).length=0 by omega,List.drop_zero] at this;exact this
theorem Jn (hj:j<=(bh s).1.length):j<(bh s).1.length↔(cN j s 0 (0,0)).1<s.length:=by
  have hg:=oV j s 0 (0,0);constructor
  · intro h;exact(DI h).1
  · intro h
    rcases Nat.lt_or_ge j (bh s).1.length with k|k
    · exact k
    · exfalso;have:=(qK hj).1;rw[List.drop_of_length_le k] at this;have hne:s.drop (cN j s 0 (0,0)).1≠[]:=fun e=>by have:=congrArg List.length e;rw[List.length_drop] at this;simp at this;omega
      rw[gS hne (by rw[List.length_drop];omega)] at this;cases this
theorem NO (hi:i<(bh s).1.length) (hj:j<(bh s).1.length) (h:(cN i s 0 (0,0)).1=(cN j s 0 (0,0)).1):i=j:=by
  rcases Nat.lt_trichotomy i j with k|k|k
  · have:=CO (j:=i) (i:=j) (n:=s.length) (l:=s) (a:=0) (st:=(0,0)) (Nat.le_refl _) hj k;omega
  · exact k
  · have:=CO (j:=j) (i:=i) (n:=s.length) (l:=s) (a:=0) (st:=(0,0)) (Nat.le_refl _) hi k;omega
theorem DL (hij:i<=j) (hj:j<=s.length){p:Pt}(hb:J8 (B7 s) i p){k:Nat}(hk:k<=(bh s).1.length)
    (h1:∀(q:Nat) (t:Tk),q<k->(bh s).1[q]? =some t->t.2.1<p.1) (h2:∀(q:Nat) (t:Tk),k<=q->(bh s).1[q]? =some t->p.1<=t.2.1) (lim:Nat) (d:Int) :
    ∃a:Nat,p.1=a/\a<=i/\fo s (eU s i j x) lim d a ((bh s).1.take k) ((fF s).take k) a p.2:=by
  have hs:=mF s
  by_cases hp:p=(0,(0,0))
  · subst hp
    have k0:k=0:=by
      rcases Nat.eq_zero_or_pos k with h|h
      · exact h
      · exfalso;have ht:(bh s).1[0]? =some (bh s).1[0]:=List.getElem?_eq_getElem (by omega);have:=h1 0 _ h ht;have:=(pR ht).1;simp only at *;omega
    subst k0;exact⟨0,rfl,Nat.zero_le _,Nat.zero_le _,Nat.le_refl _,by simp,by simp[cN],by simp,by simp,fun x h3 h4=>by omega⟩
  · obtain⟨hm,hle,_⟩:=hb;have hle:=hle.resolve_right hp
    rcases IB hm with h|⟨q,hq,hq1,hq2⟩
    · exact absurd h hp
    · have ht:(bh s).1[q]? =some (bh s).1[q]:=List.getElem?_eq_getElem hq;have hf:=jW ht
      have kq:k=q:=by
        rcases Nat.lt_trichotomy k q with h|h|h
        · exfalso;have hu:(bh s).1[k]? =some (bh s).1[k]:=List.getElem?_eq_getElem (by omega);have h3:=DH hu ht h;have h4:=h2 k _ (Nat.le_refl _) hu;omega
        · exact h
        · exfalso;have:=h1 q _ h ht;omega
      subst kq;have hA:s=s.take i++s.drop i:=(List.take_append_drop i s).symm;have hE:eU s i j x=s.take i++(x++s.drop j):=by unfold eU;rw[List.append_assoc]
      have hlen:(s.take i).length=i:=by rw[List.length_take];omega
      obtain⟨g1,g2,g3,g4⟩:=zi k s.length (eU s i j x).length (s.take i) (s.drop i) (x++s.drop j) 0 (0,0) (by rw[<-hA];exact Nat.le_refl _) (by rw[<-hE];exact Nat.le_refl _) (by rw[<-hA];exact hk) (.inr (by rw[<-hA,hlen];omega));rw[<-hE] at g1 g2 g3 g4;rw[<-hA] at g1 g3 g4;have hgk:cN k s 0 (0,0)=((cN k s 0 (0,0)).1,p.2):=by rw[<-hq2]
      have hl:((bh s).1.take k).length=k:=by rw[List.length_take];omega
      refine⟨(cN k s 0 (0,0)).1,hq1.symm,by omega,?_,Nat.le_refl _,?_,?_,?_,?_,fun y h3 h4=>by omega⟩
      · have:=oV k (eU s i j x) 0 (0,0);rw[g1] at this;omega
      · rw[hl];exact g2
      · rw[hl,g1];exact hgk
      · rw[hl];exact g3.symm
      · rw[hl]
        have:(fF s).take k=(pV s).take k:=by
          rw[mG,List.take_append_of_le_length (by rw[iX];omega)]
        rw[this];exact g4.symm
section
variable {s s':By}{lim:Nat}{d:Int}{p:Nat}{toks:List Tk}{sts:List ew}{a:Nat}{st:ew}
theorem fo.lt (k:fo s s' lim d p toks sts a st) (ha:a<s'.length):toks.length<(bh s').1.length:=by
  rw[Jn k.len,k.go];exact ha
theorem fo.i64 (k:fo s s' lim d p toks sts a st):HN st.2:=by
  have:=Jp toks.length s' 0 (0,0) J9;rw[k.go] at this;exact this
theorem fo.O4 (k:fo s s' lim d p toks sts a st):sts.length=toks.length:=by
  have h1:=k.hsts;have h2:=k.len;have h3:=mF s';rw[h1,List.length_take];omega
theorem fo.step (k:fo s s' lim d p toks sts a st) (ha:a<s'.length) (hn:lim<=a->¬Dk s s' d a) :
    fo s s' lim d p (toks++[(mh (s'.drop a) st.1,(a:Int),((a+bF (s'.drop a) st.1:Nat):Int))]) (sts++[st]) (a+bF (s'.drop a) st.1) (dH (s'.drop a) st):=by
  have hl:=k.lt ha;obtain⟨t1,t2,t3,t4,t5⟩:=DI hl;rw[k.go] at t1 t2 t3 t4 t5;simp only at t1 t2 t3 t4 t5;have hne:s'.drop a≠[]:=fun e=>by have:=congrArg List.length e;rw[List.length_drop] at this;simp at this;omega
  have h3:=dX hne st.1;rw[List.length_drop] at h3;have hgo:cN (toks.length+1) s' 0 (0,0)=(a+bF (s'.drop a) st.1,dH (s'.drop a) st):=by rw[<-t4,<-t5]
  have hsl:=mF s';refine⟨by omega,by have:=k.ge;omega,by rw[List.length_append,List.length_singleton];omega,by rw[List.length_append,List.length_singleton];exact hgo,?_,?_,fun x h1 h2 h4 hsy=>?_⟩
  · rw[List.length_append,List.length_singleton,List.take_add_one,t2,<-k.htoks];rfl
  · rw[List.length_append,List.length_singleton,List.take_add_one,t3,<-k.hsts];rfl
  · rcases Nat.lt_trichotomy x a with h|h|h
    · exact k.no x h1 h h4 hsy
    · subst h;exact hn h4 hsy
    · obtain⟨_,st1,_,_,⟨q,hq,hqg⟩⟩:=hsy;have hqx:(cN q s' 0 (0,0)).1=x:=by rw[hqg]
      have hag:(cN toks.length s' 0 (0,0)).1=a:=by rw[k.go]
      have hlt:toks.length<q:=by
        rcases Nat.lt_trichotomy toks.length q with h5|h5|h5
        · exact h5
        · subst h5;omega
        · have:=CO (j:=q) (i:=toks.length) (n:=s'.length) (l:=s') (a:=0) (st:=(0,0)) (Nat.le_refl _) hl h5;omega
      rcases Nat.lt_or_ge (toks.length+1) q with h5|h5
      · have:=CO (j:=toks.length+1) (i:=q) (n:=s'.length) (l:=s') (a:=0) (st:=(0,0)) (Nat.le_refl _) hq h5;rw[hgo] at this;simp only at this;omega
      · obtain rfl:q=toks.length+1:=by omega
        rw[hgo] at hqx;simp only at hqx;omega
theorem KE (k:fo s s' lim d p toks sts a st) (ha:a<s'.length){old:Nat}(h1:∀(r:Nat) (t:Tk),r<old->(bh s).1[r]? =some t->t.2.1+d<max (a:Int) lim)
    (h2:∀t:Tk,(bh s).1[old]? =some t->¬t.2.1+d<a) (h3:lim<=a->∀t:Tk,(bh s).1[old]? =some t->t.2.1+d=a->¬(fF s)[old]? =some st) (hl:lim<=a):¬Dk s s' d a:=by
  rintro⟨a0,st0,⟨r,hr,hrg⟩,hd,⟨q,hq,hqg⟩⟩;have hqt:q=toks.length:=NO hq (k.lt ha) (by rw[hqg,k.go]);subst hqt;rw[k.go] at hqg;obtain rfl:st=st0:=congrArg Prod.snd hqg;have ht:(bh s).1[r]? =some (bh s).1[r]:=List.getElem?_eq_getElem hr;have hf:=jW ht;rw[hrg] at hf;simp only at hf
  have hro:old<=r:=by
    rcases Nat.lt_or_ge r old with h|h
    · exfalso;have:=h1 r _ h ht;omega
    · exact h
  have hu:(bh s).1[old]? =some (bh s).1[old]:=List.getElem?_eq_getElem (by omega);have h4:=h2 _ hu
  rcases Nat.lt_or_ge old r with h|h
  · have:=DH hu ht h;omega
  · obtain rfl:old=r:=by omega
    refine h3 hl _ ht (by omega) ?_;rw[Ai hr,(DI hr).2.2.1,hrg]
theorem fo.done (k:fo s s' lim d p toks sts a st) (ha:a=s'.length):toks=(bh s').1/\sts=fF s'/\st=(bh s').2:=by
  have hl:toks.length=(bh s').1.length:=by
    rcases Nat.lt_or_ge toks.length (bh s').1.length with h|h
    · rw[Jn k.len,k.go] at h;simp only at h;omega
    · have:=k.len;omega
  refine⟨by rw[k.htoks,hl,List.take_length],?_,?_⟩
  · rw[k.hsts,hl];have:=iX s';rw[mG,List.take_append_of_le_length (by omega),<-this,List.take_length]
  · have:=(qK k.len).2.1;rw[k.go] at this;simp only at this;rw[this,ha,List.drop_length,nr]
end
theorem zG {a b:Nat}(hij:i<=j) (hj:j<=s.length) (ha:i+x.length<=a) (hab:(b:Int)+((x.length:Int)-((j:Int)-i))=a):(eU s i j x).drop a=s.drop b:=by
  unfold eU;have hl:(s.take i++x).length=i+x.length:=by rw[List.length_append,List.length_take];omega
  rw[List.drop_append,List.drop_of_length_le (by omega),List.nil_append,List.drop_drop,hl]
  congr 1;omega
theorem Dj (hij:i<=j) (hj:j<=s.length){p:Nat}{toks:List Tk}{sts:List ew}{a:Nat}{st:ew}{d:Int}(hd:d=(x.length:Int)-((j:Int)-i)) (k:fo s (eU s i j x) (i+x.length) d p toks sts a st)
    (ha:i+x.length<=a){old:Nat}{t:Tk}(ht:(bh s).1[old]? =some t) (h1:t.2.1+d=a) (h2:(fF s)[old]? =some st) :
    toks++((bh s).1.drop old).map (L0 d)=(bh (eU s i j x)).1/\sts++(fF s).drop old=fF (eU s i j x)/\(bh s).2=(bh (eU s i j x)).2:=by
  subst hd;have ho:=(List.getElem?_eq_some_iff.1 ht).1;have hf:=jW ht;obtain⟨b1,b2,b3⟩:=qK (s:=s) (j:=old) (by omega);obtain⟨c1,c2,c3⟩:=qK k.len;rw[k.go] at c1 c2 c3;simp only at c1 c2 c3
  have hst:(cN old s 0 (0,0)).2=st:=by
    rw[Ai ho,(DI ho).2.2.1] at h2;exact Option.some.inj h2
  rw[hst] at b1 b2 b3;have hb:((cN old s 0 (0,0)).1:Int)+((x.length:Int)-((j:Int)-i))=a:=by omega
  rw[zG hij hj ha hb] at c1 c2 c3;generalize (cN old s 0 (0,0)).1=b at *;have hbl:(s.drop b).length<=s.length:=by rw[List.length_drop];omega
  have hbl':(s.drop b).length<=(eU s i j x).length:=by rw[<-zG hij hj ha hb,List.length_drop];omega
  have hsh:=wV ((x.length:Int)-((j:Int)-i)) (eU s i j x).length (s.drop b) b a st hb.symm;rw[nP _ s.length (s.drop b) b st hbl' hbl] at hsh;rw[hsh] at c1 c2;simp only at c1 c2;rw[ri _ s.length (s.drop b) st hbl' hbl] at c3;refine⟨?_,?_,by rw[b2,c2]⟩
  · rw[b1]
    conv=>lhs;rw[k.htoks]
    rw[<-c1,List.take_append_drop]
  · have hd1:(pV s).drop old=(fF s).drop old++[(bh s).2]:=by
      have:=iX s;rw[mG,List.drop_append_of_le_length (by omega)]
    have e:sts++(fF s).drop old++[(bh s).2]=fF (eU s i j x)++[(bh (eU s i j x)).2]:=by
      rw[<-mG,List.append_assoc,<-hd1,b3,<-c3]
      conv=>lhs;rw[k.hsts]
      rw[List.take_append_drop]
    exact(List.append_inj' e rfl).1
end
end Go.Proofs.YtdihgdeciopfpaaGreatDoor
namespace Go.Proofs.YtdihgdeciopfpaaGreatDoor
open Go.Proofs.Tryz
open Go Go.Lw
set_option maxRecDepth 20000
theorem K3:Tryz.prog.underlying 211=some (.struct (Tryz.prog.fieldsOf 211)):=by kernel_rfl
theorem Ni:Tryz.prog.stoodInHeld 211=false:=by kernel_rfl
theorem NN:Tryz.prog.eqGuardType Tryz.prog.depth 211=false:=by kernel_rfl
theorem O2 {t:TypeId}(hf:∃f0 f1:Field,(Tryz.prog.fieldsOf t).toList=[f0,f1]/\(f0.name≠ "_" /\f0.type=3/\f0.offset=0)/\(f1.name≠ "_" /\f1.type=3/\f1.offset=1))
    (hi:aO Tryz.prog 3=some false) (x y:ew) (w:World):(Op.eqFields 9999 (aY x).toArray (aY y).toArray (Tryz.prog.fieldsOf t).toList).run Tryz.prog w= .ok (decide (x=y)) w:=by
  obtain⟨f0,f1,e,⟨n0,t0,o0⟩,⟨n1,t1,o1⟩⟩:=hf;rw[e];have h1:=lH (P:=Tryz.prog) (d:=9999) (xs:=(aY x).toArray) (ys:=(aY y).toArray) (fs:=[]) (w:=w) n1 (by rw[t1];exact hi) (u:=.int .i64 x.2) (v:=.int .i64 y.2) (by rw[o1];rfl) (by rw[o1];rfl) (by rw[t1];exact run_equalIn_int w 9998 _ _ _ _ _ underlying3) rfl;have h0:=lH n0 (by rw[t0];exact hi) (u:=.int .i64 x.1) (v:=.int .i64 y.1) (by rw[o0];rfl) (by rw[o0];rfl) (by rw[t0];exact run_equalIn_int w 9998 _ _ _ _ _ underlying3) h1;rw[h0]
  congr 1
  obtain⟨a,b⟩:=x;obtain⟨a',b'⟩:=y;simp only[Prod.mk.injEq,tR,Bool.and_true];rw[Bool.eq_iff_iff];simp
theorem Ru (x y:ew) (w:World):(Op.eqFields 9999 (aY x).toArray (aY y).toArray (Tryz.prog.fieldsOf 211).toList).run Tryz.prog w= .ok (decide (x=y)) w :=
  O2 ⟨_,_,rfl,⟨by decide,rfl,rfl⟩,⟨by decide,rfl,rfl⟩⟩ (by kernel_rfl) x y w
end Go.Proofs.YtdihgdeciopfpaaGreatDoor
namespace Go.Proofs.YtdihgdeciopfpaaGreatDoor
open Go.Proofs.Tryz
open Go Go.Lw
set_option maxRecDepth 20000 set_option maxHeartbeats 4000000
section
variable {h:aj}
theorem Jl {a b:Nat}(hb:a+b<4611686018427387904):Int.fdiv ((a:Int)+(b:Int)) (2 ^ min ((1:Int).toNat) IntKind.u64.bits)=(((a+b) / 2:Nat):Int):=by
 have:(2:Int) ^ min ((1:Int).toNat) IntKind.u64.bits=2:=by decide
 rw[this,Int.fdiv_eq_ediv_of_nonneg _ (by decide)];omega
theorem lf {g:FuncId}{caps:List Value}(hf:Q4 Tryz.prog g) (n:Nat) (hn:n<=1000000) (p:Nat->Bool) (hp:∀i:Nat,i<n->af Tryz.prog g ([Value.int .i64 (i:Nat)]++caps).toArray h (bf fun r h'=>r= .bool (p i)/\h'=h)) :
 af Tryz.prog 230 #[.int .i64 (n:Nat),.func (.func g) #[] caps.toArray] h (bf fun r h'=>(∃k:Nat,r= .int .i64 (k:Nat)/\k<=n/\(0<k->p (k-1)=false)/\(k<n->p k=true))/\h'=h):=by
 refine eV ?_;refine ax ?_;refine qS (σ:=Nat×Nat) (fun q=>[(5,.int .i64 (q.1:Nat)),(6,.int .i64 (q.2:Nat))]) (fun q h'=>h'=h/\q.1<=q.2/\q.2<=n/\(0<q.1->p (q.1-1)=false)/\(q.2<n->p q.2=true)) (fun q=>q.2-q.1) ((0,n)) ⟨rfl,Nat.zero_le _,Nat.le_refl _,fun k=>absurd k (Nat.lt_irrefl _),fun k=>absurd k (Nat.lt_irrefl _)⟩ rfl ?_;rintro⟨i,j⟩ w ⟨rfl,hij,hj,h1,h2⟩ ih
 try dsimp only
 dsimp only at hij hj h1 h2;refine ax ?_;refine dM (fun hlt=>?_) (fun hlt=>?_)
 · have hlt':i<j:=by omega
   have hm:(i+j) / 2<n:=by omega
   iterate 3 refine dc ?_
   refine fE ?_
   iterate 3 refine cG ?_
   refine xp rfl (OI rfl (jU (by omega))) ?_;refine xp rfl (F1 rfl rfl (by decide)) ?_;rw[Jl (by omega)];have hpm:=hp ((i+j) / 2) hm;generalize hmm:(i+j) / 2=m at *;refine xp rfl (OI rfl (wrap_i64 ⟨by omega,by omega⟩)) ?_;refine ax ?_;refine xo rfl (aB.QE (vs:=[_]) rfl hf rfl (af.bD (hpm))) ?_;rintro _ w1 ⟨rfl,hw1⟩;refine ax ?_;subst hw1;refine E4 (fun hb=>?_) (fun hb=>?_)
   · have hb':p m=false:=by simpa using hb
     refine ax ?_;exact ih (m+1,j) ⟨rfl,by show m+1<=j;omega,hj,fun _=>by show p (m+1-1)=false;rw[Nat.add_sub_cancel];exact hb',h2⟩
   · have hb':p m=true:=by simpa using hb
     refine ax ?_;exact ih (i,m) ⟨rfl,by show i<=m;omega,by show m<=n;omega,h1,fun _=>hb'⟩
 · obtain rfl:i=j:=by omega
   refine ax ?_;refine dS ?_;exact⟨_,rfl,⟨i,rfl,hj,h1,h2⟩,rfl⟩
theorem A4 {b1 b2:Nat}{v:Value}{O:Nat->Prop}{xs:List Tk}{a:Int}(k1:aH h b1 215 [v]) (k2:aH h b2 3 [.int .i64 a]) (hv:bB Lb h O v xs) (i:Nat){t:Tk}(ht:xs[i]? =some t) :
 af Tryz.prog 232 #[.int .i64 (i:Nat),.pointer (some ⟨b1,0,none⟩),.pointer (some ⟨b2,0,none⟩)] h (bf fun r h'=>r= .bool (decide (a<=t.2.1))/\h'=h):=by
 obtain⟨va,vn,vc,rfl,hvs⟩:=hv.open;have hl:xs.length=vn:=hvs.len;have hi:=(List.getElem?_eq_some_iff.1 ht).1;obtain⟨bb,o,t',ha,_,ht',hrow⟩:=hvs.lq (i:=i) (by omega);obtain rfl:t'=t:=Option.some.inj (ht'.symm.trans ht);refine eV ?_;refine ax ?_;refine rU rfl (bJ rfl (k1.cell (i:=0) rfl)) ?_;refine OH ?_;refine rU rfl (fN rfl rfl i rfl ha) ?_;refine ax ?_;refine rU rfl (bJ rfl (hrow 1 _ rfl)) ?_;refine rU rfl (bJ rfl (k2.cell (i:=0) rfl)) ?_;refine ax ?_;refine dS ?_;exact⟨_,rfl,rfl,rfl⟩
theorem Ae {v:Value}{O:Nat->Prop}{xs:List Tk}(hv:bB Lb h O v xs) (hx:xs.length<=1000000) (hs:∀(i j:Nat) (t u:Tk),xs[i]? =some t->xs[j]? =some u->i<j->t.2.1<u.2.1) (a:Int) :
 af Tryz.prog 180 #[v,.int .i64 a] h (bf fun r h'=>(∃k:Nat,r= .int .i64 (k:Nat)/\k<=xs.length/\(∀(q:Nat) (t:Tk),q<k->xs[q]? =some t->t.2.1<a)/\(∀(q:Nat) (t:Tk),k<=q->xs[q]? =some t->a<=t.2.1))/\aq h h'):=by
 obtain⟨va,vn,vc,rfl,hvs⟩:=id hv.open;have hl:xs.length=vn:=hvs.len;subst hl;refine eV ?_;refine ax ?_;refine xo rfl (Bu) ?_;rintro _ h1 ⟨rfl,k1,e1,z1⟩;refine xo rfl (Bu) ?_;rintro _ h2 ⟨rfl,k2,e2,z2⟩;have k1:aH h1 h.size 215 [.slice va xs.length vc]:=k1;have k2:aH h2 h1.size 3 [.int .i64 a]:=k2;have e02:=e1.trans e2
 have hsr:=lf (h:=h2) (g:=232) (caps:=[.pointer (some ⟨h.size,0,none⟩),.pointer (some ⟨h1.size,0,none⟩)]) ⟨_,func232,rfl,by kernel_rfl⟩ xs.length hx (fun i=>match xs[i]? with|some t=>decide (a<=t.2.1)|none=>false) (fun i hi=>by
  have ht:xs[i]? =some xs[i]:=List.getElem?_eq_getElem hi;simp only[ht];exact A4 (k1.ak e2) k2 (hv.ak e02) i ht)
 refine ax ?_;refine xp rfl (bJ rfl ((k1.ak e2).cell (i:=0) rfl)) ?_;refine ax ?_;refine xp rfl (ai.makeFunc (vs:=[_,_]) rfl) ?_;refine xo rfl (dz rfl hsr) ?_;rintro _ h3 ⟨⟨k,rfl,hk,hk1,hk2⟩,hh3⟩;refine ax ?_;subst hh3;refine dS ?_;refine⟨_,rfl,⟨k,rfl,hk,fun q t hq ht=>?_,fun q t hq ht=>?_⟩,e02⟩
 · have h0:=hk1 (by omega);have hl:xs[k-1]? =some xs[k-1]:=List.getElem?_eq_getElem (by omega);simp only[hl] at h0;have h0:=of_decide_eq_false h0
   rcases Nat.lt_or_ge q (k-1) with h4|h4
   · have:=hs q (k-1) t _ ht hl h4;omega
   · obtain rfl:q=k-1:=by omega
     rw[ht] at hl;obtain rfl:=Option.some.inj hl;omega
 · have hq':=(List.getElem?_eq_some_iff.1 ht).1;have h0:=hk2 (by omega);have hl:xs[k]? =some xs[k]:=List.getElem?_eq_getElem (by omega);simp only[hl] at h0;have h0:=of_decide_eq_true h0
   rcases Nat.lt_or_ge k q with h4|h4
   · have:=hs k q _ t hl ht h4;omega
   · obtain rfl:q=k:=by omega
     rw[ht] at hl;obtain rfl:=Option.some.inj hl;omega
end
end Go.Proofs.YtdihgdeciopfpaaGreatDoor

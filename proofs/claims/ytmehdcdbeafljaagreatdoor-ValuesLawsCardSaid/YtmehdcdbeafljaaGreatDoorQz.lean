/- What the proof of the statement leans on (part 26). -/
import Derived.Below
import Derived.Lib.TrimUEq
import Derived.Test.YtmehdcdbeafljaaGreatDoorQy

namespace Go.Proofs.YtmehdcdbeafljaaGreatDoor
open Go.Proofs.Tryz
open Go Go.Lw
set_option maxRecDepth 20000
section
variable {h:aA}{p:Value}
def IQ (h:aA):Prop:=(∀c,c<256->cellAt h ⟨5,c,none⟩=some (.int .u8 (Lib.firstT c))) /\
 (∀i,i<16->cellAt h ⟨6,2*i,none⟩=some (.int .u8 (Lib.accLo i))/\cellAt h ⟨6,2*i+1,none⟩=some (.int .u8 (Lib.accHi i)))
structure AU (h:aA):Prop where
 sg:∃lim,lim<=h.size/\Sg h lim
 tens:qG h
 rules:lA h
 utf:IQ h
 most:∃m,cellAt h ⟨9,0,none⟩=some (.int .i64 m)
theorem AU.ax {h h':aA}(k:AU h) (e:aC h h'):AU h':=by
 obtain⟨⟨lim,h1,h2⟩,h3,h4,h5,m,h6⟩:=k;have hz:=e.size;exact⟨⟨lim,by omega,h2.ext e (fun _ k=>k.elim)⟩,h3.ax e,h4.ax e,⟨fun c hc=>e.cell (fun k=>k) (h5.1 c hc),fun i hi=>⟨e.cell (fun k=>k) (h5.2 i hi).1,e.cell (fun k=>k) (h5.2 i hi).2⟩⟩,m,e.cell (fun k=>k) h6⟩
theorem yg (hg:AU h) (l:By) (hl:l≠[]):ah Tryz.prog 111 #[.string (bs l)] h (cM fun r h'=>(∃x:Nat,r= .tuple #[.int .i32 (x:Nat),.int .i64 (oW l:Nat)])/\aC h h'):=by
 refine ah.oZ fun w hw=>?_
 subst hw;have hT:Lib.Utf8Tabs 5 6 w:=⟨fun c hc=>by rw[dR];exact hg.utf.1 c hc,fun i hi=>⟨by rw[dR];exact(hg.utf.2 i hi).1,by rw[dR];exact(hg.utf.2 i hi).2⟩⟩
 refine(Tryz.utf8_DecodeRuneInString (bs l) w hT).mono ?_;rintro e w' ⟨rfl,hb⟩
 have hn:(Lib.decodeGo (bs l)).2=oW l:=by
  have h0:¬(bs l).size=0:=by rw[bY];have:=List.length_pos_iff.2 hl;omega
  unfold Lib.decodeGo;rw[if_neg h0,Lib.decode_N,jF];rfl
 refine⟨_,rfl,⟨⟨(Lib.decodeGo (bs l)).1,by rw[hn]⟩,⟨hb.size,fun b hlt _=>hb.block b hlt⟩⟩,hb.os,hb.tape,hb.output⟩
theorem mE (hg:AU h) (s t:By) (hs:s.length<=1000000):ah Tryz.prog 113 #[.string (bs s),.string (bs t)] h (cM fun r h'=>r= .bool (Lib.contains s t)/\h'=h):=by
 obtain⟨m,hm⟩:=hg.most;refine ah.oZ fun w hw=>?_
 subst hw;refine(Tryz.strings_Contains (bs s) (bs t) m w (by rw[bY];omega) (by rw[dR];exact hm)).mono ?_;rintro e w' ⟨rfl,rfl⟩;rw[jF,jF];exact⟨_,rfl,⟨rfl,rfl⟩,rfl,rfl,rfl⟩
theorem sr (hg:AU h) (s:By) (hs:s.length<=1000000):ah Tryz.prog 67 #[.string (bs s)] h (cM fun r h'=>r= .bool (cN s)/\h'=h):=by
 have hbs:=bY s
 have e1:((⟨#[32]⟩:ByteArray)++bs s)++⟨#[32]⟩=bs (32::(s++[32])):=by
  rw[show (⟨#[32]⟩:ByteArray)=bs [32] from rfl,kD,kD];rfl
 have w1:(⟨#[32]⟩:ByteArray).size=1:=rfl;refine ah.of func67 rfl rfl ?_;refine bf func67 1 [0,2] rfl ?_;refine av rfl ?_;refine G.bw [(2,.bool (cN s))] [(0,_)] ⟨rfl,trivial⟩ func67 rfl ?_ ?_
 · refine cI 1 rfl rfl (aj.n8 rfl rfl) ?_;refine aV 1 rfl ?_;refine aL (d:=5) rfl (fun hc=>?_) (fun hc=>?_)
   · have hc':decide (s≠[])=true:=decide_eq_true (fun e=>of_decide_eq_true hc (by rw[e];rfl));refine aV 1 rfl ?_;refine xo rfl (aq (vs:=[_,_]) func113 rfl H.Iv rfl (ah.bq (mE hg s [32] hs))) ?_;rintro _ h0 ⟨rfl,hh0⟩;subst hh0;refine aV 3 rfl ?_;refine aL (d:=10) rfl (fun hc2=>?_) (fun hc2=>?_)
     · refine cI 1 rfl rfl (aj.uM rfl rfl (by omega)) ?_;refine xp rfl (aj.uM rfl rfl (by rw[ByteArray.size_append];omega)) ?_;rw[e1];refine xo rfl (aq (vs:=[_,_]) func113 rfl H.Iv rfl (ah.bq (mE hg Ef (32::(s++[32])) (by decide)))) ?_;rintro _ h1 ⟨rfl,hh1⟩;subst hh1;refine aV 2 rfl ?_;refine aD rfl ?_;exact⟨rfl,aF rfl (by rw[cN,hc',hc2,Bool.true_and,Bool.true_and]),rfl,trivial⟩
     · refine aV 6 rfl ?_;refine aD rfl ?_;exact⟨rfl,aF rfl (by rw[cN,hc',hc2,Bool.true_and,Bool.false_and]),rfl,trivial⟩
   · refine aV 11 rfl ?_;refine aD rfl ?_;exact⟨rfl,aF rfl (by rw[cN,decide_eq_false (fun k=>of_decide_eq_false hc (fun e=>k (bZ (m:=[]) e))),Bool.false_and]),rfl,trivial⟩
 · refine G.ret func67 rfl rfl ?_;exact⟨_,rfl,rfl,rfl⟩
theorem DB {m:Nat}(hm:m<3){i:Nat}:(nU m)[i]?.map (fun r=>(r.2.1,r.2.2))=(tJ m)[i]? :=by
 have h:(nU m).map (fun r=>(r.2.1,r.2.2))=tJ m:=by
  match m,hm with
  | 0,_=>decide
  | 1,_=>decide
  | 2,_=>decide
 rw[<-h,List.getElem?_map]
theorem qp {m:Int}(h:m<0\/3<=m):tJ m=[]:=by
 unfold tJ;rw[if_neg (by omega),if_neg (by omega),if_neg (by omega)]
theorem DK {α:Type}{l:List α}{kn:Nat}{n:Int}(hk:l.length=kn) (hn:¬n<0):decide ((kn:Int)<=n)= !(l[n.toNat]?).isSome:=by
 cases hq:l[n.toNat]? with
 |none=>have:=List.getElem?_eq_none_iff.1 hq;simp;omega
 |some v=>have:=(List.getElem?_eq_some_iff.1 hq).1;simp;omega
theorem tX (hg:AU h) (m n:Int):ah Tryz.prog 112 #[.int .i64 m,.int .i64 n] h (cM fun r h'=>(∃x:By×Int×Int,r= .tuple #[.agg (fe x).toArray,.bool (jh m n).isSome]/\∀p,jh m n=some p->(x.2.1,x.2.2)=p)/\aC h h'):=by
 refine ah.of func112 rfl rfl ?_;refine xr func112 rfl ?_;refine xo rfl (az.aQ H.yN) ?_;rintro _ h1 ⟨rfl,k1,e1,z1⟩;have k1:bh h1 h.size 144 [.string ⟨#[]⟩,.int .i64 0,.int .i64 0]:=k1
 have hrow:∀mm:Nat,mm<3->∃oa kn kc,cellAt h1 ⟨0,0+mm*1,none⟩=some (.slice oa kn kc)/\Sl Jw h1 (fun _=>False) oa kn kc (nU mm):=fun mm hmm=>by
  obtain⟨v,hv,hsl⟩:=(hg.rules.ax e1) mm hmm;obtain⟨oa,kn,kc,rfl,h2⟩:=hsl.open;exact⟨oa,kn,kc,by rw[Nat.mul_one,Nat.zero_add];exact hv,h2⟩
 have hlenT:∀mm:Nat,mm<3->(nU mm).length=(tJ mm).length:=fun mm hmm=>by
  match mm,hmm with
  | 0,_=>rfl
  | 1,_=>rfl
  | 2,_=>rfl
 refine aN 1 [0,1,4,5] rfl ?_;refine av rfl ?_;refine av rfl ?_;refine G.bw [(23,.bool (!(jh m n).isSome))] [(0,_),(1,_),(4,_),(5,_)] ⟨rfl,rfl,rfl,rfl,trivial⟩ func112 rfl ?_ ?_
 · refine aV 3 rfl ?_;refine aL (d:=8) rfl (fun c1=>?_) (fun c1=>?_)
   · have c1':=of_decide_eq_true c1;refine aV 15 rfl ?_;refine aD rfl ?_;exact⟨rfl,aF rfl (by rw[jh,qp (.inl c1')];simp),rfl,rfl,rfl,rfl,trivial⟩
   · have c1':=of_decide_eq_false c1;refine aV 4 rfl ?_;refine aL (d:=12) rfl (fun c2=>?_) (fun c2=>?_)
     · have c2':=of_decide_eq_true c2;refine aV 11 rfl ?_;refine aD rfl ?_;exact⟨rfl,aF rfl (by rw[jh,qp (.inr c2')];simp),rfl,rfl,rfl,rfl,trivial⟩
     · have c2':=of_decide_eq_false c2;refine aV 4 rfl ?_;refine aL (d:=16) rfl (fun c3=>?_) (fun c3=>?_)
       · have c3':=of_decide_eq_true c3;refine aV 7 rfl ?_;refine aD rfl ?_;exact⟨rfl,aF rfl (by rw[jh,if_pos c3'];rfl),rfl,rfl,rfl,rfl,trivial⟩
       · have c3':=of_decide_eq_false c3;obtain⟨mm,rfl⟩:=Int.eq_ofNat_of_zero_le (show 0<=m by omega);have hmm:mm<3:=by omega
         obtain⟨oa,kn,kc,hv,hsl⟩:=hrow mm hmm;have hkl:=hsl.len;rw[hlenT mm hmm] at hkl;refine cI 2 rfl rfl (aj.cQ underlying145 H.EC rfl rfl mm rfl (by omega)) ?_;refine xp rfl (ai H.CM rfl hv) ?_;refine xp rfl (aj.aS underlying142 rfl) ?_;refine aV 2 rfl ?_;refine aD rfl ?_;exact⟨rfl,aF rfl (by rw[jh,if_neg c3'];exact DK hkl c3'),rfl,rfl,rfl,rfl,trivial⟩
 · rcases hf:jh m n with _|p
   · refine aJ rfl rfl (fun _=>?_) (fun hc=>absurd hc (by simp));refine xr func112 rfl ?_;refine xp rfl (aG (H.JC ) rfl) ?_;refine RW.bB rfl rfl rfl (az.au H.j8 rfl rfl k1 (by first|rfl|(simp;done)|(simp;omega)) (by first|decide|exact of_decide_eq_true rfl|(simp;done)|(simp;omega)) (by first|decide|simp[Value.oneCell'])) ?_;rintro _ h2 ⟨rfl,k2,x2,z2⟩;refine aN 1 [0,1,4,5,23] rfl ?_;have k2:bh h2 h.size 144 (fe ([],0,0)):=k2;refine G.br func112 rfl (.cons (aI.bp H.AK H.j8 rfl (k2.row) (by first|rfl|(simp;done)|(simp;omega))) (.cons (aI.tmp rfl) (.nil))) ?_;exact⟨_,rfl,⟨([],0,0),rfl,fun p hp=>by cases hp⟩,e1.only x2 (Nat.le_refl _)⟩
   · have hn0:0<=n:=by
      by_cases q:n<0
      · rw[jh,if_pos q] at hf;cases hf
      · omega
     have hm0:0<=m/\m<3:=by
      by_cases q:m<0\/3<=m
      · rw[jh,qp q] at hf;simp at hf
      · omega
     obtain⟨mm,rfl⟩:=Int.eq_ofNat_of_zero_le hm0.1;obtain⟨i,rfl⟩:=Int.eq_ofNat_of_zero_le hn0;have hmm:mm<3:=by omega
     obtain⟨oa,kn,kc,hv,hsl⟩:=hrow mm hmm;have hkl:=hsl.len;rw[jh,if_neg (by omega),Int.toNat_natCast,<-DB hmm] at hf;obtain⟨r,hr,hrp⟩:=Option.map_eq_some_iff.1 hf;obtain⟨b3,o3,cs3,ha3,_,hrow3,rfl⟩:=hsl.get i r hr;have hil:=(List.getElem?_eq_some_iff.1 hr).1;refine aJ rfl rfl (fun hc=>absurd hc (by simp)) (fun _=>?_);refine aB rfl ?_;refine bl func112 1 rfl ?_;refine xp rfl (aj.cQ underlying145 H.EC rfl rfl mm rfl (by omega)) ?_;refine xp rfl (ai H.CM rfl hv) ?_;refine cI 1 rfl rfl (aj.aH underlying142 H.j8 rfl rfl i rfl ha3 (by omega)) ?_;refine xp rfl (aj.aE H.AK H.j8 rfl hrow3 (by first|rfl|(simp;done)|(simp;omega))) ?_;refine RW.bB rfl rfl rfl (az.au H.j8 rfl rfl k1 (by first|rfl|(simp;done)|(simp;omega)) (by first|decide|exact of_decide_eq_true rfl|(simp;done)|(simp;omega)) (oU r)) ?_;rintro _ h2 ⟨rfl,k2,x2,z2⟩;refine aN 1 [0,1,4,5,23] rfl ?_;have k2:bh h2 h.size 144 (fe r):=k2;refine G.br func112 rfl (.cons (aI.bp H.AK H.j8 rfl (k2.row) (by first|rfl|(simp;done)|(simp;omega))) (.cons (aI.tmp rfl) (.nil))) ?_;exact⟨_,rfl,⟨r,rfl,fun p hp=>by cases hp;exact hrp⟩,e1.only x2 (Nat.le_refl _)⟩
theorem BD (hg:AU h) (m n:Int):ah Tryz.prog 66 #[.int .i64 m,.int .i64 n] h (cM fun r h'=>r= .int .i64 (pF m n)/\aC h h'):=by
 refine ah.of func66 rfl rfl ?_;refine bf func66 1 [0,1,4] rfl ?_;refine bl func66 2 rfl ?_;refine xo rfl (aq (vs:=[_,_]) func112 rfl H.Iw rfl (ah.bq (tX hg m n))) ?_;rintro _ h1 ⟨⟨x,rfl,hx⟩,e1⟩;refine aV 3 rfl ?_;refine xo rfl (az.aQ H.yN) ?_;rintro _ h2 ⟨rfl,k2,e2,z2⟩;refine RW.bB rfl rfl rfl (az.au H.j8 rfl rfl k2 (by first|rfl|(simp;done)|(simp;omega)) (by first|decide|exact of_decide_eq_true rfl|(simp;done)|(simp;omega)) (oU x)) ?_;rintro _ h3 ⟨rfl,k3,x3,z3⟩;have k3:bh h3 h1.size 144 (fe x):=k3;have e3:aC h1 h3:=e2.only x3 (Nat.le_refl _)
 rcases hf:jh m n with _|p
 · refine aN 1 [0,1,4,5,6] rfl ?_;refine av rfl ?_;refine bf func66 2 [0,1,4,5,6,14] rfl ?_;refine aJ rfl rfl (fun _=>?_) (fun hc=>absurd hc (by simp));refine bf func66 1 [0,1,4,5,6,14] rfl ?_;refine G.ret func66 rfl rfl ?_;exact⟨_,rfl,by rw[pF,hf];rfl,e1.trans e3⟩
 · have hp:=hx p hf;refine aN 1 [0,1,4,5,6] rfl ?_;refine av rfl ?_;refine bf func66 2 [0,1,4,5,6,14] rfl ?_;refine aJ rfl rfl (fun hc=>absurd hc (by simp)) (fun _=>?_);refine aB rfl ?_;refine xr func66 rfl ?_;refine xp rfl (af (off:=1) underlying144 rfl rfl H.bV rfl) ?_;refine xp rfl (ai H.cK rfl (k3.cell (i:=1) rfl)) ?_;refine aN 1 [0,1,4,5,6,14] rfl ?_;refine G.ret func66 rfl rfl ?_;exact⟨_,rfl,by rw[pF,hf,<-hp];rfl,e1.trans e3⟩
def cC (s:uX):List Value:=[.int .i64 s.1,.int .i64 s.2]
theorem gC (s:uX):∀v∈cC s,v.oneCell'=true:=fun v hv=>by simp[cC] at hv;rcases hv with rfl|rfl<;>rfl
def Gz (i:Int):Prop:= -9223372036854775808<=i/\i<=9223372036854775807
theorem rJ (hg:AU h) (s:uX) (n:Int) (hs:Gz s.2):ah Tryz.prog 68 #[.agg (cC s).toArray,.int .i64 n] h (cM fun r h'=>r= .agg (cC (jo s n)).toArray/\aC h h'):=by
 obtain⟨m,d⟩:=s;obtain⟨hd1,hd2⟩:=hs;simp only at hd1 hd2;refine ah.of func68 rfl rfl ?_;refine xr func68 rfl ?_;refine xo rfl (az.eR rfl) ?_;rintro _ h1 ⟨rfl,k1,e1,z1⟩;refine xo rfl (az.aQ H.yM) ?_;rintro _ h2 ⟨rfl,k2,e2,z2⟩;have k1:bh h1 h.size 41 [.int .i64 m,.int .i64 d]:=k1;have k2:bh h2 h1.size 41 [.int .i64 0,.int .i64 0]:=k2;have e02:=e1.trans e2;have q1:=k1.ax e2;refine xd [0,1,2,4] rfl ?_;refine xr func68 rfl ?_;refine xp rfl (af (off:=0) underlying41 rfl rfl H.bV rfl) ?_;refine xp rfl (ai H.cK rfl (q1.cell (i:=0) rfl)) ?_;refine aV 1 rfl ?_;refine xo rfl (aq (vs:=[_,_]) func112 rfl H.Iw rfl (ah.bq (tX (hg.ax e02) m n))) ?_;rintro _ h3 ⟨⟨x,rfl,hx⟩,e3⟩;refine aV 3 rfl ?_;refine xo rfl (az.aQ H.yN) ?_;rintro _ h4 ⟨rfl,k4,e4,z4⟩;refine RW.bB rfl rfl rfl (az.au H.j8 rfl rfl k4 (by first|rfl|(simp;done)|(simp;omega)) (by first|decide|exact of_decide_eq_true rfl|(simp;done)|(simp;omega)) (oU x)) ?_;rintro _ h5 ⟨rfl,k5,x5,z5⟩;have k5:bh h5 h3.size 144 (fe x):=k5;have e45:aC h3 h5:=e4.only x5 (Nat.le_refl _);have e25:=e3.trans e45;have e05:=e02.trans e25;have s1:=q1.ax e25;have s2:=k2.ax e25;have hz1:=e1.size;have hz2:=e2.size;have hz5:=e25.size;have hne:¬h.size=h1.size:=by omega
 have hout:∀{g:aA},Ext (fun b=>b=h1.size) h5 g->aC h g:=fun e=>aC.only e05 e hz1
 rcases hf:jh m n with _|p
 · have haf:jo (m,d) n=(m,d):=by unfold jo;rw[hf]
   refine aN 1 [0,1,2,4,5,6] rfl ?_;refine av rfl ?_;refine G.block rfl rfl ?_;refine av rfl ?_;refine bf func68 3 [0,1,2,4,5,6,14] rfl ?_;refine aJ rfl rfl (fun _=>?_) (fun hc=>absurd hc (by simp));refine aB rfl ?_;refine aJ rfl rfl (fun _=>?_) (fun hc=>absurd hc (by simp));refine xr func68 rfl ?_;refine xp rfl (aj.aE H.ij H.eu rfl s1.row (by first|rfl|(simp;done)|(simp;omega))) ?_;refine RW.bB rfl rfl rfl (az.au H.eu rfl rfl s2 (by first|rfl|(simp;done)|(simp;omega)) (by first|decide|exact of_decide_eq_true rfl|(simp;done)|(simp;omega)) (by first|decide|simp[Value.oneCell'])) ?_;rintro _ h6 ⟨rfl,k6,x6,z6⟩;refine xd [0,1,2,4,5,6,14] rfl ?_;have k6:bh h6 h1.size 41 (cC (m,d)):=k6;refine G.br func68 rfl (.cons (aI.bp H.ij H.eu rfl (k6.row) (by first|rfl|(simp;done)|(simp;omega))) (.nil)) ?_;exact⟨_,rfl,by rw[haf];rfl,hout x6⟩
 · have hp:=hx p hf;obtain⟨hp1,hp2⟩:=Prod.mk.inj hp;have haf:jo (m,d) n=if x.2.2=0 then (m,d) else if x.2.2=1 then (1,0) else if x.2.2=3 then (2,min (max d 0) 16383+1) else if x.2.2=4/\1<d then (m,d-1) else (0,0):=by unfold jo;rw[hf,<-hp]
   refine aN 1 [0,1,2,4,5,6] rfl ?_;refine av rfl ?_;refine G.block rfl rfl ?_;refine av rfl ?_;refine bf func68 3 [0,1,2,4,5,6,14] rfl ?_;refine aJ rfl rfl (fun hc=>absurd hc (by simp)) (fun _=>?_);refine G.cz func68 rfl ?_;refine xp rfl (af (off:=2) underlying144 rfl rfl H.bV rfl) ?_;refine xp rfl (ai H.cK rfl (k5.cell (i:=2) rfl)) ?_;refine aN 2 [0,1,2,4,5,6,14] rfl ?_;refine aM rfl rfl (fun h0=>?_) (fun h0=>?_)
   · rw[if_pos h0] at haf;refine xr func68 rfl ?_;refine xp rfl (aj.aE H.ij H.eu rfl s1.row (by first|rfl|(simp;done)|(simp;omega))) ?_;refine RW.bB rfl rfl rfl (az.au H.eu rfl rfl s2 (by first|rfl|(simp;done)|(simp;omega)) (by first|decide|exact of_decide_eq_true rfl|(simp;done)|(simp;omega)) (by first|decide|simp[Value.oneCell'])) ?_;rintro _ h6 ⟨rfl,k6,x6,z6⟩;refine xd [0,1,2,4,5,6,14] rfl ?_;have k6:bh h6 h1.size 41 (cC (m,d)):=k6;refine G.br func68 rfl (.cons (aI.bp H.ij H.eu rfl (k6.row) (by first|rfl|(simp;done)|(simp;omega))) (.nil)) ?_;exact⟨_,rfl,by rw[haf];rfl,hout x6⟩
   · rw[if_neg h0] at haf;refine xr func68 rfl ?_;refine xp rfl (af (off:=2) underlying144 rfl rfl H.bV rfl) ?_;refine xp rfl (ai H.cK rfl (k5.cell (i:=2) rfl)) ?_;refine aN 2 [0,1,2,4,5,6,14,21] rfl ?_;refine aM rfl rfl (fun h1'=>?_) (fun h1'=>?_)
     · rw[if_pos h1'] at haf;refine xr func68 rfl ?_;refine xp rfl (aG (H.JA _) rfl) ?_;refine RW.bB rfl rfl rfl (az.au H.eu rfl rfl s2 (by first|rfl|(simp;done)|(simp;omega)) (by first|decide|exact of_decide_eq_true rfl|(simp;done)|(simp;omega)) (by first|decide|simp[Value.oneCell'])) ?_;rintro _ h6 ⟨rfl,k6,x6,z6⟩;refine xd [0,1,2,4,5,6,14,21] rfl ?_;have k6:bh h6 h1.size 41 (cC (1,0)):=k6;refine G.br func68 rfl (.cons (aI.bp H.ij H.eu rfl (k6.row) (by first|rfl|(simp;done)|(simp;omega))) (.nil)) ?_;exact⟨_,rfl,by rw[haf];rfl,hout x6⟩
     · rw[if_neg h1'] at haf;refine xr func68 rfl ?_;refine xp rfl (af (off:=2) underlying144 rfl rfl H.bV rfl) ?_;refine xp rfl (ai H.cK rfl (k5.cell (i:=2) rfl)) ?_;refine aN 2 [0,1,2,4,5,6,14,21,26] rfl ?_;refine aM rfl rfl (fun h3'=>?_) (fun h3'=>?_)
       · rw[if_pos h3'] at haf;refine xr func68 rfl ?_;refine xp rfl (af (off:=1) underlying41 rfl rfl H.bV rfl) ?_;refine xp rfl (ai H.cK rfl (s1.cell (i:=1) rfl)) ?_;refine xp rfl (aj.max2 rfl rfl) ?_;refine xp rfl (aj.min2 rfl rfl) ?_;refine xp rfl (aj.bJ rfl rfl ⟨by omega,by omega⟩) ?_;refine xp rfl (aG (H.Gc _ _) rfl) ?_;refine RW.bB rfl rfl rfl (az.au H.eu rfl rfl s2 (by first|rfl|(simp;done)|(simp;omega)) (by first|decide|exact of_decide_eq_true rfl|(simp;done)|(simp;omega)) (by first|decide|simp[Value.oneCell'])) ?_;rintro _ h6 ⟨rfl,k6,x6,z6⟩;refine xd [0,1,2,4,5,6,14,21,26] rfl ?_;have hmm:(if (16383:Int)<if d<0 then 0 else d then 16383 else if d<0 then 0 else d)=min (max d 0) 16383:=by split<;>split<;>omega
         have k6:bh h6 h1.size 41 (cC (2,min (max d 0) 16383+1)):=by rw[<-hmm];exact k6
         refine G.br func68 rfl (.cons (aI.bp H.ij H.eu rfl (k6.row) (by first|rfl|(simp;done)|(simp;omega))) (.nil)) ?_;exact⟨_,rfl,by rw[haf];rfl,hout x6⟩
       · rw[if_neg h3'] at haf;refine av rfl ?_;refine G.bw [(36,.bool (decide (x.2.2=4/\1<d)))] [(0,_),(1,_),(2,_),(4,_),(5,_),(6,_),(14,_),(21,_),(26,_)] ⟨rfl,rfl,rfl,rfl,rfl,rfl,rfl,rfl,rfl,trivial⟩ func68 rfl ?_ ?_
         · refine xp rfl (af (off:=2) underlying144 rfl rfl H.bV rfl) ?_;refine xp rfl (ai H.cK rfl (k5.cell (i:=2) rfl)) ?_;refine aV 2 rfl ?_;refine aL (d:=40) rfl (fun hc=>?_) (fun hc=>?_)
           · have hc':=of_decide_eq_true hc;refine xp rfl (af (off:=1) underlying41 rfl rfl H.bV rfl) ?_;refine xp rfl (ai H.cK rfl (s1.cell (i:=1) rfl)) ?_;refine aV 3 rfl ?_;refine aD rfl ?_;exact⟨rfl,aF rfl (by simp[hc']),rfl,rfl,rfl,rfl,rfl,rfl,rfl,rfl,rfl,trivial⟩
           · have hc':=of_decide_eq_false hc;refine aV 5 rfl ?_;refine aD rfl ?_;exact⟨rfl,aF rfl (by simp[hc']),rfl,rfl,rfl,rfl,rfl,rfl,rfl,rfl,rfl,trivial⟩
         · refine aM rfl rfl (fun h4'=>?_) (fun h4'=>?_)
           · rw[if_pos h4'] at haf;refine xr func68 rfl ?_;refine xp rfl (af (off:=1) underlying41 rfl rfl H.bV rfl) ?_;refine xp rfl (ai H.cK rfl (s1.cell (i:=1) rfl)) ?_;refine xp rfl (aj.j9 rfl rfl ⟨by omega,by omega⟩) ?_;refine xp rfl (af (off:=1) underlying41 rfl rfl H.bV rfl) ?_;refine RW.bB rfl rfl rfl (cH H.bV rfl rfl rfl (s1.cell (i:=1) rfl) s1.nf) ?_;rintro _ h6 ⟨rfl,hg6⟩;have s6:=s1.set 1 (.int .i64 (d-1));have x6:Ext (fun b=>b=h.size) h5 h6:=by rw[hg6];exact Ext.ew _ _ _ rfl
             have s6:bh h6 h.size 41 (cC (m,d-1)):=by rw[hg6];exact s6
             refine xd [0,1,2,4,5,6,14,21,26,36] rfl ?_;refine xr func68 rfl ?_;refine xp rfl (aj.aE H.ij H.eu rfl s6.row (by first|rfl|(simp;done)|(simp;omega))) ?_;refine RW.bB rfl rfl rfl (az.au H.eu rfl rfl (s2.ext x6 (fun k=>by omega)) (by first|rfl|(simp;done)|(simp;omega)) (by first|decide|exact of_decide_eq_true rfl|(simp;done)|(simp;omega)) (gC _)) ?_;rintro _ h7 ⟨rfl,k7,x7,z7⟩;refine xd [0,1,2,4,5,6,14,21,26,36] rfl ?_;have k7:bh h7 h1.size 41 (cC (m,d-1)):=k7;refine G.br func68 rfl (.cons (aI.bp H.ij H.eu rfl (k7.row) (by first|rfl|(simp;done)|(simp;omega))) (.nil)) ?_;have hz6:=x6.size;exact⟨_,rfl,by rw[haf];rfl,aC.only (aC.only e05 x6 (Nat.le_refl _)) x7 hz1⟩
           · rw[if_neg h4'] at haf;refine aB rfl ?_;refine G.aR ?_;refine xr func68 rfl ?_;refine xp rfl (aG (H.Ly ) rfl) ?_;refine RW.bB rfl rfl rfl (az.au H.eu rfl rfl s2 (by first|rfl|(simp;done)|(simp;omega)) (by first|decide|exact of_decide_eq_true rfl|(simp;done)|(simp;omega)) (by first|decide|simp[Value.oneCell'])) ?_;rintro _ h6 ⟨rfl,k6,x6,z6⟩;refine xd [0,1,2,4,5,6,14,21,26,36] rfl ?_;have k6:bh h6 h1.size 41 (cC (0,0)):=k6;refine G.br func68 rfl (.cons (aI.bp H.ij H.eu rfl (k6.row) (by first|rfl|(simp;done)|(simp;omega))) (.nil)) ?_;exact⟨_,rfl,by rw[haf];rfl,hout x6⟩
theorem AA (hg:AU h) (s:By) (k:Nat) (hk:k<s.length) (hs:s.length<=1000000):ah Tryz.prog 65 #[.string (bs s),.int .i64 (k:Nat)] h (cM fun r h'=>(∃(x:Nat) (ok:Bool),r= .tuple #[.int .i32 (x:Nat),.int .i64 (oW (s.drop k):Nat),.bool ok])/\aC h h'):=by
 have hbs:=bY s;have hne:s.drop k≠[]:=fun e=>by have:=congrArg List.length e;rw[List.length_drop] at this;simp at this;omega
 refine ah.of func65 rfl rfl ?_;refine bf func65 3 [0,1,4,5,6] rfl ?_;refine av rfl ?_;refine av rfl ?_;refine G.bw [(14,.bool false)] [(0,_),(1,_),(4,_),(5,_),(6,_)] ⟨rfl,rfl,rfl,rfl,rfl,trivial⟩ func65 rfl ?_ ?_
 · refine aV 3 rfl ?_;refine RW.cS (d:=9) (b':=false) rfl ((by simp)) ?_;refine cI 2 rfl rfl (aj.cw underlying9 rfl) ?_;refine aV 2 rfl ?_;refine aD rfl ?_;exact⟨rfl,aF rfl (by simp;omega),rfl,rfl,rfl,rfl,rfl,trivial⟩
 · refine aJ rfl rfl (fun hc=>absurd hc (by decide)) (fun _=>?_);refine aB rfl ?_;refine bl func65 2 rfl ?_;refine xp rfl (aj.gP underlying9 rfl rfl k rfl (by omega)) ?_;rw[nh];refine xo rfl (aq (vs:=[_]) func111 rfl H.KX rfl (ah.bq (yg hg (s.drop k) hne))) ?_;rintro _ h1 ⟨⟨x,rfl⟩,e1⟩;generalize hn:oW (s.drop k)=n;refine aN 5 [0,1,4,5,6,14] rfl ?_;refine av rfl ?_;refine G.bw [(4,.int .i32 (x:Nat)),(5,.int .i64 (n:Nat)),(6,.bool (decide (¬(x:Int)=65533\/(1:Int)<n)))] [(0,_),(1,_),(14,_)] ⟨rfl,rfl,rfl,trivial⟩ func65 rfl ?_ ?_
   · refine aV 5 rfl ?_;refine aL (d:=26) rfl (fun hc=>?_) (fun hc=>?_)
     · have hc':=of_decide_eq_true hc;refine aV 6 rfl ?_;refine aD rfl ?_;exact⟨rfl,rfl,rfl,aF rfl (by rw[decide_eq_true (Or.inl hc')]),rfl,rfl,rfl,trivial⟩
     · have hc':=of_decide_eq_false hc;refine aV 6 rfl ?_;refine aD rfl ?_;exact⟨rfl,rfl,rfl,aF rfl (by simp only[decide_eq_decide];exact⟨fun q=>.inr q,fun q=>q.resolve_left hc'⟩),rfl,rfl,rfl,trivial⟩
   · refine G.ret func65 rfl rfl ?_;exact⟨_,rfl,⟨x,_,rfl⟩,e1⟩
theorem Af (k:nS h p):ah Tryz.prog 63 #[p] h (cM fun r h'=>r= .bool false/\h'=h):=by
 obtain⟨lb,vm,rfl,hk,⟨oa,n,c,rfl,hl,_⟩⟩:=k;have hl:n=3:=by rw[<-hl];rfl
 subst hl;refine ah.of func63 rfl rfl ?_;refine bf func63 1 [0,2] rfl ?_;refine av rfl ?_;refine G.bw [(2,.bool false)] [(0,_)] ⟨rfl,trivial⟩ func63 rfl ?_ ?_
 · refine cI 1 rfl rfl (aj.qw underlying29 rfl rfl) ?_;refine aV 1 rfl ?_;refine RW.cS (d:=5) (b':=false) rfl (rfl) ?_;refine cI 2 rfl rfl (af (off:=0) underlying83 rfl rfl H.CZ rfl) ?_;refine xp rfl (ai H.HD rfl (hk.cell (i:=0) rfl)) ?_;refine xp rfl (aj.aS underlying81 rfl) ?_;refine aV 3 rfl ?_;refine aD rfl ?_;exact⟨rfl,aF rfl (rfl),rfl,trivial⟩
 · refine G.ret func63 rfl rfl ?_;exact⟨_,rfl,rfl,rfl⟩
def Bw (m:Int) (l:By):Int:=if 0<=m/\m<3 then (bz (kR (nr m)) l 0 0 (0,-1)).2.2 else 0
theorem Dw (m:Nat) (hm:m<3) (s:By) (k:Nat) (hk:k<=s.length):dD (kR (nr m)) s k=((gS m (s.drop k)).1,(gS m (s.drop k)).2,Bw m (s.drop k)):=by
 obtain⟨ss,st,h1,h2,h3,h4,h5⟩:=tw m hm;have hok:=mZ h2;have hsp:=vZ hok.1 hok.2;have htl:=A8 hok.1 hsp.1 hsp.2.2.2.2 hok.2 hsp.2.1 (fun w=>(hsp.2.2.2.1 w).symm) s k;have htm:=zf h2 s k;have hst:=(fY h1).stl
 have hM:xD (gQ m) s k=gS m (s.drop k):=by
  unfold xD Bs;rw[h1];simp only;rw[if_neg (by omega),Int.toNat_natCast,h4]
 rw[hM] at htm
 have hA:(dD (kR (nr m)) s k).2.2=Bw m (s.drop k):=by
  rw[Bw,if_pos (show (0:Int)<=m/\(m:Int)<3 by omega),dD,if_neg (by have:=hsp.2.1;omega),Int.toNat_natCast]
 rw[<-hA];refine Prod.ext ?_ (Prod.ext ?_ rfl)
 · rw[<-htl.1];exact(Prod.mk.inj htm).1
 · rw[<-htl.2.1];exact(Prod.mk.inj htm).2
theorem Fp {m:Int}(h:m<0\/3<=m) (l:By):gS m l=(0,-1):=by
 unfold gS;rw[if_neg (by omega),if_neg (by omega),if_neg (by omega)]
theorem xE (k:nS h p) (s:By) (i:Nat) (hi:i<=s.length) (hs:s.length<=1000000) (m:Int) :
 ah Tryz.prog 64 #[p,.string (bs s),.int .i64 (i:Nat),.int .i64 m] h (cM fun r h'=>r= .tuple #[.int .i64 (gS m (s.drop i)).1,.int .i64 (gS m (s.drop i)).2,.int .i64 (Bw m (s.drop i))]/\h'=h):=by
 obtain⟨lb,vm,rfl,hk,hv⟩:=k;obtain⟨oa,n,c,rfl,hsl⟩:=hv.open;have hl:n=3:=by rw[<-hsl.len];rfl
 subst hl;refine ah.of func64 rfl rfl ?_;refine bf func64 3 [0,1,2,3,8,9,10] rfl ?_;refine av rfl ?_;refine av rfl ?_;refine G.bw [(21,.bool (decide (m<0\/3<=m)))] [(0,_),(1,_),(2,_),(3,_),(8,_),(9,_),(10,_)] ⟨rfl,rfl,rfl,rfl,rfl,rfl,rfl,trivial⟩ func64 rfl ?_ ?_
 · refine aV 3 rfl ?_;refine aL (d:=13) rfl (fun hc=>?_) (fun hc=>?_)
   · have hc':=of_decide_eq_true hc;refine aV 8 rfl ?_;refine aD rfl ?_;exact⟨rfl,aF rfl (by simp[hc']),rfl,rfl,rfl,rfl,rfl,rfl,rfl,trivial⟩
   · have hc':=of_decide_eq_false hc;refine cI 3 rfl rfl (af (off:=0) underlying83 rfl rfl H.CZ rfl) ?_;refine xp rfl (ai H.HD rfl (hk.cell (i:=0) rfl)) ?_;refine xp rfl (aj.aS underlying81 rfl) ?_;refine aV 2 rfl ?_;refine aD rfl ?_;exact⟨rfl,aF rfl (by simp only[decide_eq_decide];omega),rfl,rfl,rfl,rfl,rfl,rfl,rfl,trivial⟩
 · refine aM rfl rfl (fun hout=>?_) (fun hout=>?_)
   · rw[Fp hout];refine bf func64 3 [0,1,2,3,8,9,10,21] rfl ?_;refine G.ret func64 rfl rfl ?_;exact⟨_,rfl,by rw[Bw,if_neg (by omega)];rfl,rfl⟩
   · obtain⟨mm,rfl⟩:=Int.eq_ofNat_of_zero_le (show 0<=m by omega);have hmm:mm<3:=by omega
     have hx:(tA 3)[mm]? =some (kR (nr mm)):=by
      match mm,hmm with
      | 0,_=>rfl
      | 1,_=>rfl
      | 2,_=>rfl
     obtain⟨b3,o3,cs3,ha3,_,hrow3,db,rfl,htab⟩:=hsl.get mm _ hx;obtain⟨ss,st,h1,h2,h3,h4,h5⟩:=tw mm hmm;have hok:=mZ h2;have hsp:=vZ hok.1 hok.2;refine aB rfl ?_;refine bl func64 2 rfl ?_;refine xp rfl (af (off:=0) underlying83 rfl rfl H.CZ rfl) ?_;refine xp rfl (ai H.HD rfl (hk.cell (i:=0) rfl)) ?_;refine cI 1 rfl rfl (aj.aH underlying81 H.Mk rfl rfl mm rfl ha3 (by omega)) ?_;refine xp rfl (ai H.M8 rfl (hrow3 0 _ rfl)) ?_;refine aV 2 rfl ?_;refine xo rfl (aq (vs:=[_,_,_]) func110 rfl H.KY rfl (ah.bq (yd (s:=s) (a:=(i:Int)) (.inr ⟨db,rfl,htab.rd⟩) hsp.1 hs))) ?_;rintro _ h0 ⟨rfl,hh0⟩;subst hh0;rw[Dw mm hmm s i hi];refine aN 6 [0,1,2,3,8,9,10,21] rfl ?_;refine G.ret func64 rfl rfl ?_;exact⟨_,rfl,rfl,rfl⟩
def fE (t:Tk):List Value:=[.int .i64 t.1,.int .i64 t.2.1,.int .i64 t.2.2]
theorem nT (t:Tk):∀v∈fE t,v.oneCell'=true:=fun v hv=>by simp[fE] at hv;rcases hv with rfl|rfl|rfl<;>rfl
theorem D2 {s:uX}(h:Gz s.2) (n:Int):Gz (jo s n).2:=by
 unfold Gz at *;unfold jo;split
 · exact h
 · split
   · exact h
   · split
     · simp only;omega
     · split
       · simp only;omega
       · split
         · simp only;omega
         · simp only;omega
theorem GQ {s:uX}(h:Gz s.2) (l:By):Gz (o7 l s).2:=by
 unfold o7;split
 · exact h
 · exact D2 h _
theorem iW {h':aA}{b:Nat}{t:TypeId}{cs:List Value}(k:bh h b t cs) (k':bh h' b t cs) (e:Ext (fun x=>x=b) h h'):aC h h':=⟨e.size,fun x hx _=>by
 by_cases q:x=b
 · subst q;exact k'.trans k.symm
 · exact e.block x hx q⟩
def Jj (s:By) (i:Nat) (st:uX):Value:=.tuple #[.agg (fE (Aq (s.drop i) st.1,(i:Int),((i+iK (s.drop i) st.1:Nat):Int))).toArray,.agg (cC (o7 (s.drop i) st)).toArray,.int .i64 (Bw st.1 (s.drop i))]
theorem Dk (hg:AU h) (k:nS h p) (s:By) (i:Nat) (hi:i<s.length) (hs:s.length<=1000000) (st:uX) (hst:Gz st.2) :
 ah Tryz.prog 34 #[p,.string (bs s),.int .i64 (i:Nat),.agg (cC st).toArray] h (cM fun r h'=>r=Jj s i st/\aC h h'):=by
 have hbs:=bY s;unfold Jj;have hne:s.drop i≠[]:=fun e=>by have:=congrArg List.length e;rw[List.length_drop] at this;simp at this;omega
 have hll:=Ah st.1 (s.drop i);have hrl:=zG hne;rw[List.length_drop] at hll hrl;refine ah.of func34 rfl rfl ?_;refine xr func34 rfl ?_;refine xo rfl (az.eR rfl) ?_;rintro _ h1 ⟨rfl,k7,e1,z1⟩;refine xo rfl (az.aQ H.Ec) ?_;rintro _ h2 ⟨rfl,k8,e2,z2⟩;refine xo rfl (az.aQ H.yM) ?_;rintro _ h3 ⟨rfl,k9,e3,z3⟩;have k7:bh h1 h.size 41 (cC st):=k7;have k8:bh h2 h1.size 46 (fE (0,0,0)):=k8;have k9:bh h3 h2.size 41 (cC (0,0)):=k9;have e03:=(e1.trans e2).trans e3;have q7:=(k7.ax e2).ax e3;have q8:=k8.ax e3;have y1:=e1.size;have y2:=e2.size;have hout:∀{g g2 g3:aA},aC h3 g->Ext (fun b=>b=h1.size) g g2->Ext (fun b=>b=h2.size) g2 g3->aC h g3:=fun ea eb ec=>aC.only (aC.only (e03.trans ea) eb (by omega)) ec (by omega)
 refine aN 1 [0,1,2,3,7,8,9,10] rfl ?_;refine av rfl ?_;refine av rfl ?_;refine G.bw [(27,.bool false)] [(0,_),(1,_),(2,_),(3,_),(7,_),(8,_),(9,_),(10,_)] ⟨rfl,rfl,rfl,rfl,rfl,rfl,rfl,rfl,trivial⟩ func34 rfl ?_ ?_
 · refine aV 1 rfl ?_;refine xo rfl (aq (vs:=[_]) func63 rfl H.Kt rfl (ah.bq (Af (k.ax e03)))) ?_;rintro _ h4 ⟨rfl,hh4⟩;subst hh4;refine aV 1 rfl ?_;refine RW.cS (d:=18) (b':=false) rfl (rfl) ?_;refine aV 4 rfl ?_;refine RW.cS (d:=22) (b':=false) rfl ((by simp)) ?_;refine cI 2 rfl rfl (aj.cw underlying9 rfl) ?_;refine aV 2 rfl ?_;refine aD rfl ?_;exact⟨rfl,aF rfl (by simp;omega),rfl,rfl,rfl,rfl,rfl,rfl,rfl,rfl,trivial⟩
 · refine aJ rfl rfl (fun hc=>absurd hc (by decide)) (fun _=>?_);refine aB rfl ?_;refine bl func34 3 rfl ?_;refine xp rfl (af (off:=0) underlying41 rfl rfl H.bV rfl) ?_;refine xp rfl (ai H.cK rfl (q7.cell (i:=0) rfl)) ?_;refine xo rfl (aq (vs:=[_,_,_,_]) func64 rfl H.MK rfl (ah.bq (xE (k.ax e03) s i (by omega) hs st.1))) ?_;rintro _ h4 ⟨rfl,hh4⟩;subst hh4;refine aN 7 [0,1,2,3,7,8,9,10,11,12,27] rfl ?_;refine av rfl ?_;refine bf func34 2 [0,1,2,3,7,8,9,10,11,12,27,41] rfl ?_;refine aM rfl rfl (fun hz=>?_) (fun hz=>?_)
   · have hlen:iK (s.drop i) st.1=oW (s.drop i):=by rw[iK,if_pos hz]
     have hknd:Aq (s.drop i) st.1=0:=by rw[Aq,if_pos hz]
     have hnxt:o7 (s.drop i) st=st:=by rw[o7,if_pos hz]
     rw[hlen,hknd,hnxt];refine bl func34 2 rfl ?_;refine xo rfl (aq (vs:=[_,_]) func65 rfl H.MJ rfl (ah.bq (AA (hg.ax e03) s i hi hs))) ?_;rintro _ h5 ⟨⟨x,ok,rfl⟩,e5⟩;have r7:=q7.ax e5;have r8:=q8.ax e5;have r9:=k9.ax e5;have y5:=e5.size;have hM7:¬(h.size=h1.size\/h.size=h2.size\/Array.size h5<=h.size):=by have:=e03.size;omega
     refine aN 7 [0,1,2,3,7,8,9,10,11,12,14,27,41] rfl ?_;refine av rfl ?_;refine bQ (fun b=>b=Array.size h1\/b=Array.size h2\/Array.size h5<=b) (fun i=>Nat.blt i 9) (sz:=10) (listed:= #[false,false,false,false,false,false,false,false,false,false]) func34 H.mixed rfl rfl rfl ?_;refine cu 0 1 (by kernel_rfl) rfl ?_;refine cu 1 3 (by kernel_rfl) rfl ?_;refine cu 2 7 (by kernel_rfl) rfl ?_;refine bP 3 15 (by kernel_rfl) rfl (fun h' e=>aj.bJ rfl rfl ⟨by omega,by omega⟩) ?_;refine bP 4 31 (by kernel_rfl) rfl (fun h' e=>aG (H.uE _ _ _) rfl) ?_;refine bP 5 63 (by kernel_rfl) rfl (fun h' e=>aj.aE H.ij H.eu rfl (e.rowAt hM7 r7.row) (by first|rfl|(simp;done)|(simp;omega))) ?_;refine cu 6 127 (by kernel_rfl) rfl ?_;refine jG 7 255 (by kernel_rfl) rfl (az.au H.kN rfl rfl r8 (by first|rfl|(simp;done)|(simp;omega)) (by first|decide|exact of_decide_eq_true rfl|(simp;done)|(simp;omega)) (by first|decide|simp[Value.oneCell'])) ?_;rintro _ h6 ⟨rfl,w8,x6,z6⟩;refine⟨fun _=>x6.mono (fun _ _ k=>.inl k),?_⟩;refine jG 8 511 (by kernel_rfl) rfl (az.au H.eu rfl rfl (r9.ext x6 (fun k=>by omega)) (by first|rfl|(simp;done)|(simp;omega)) (by first|decide|exact of_decide_eq_true rfl|(simp;done)|(simp;omega)) (gC st)) ?_;rintro _ h7 ⟨rfl,w9,x7,z7⟩;refine⟨fun _=>x7.mono (fun _ _ k=>.inr (.inl k)),?_⟩;have w8:bh h6 h1.size 46 (fE (0,(i:Int),((i+oW (s.drop i):Nat):Int))):=by rw[Int.natCast_add];exact w8
     have w8:=w8.ext x7 (show ¬h1.size=h2.size by omega);have w9:bh h7 h2.size 41 (cC st):=w9;refine cu 9 1023 (by kernel_rfl) rfl ?_;refine bu (by kernel_rfl) ?_;refine xu [0,1,2,3,7,8,9,10,11,12,14,27,41] rfl ?_;refine G.br func34 rfl (.cons (aI.bp H.yC H.kN rfl (w8.row) (by first|rfl|(simp;done)|(simp;omega))) (.cons (aI.bp H.ij H.eu rfl (w9.row) (by first|rfl|(simp;done)|(simp;omega))) (.cons (aI.tmp rfl) (.nil)))) ?_;exact⟨_,rfl,rfl,hout e5 x6 x7⟩
   · obtain⟨L,hL⟩:=Int.eq_ofNat_of_zero_le hll.1;have hL0:0<L:=by omega
     have hlen:iK (s.drop i) st.1=L:=by rw[iK,if_neg hz,hL];rfl
     have hknd:Aq (s.drop i) st.1=if pF st.1 (gS st.1 (s.drop i)).2=3/\cN ((s.drop i).take L)=true then 4 else pF st.1 (gS st.1 (s.drop i)).2:=by rw[Aq,if_neg hz,hL];rfl
     have hnxt:o7 (s.drop i) st=jo st (gS st.1 (s.drop i)).2:=by rw[o7,if_neg hz]
     rw[hlen,hknd,hnxt,hL];generalize (gS st.1 (s.drop i)).2=rl at *;rw[hL] at hll;refine aB rfl ?_;refine xr func34 rfl ?_;refine xp rfl (af (off:=0) underlying41 rfl rfl H.bV rfl) ?_;refine xp rfl (ai H.cK rfl (q7.cell (i:=0) rfl)) ?_;refine aV 1 rfl ?_;refine xo rfl (aq (vs:=[_,_]) func66 rfl H.MI rfl (ah.bq (BD (hg.ax e03) st.1 rl))) ?_;rintro _ h5 ⟨rfl,e5⟩;refine cI 3 rfl rfl (aj.bJ rfl rfl ⟨by omega,by omega⟩) ?_;refine xp rfl (aG (H.uE _ _ _) rfl) ?_;refine RW.bB rfl rfl rfl (az.au H.kN rfl rfl (q8.ax e5) (by first|rfl|(simp;done)|(simp;omega)) (by first|decide|exact of_decide_eq_true rfl|(simp;done)|(simp;omega)) (by first|decide|simp[Value.oneCell'])) ?_;rintro _ h6 ⟨rfl,w8,x6,z6⟩;have w8:bh h6 h1.size 46 (fE (pF st.1 rl,(i:Int),((i+L:Nat):Int))):=by rw[Int.natCast_add];exact w8
     generalize pF st.1 rl=kd at *;have hcut:(bs s).extract i (i+L)=bs ((s.drop i).take L):=by rw[CH s i (i+L) (by omega),List.drop_take,Nat.add_sub_cancel_left]
     have y6:=x6.size;have e06:aC h h6:=aC.only (e03.trans e5) x6 (by omega);have r7:=(q7.ax e5).ext x6 (show ¬h.size=h1.size by omega);have r9:=(k9.ax e5).ext x6 (show ¬h2.size=h1.size by omega);refine xd [0,1,2,3,7,8,9,10,11,12,27,41] rfl ?_;refine av rfl ?_;refine av rfl ?_;refine G.bw [(76,.bool (decide (kd=3/\cN ((s.drop i).take L)=true)))] [(0,_),(1,_),(2,_),(3,_),(7,_),(8,_),(9,_),(10,_),(11,_),(12,_),(27,_),(41,_)] ⟨rfl,rfl,rfl,rfl,rfl,rfl,rfl,rfl,rfl,rfl,rfl,rfl,trivial⟩ func34 rfl ?_ ?_
     · refine xp rfl (af (off:=0) underlying46 rfl rfl H.bV rfl) ?_;refine xp rfl (ai H.cK rfl (w8.cell (i:=0) rfl)) ?_;refine aV 2 rfl ?_;refine aL (d:=68) rfl (fun hc=>?_) (fun hc=>?_)
       · have hc':kd=3:=of_decide_eq_true hc;refine cI 1 rfl rfl (af (off:=1) underlying46 rfl rfl H.bV rfl) ?_;refine xp rfl (ai H.cK rfl (w8.cell (i:=1) rfl)) ?_;refine xp rfl (af (off:=2) underlying46 rfl rfl H.bV rfl) ?_;refine xp rfl (ai H.cK rfl (w8.cell (i:=2) rfl)) ?_;refine xp rfl (aj.zx underlying9 rfl rfl i rfl rfl (i+L) rfl (by omega) (by omega)) ?_;rw[hcut];refine xo rfl (aq (vs:=[_]) func67 rfl H.Ks rfl (ah.bq (sr (hg.ax e06) ((s.drop i).take L) (by rw[List.length_take,List.length_drop];omega)))) ?_;rintro _ h7 ⟨rfl,hh7⟩;subst hh7;refine aV 1 rfl ?_;refine aD rfl ?_;exact⟨rfl,aF rfl (by simp[hc']),rfl,rfl,rfl,rfl,rfl,rfl,rfl,rfl,rfl,rfl,rfl,rfl,trivial⟩
       · have hc':¬kd=3:=of_decide_eq_false hc;refine aV 8 rfl ?_;refine aD rfl ?_;exact⟨rfl,aF rfl (by simp[hc']),rfl,rfl,rfl,rfl,rfl,rfl,rfl,rfl,rfl,rfl,rfl,rfl,trivial⟩
     · refine aM rfl rfl (fun hw=>?_) (fun hw=>?_)
       · refine G.cz func34 rfl ?_;refine xp rfl (af (off:=0) underlying46 rfl rfl H.bV rfl) ?_;refine RW.bB rfl rfl rfl (cH H.bV rfl rfl rfl (w8.cell (i:=0) rfl) w8.nf) ?_;rintro _ h7 ⟨rfl,hg7⟩;have w7:=w8.set 0 (.int .i64 4);have x7:Ext (fun b=>b=h1.size) h6 h7:=by rw[hg7];exact Ext.ew _ _ _ rfl
         have w7:bh h7 h1.size 46 (fE (4,(i:Int),((i+L:Nat):Int))):=by rw[hg7];exact w7
         have y7:=x7.size;have e07:aC h h7:=aC.only e06 x7 (by omega);have p7:=r7.ext x7 (show ¬h.size=h1.size by omega);have p9:=r9.ext x7 (show ¬h2.size=h1.size by omega);have hMa:¬(h1.size=h2.size\/Array.size h7<=h1.size):=by have:=e03.size;have:=e5.size;omega
         have hMb:¬(h.size=h2.size\/Array.size h7<=h.size):=by have:=e03.size;have:=e5.size;omega
         refine xd [0,1,2,3,7,8,9,10,11,12,27,41,76] rfl ?_;refine av rfl ?_;refine bQ (fun b=>b=Array.size h2\/Array.size h7<=b) (fun i=>Nat.blt i 7) (sz:=8) (listed:= #[false,false,false,false,false,false,false,false]) func34 H.mixed rfl rfl rfl ?_;refine bP 0 1 (by kernel_rfl) rfl (fun h' e=>aj.aE H.yC H.kN rfl (e.rowAt hMa w7.row) (by first|rfl|(simp;done)|(simp;omega))) ?_;refine bP 1 3 (by kernel_rfl) rfl (fun h' e=>aj.aE H.ij H.eu rfl (e.rowAt hMb p7.row) (by first|rfl|(simp;done)|(simp;omega))) ?_;refine cu 2 7 (by kernel_rfl) rfl ?_;refine cu 4 23 (by kernel_rfl) rfl ?_;refine dZ 3 31 (by kernel_rfl) rfl (aq (vs:=[_,_]) func68 rfl H.Kr rfl (ah.bq (rJ (hg.ax e07) st rl hst))) ?_;rintro _ h8 ⟨rfl,e8⟩;refine⟨fun _=>e8.mono (fun _ _ k=>k.elim),?_⟩;have w8':=w7.ax e8;refine jG 5 63 (by kernel_rfl) rfl (az.au H.kN rfl rfl w8' (by first|rfl|(simp;done)|(simp;omega)) (by first|decide|exact of_decide_eq_true rfl|(simp;done)|(simp;omega)) (nT _)) ?_;rintro _ h9 ⟨rfl,w9',x9,z9⟩;refine⟨fun _=>(iW w8' w9' x9).mono (fun _ _ k=>k.elim),?_⟩;have w9':bh h9 h1.size 46 (fE (4,(i:Int),((i+L:Nat):Int))):=w9';have e9:=iW w8' w9' x9;have p9':=(p9.ax e8).ax e9;refine jG 6 127 (by kernel_rfl) rfl (az.au H.eu rfl rfl p9' (by first|rfl|(simp;done)|(simp;omega)) (by first|decide|exact of_decide_eq_true rfl|(simp;done)|(simp;omega)) (gC _)) ?_;rintro _ h10 ⟨rfl,w10,x10,z10⟩;refine⟨fun _=>x10.mono (fun _ _ k=>.inl k),?_⟩;have w10:bh h10 h2.size 41 (cC (jo st rl)):=w10;have w11:=w9'.ext x10 (show ¬h1.size=h2.size by omega);refine cu 7 255 (by kernel_rfl) rfl ?_;refine bu (by kernel_rfl) ?_;refine xu [0,1,2,3,7,8,9,10,11,12,27,41,76] rfl ?_;refine G.br func34 rfl (.cons (aI.bp H.yC H.kN rfl (w11.row) (by first|rfl|(simp;done)|(simp;omega))) (.cons (aI.bp H.ij H.eu rfl (w10.row) (by first|rfl|(simp;done)|(simp;omega))) (.cons (aI.tmp rfl) (.nil)))) ?_;have y10:=x10.size;exact⟨_,rfl,by rw[if_pos hw];rfl,aC.only ((e07.trans e8).trans e9) x10 (by omega)⟩
       · have hMa:¬(h1.size=h2.size\/Array.size h6<=h1.size):=by have:=e03.size;have:=e5.size;omega
         have hMb:¬(h.size=h2.size\/Array.size h6<=h.size):=by have:=e03.size;have:=e5.size;omega
         refine aB rfl ?_;refine av rfl ?_;refine bQ (fun b=>b=Array.size h2\/Array.size h6<=b) (fun i=>Nat.blt i 7) (sz:=8) (listed:= #[false,false,false,false,false,false,false,false]) func34 H.mixed rfl rfl rfl ?_;refine bP 0 1 (by kernel_rfl) rfl (fun h' e=>aj.aE H.yC H.kN rfl (e.rowAt hMa w8.row) (by first|rfl|(simp;done)|(simp;omega))) ?_;refine bP 1 3 (by kernel_rfl) rfl (fun h' e=>aj.aE H.ij H.eu rfl (e.rowAt hMb r7.row) (by first|rfl|(simp;done)|(simp;omega))) ?_;refine cu 2 7 (by kernel_rfl) rfl ?_;refine cu 4 23 (by kernel_rfl) rfl ?_;refine dZ 3 31 (by kernel_rfl) rfl (aq (vs:=[_,_]) func68 rfl H.Kr rfl (ah.bq (rJ (hg.ax e06) st rl hst))) ?_;rintro _ h8 ⟨rfl,e8⟩;refine⟨fun _=>e8.mono (fun _ _ k=>k.elim),?_⟩;have w8':=w8.ax e8;refine jG 5 63 (by kernel_rfl) rfl (az.au H.kN rfl rfl w8' (by first|rfl|(simp;done)|(simp;omega)) (by first|decide|exact of_decide_eq_true rfl|(simp;done)|(simp;omega)) (nT _)) ?_;rintro _ h9 ⟨rfl,w9',x9,z9⟩;refine⟨fun _=>(iW w8' w9' x9).mono (fun _ _ k=>k.elim),?_⟩;have w9':bh h9 h1.size 46 (fE (kd,(i:Int),((i+L:Nat):Int))):=w9';have e9:=iW w8' w9' x9;have p9':=(r9.ax e8).ax e9;refine jG 6 127 (by kernel_rfl) rfl (az.au H.eu rfl rfl p9' (by first|rfl|(simp;done)|(simp;omega)) (by first|decide|exact of_decide_eq_true rfl|(simp;done)|(simp;omega)) (gC _)) ?_;rintro _ h10 ⟨rfl,w10,x10,z10⟩;refine⟨fun _=>x10.mono (fun _ _ k=>.inl k),?_⟩;have w10:bh h10 h2.size 41 (cC (jo st rl)):=w10;have w11:=w9'.ext x10 (show ¬h1.size=h2.size by omega);refine cu 7 255 (by kernel_rfl) rfl ?_;refine bu (by kernel_rfl) ?_;refine xu [0,1,2,3,7,8,9,10,11,12,27,41,76] rfl ?_;refine G.br func34 rfl (.cons (aI.bp H.yC H.kN rfl (w11.row) (by first|rfl|(simp;done)|(simp;omega))) (.cons (aI.bp H.ij H.eu rfl (w10.row) (by first|rfl|(simp;done)|(simp;omega))) (.cons (aI.tmp rfl) (.nil)))) ?_;have y10:=x10.size;exact⟨_,rfl,by rw[if_neg hw];rfl,aC.only ((e06.trans e8).trans e9) x10 (by omega)⟩
end
end Go.Proofs.YtmehdcdbeafljaaGreatDoor
namespace Go.Proofs.YtmehdcdbeafljaaGreatDoor
open Go
theorem Gj (n a:Nat) (st:uX):jw n [] a st=([],st):=by cases n<;>simp[jw]
theorem D1 {n:Nat}{l:By}(hl:l≠[]) (hn:l.length<=n) (a:Nat) (st:uX) :
 jw n l a st=((Aq l st.1,(a:Int),((a+iK l st.1:Nat):Int))::(jw n (l.drop (iK l st.1)) (a+iK l st.1) (o7 l st)).1,(jw n (l.drop (iK l st.1)) (a+iK l st.1) (o7 l st)).2):=by
 have hp:=List.length_pos_iff.2 hl;have hk:=pz hl st.1;obtain⟨m,rfl⟩:∃m,n=m+1:=⟨n-1,by omega⟩
 rw[qF (m+1) (m+1) (l.drop (iK l st.1)) _ _ (by rw[List.length_drop];omega) (by rw[List.length_drop];omega),<-qF m (m+1) (l.drop (iK l st.1)) (a+iK l st.1) (o7 l st) (by rw[List.length_drop];omega) (by rw[List.length_drop];omega)];rw[jw,if_neg hl]
theorem uI:∀(n:Nat) (l:By) (a:Nat) (st:uX),(jw n l a st).1.length<=l.length
 | 0,l,a,st=>by simp[jw]
 |n+1,l,a,st=>by
  rw[jw];split
  · simp
  · rename_i h;have h1:=pz h st.1;have h2:=uI n (l.drop (iK l st.1)) (a+iK l st.1) (o7 l st);rw[List.length_drop] at h2;simp only[List.length_cons];omega
end Go.Proofs.YtmehdcdbeafljaaGreatDoor
namespace Go.Proofs.YtmehdcdbeafljaaGreatDoor
open Go.Proofs.Tryz
open Go Go.Lw
set_option maxRecDepth 20000
section
variable {h:aA}{α:Type}{i n c:Nat}{s:By}{v w:Value}{ts:List Tok}{t:Tok}{a e:Int}{O:Nat->Prop}{x:Vl}
theorem GP {p:Value}{b:Bool}(hn:∀g,aC h g->ah Tryz.prog 63 #[p] g (cM fun r h'=>r= .bool b/\h'=g)) (s:By) (i:Int) (hs:s.length<=1000000) (st:uX) (hb:b=true\/i<0\/(s.length:Int)<=i) :
 ah Tryz.prog 34 #[p,.string (bs s),.int .i64 i,.agg (cC st).toArray] h (cM fun r h'=>r= .tuple #[.agg (fE (0,0,0)).toArray,.agg (cC st).toArray,.int .i64 0]/\aC h h'):=by
 have hbs:=bY s;refine ah.of func34 rfl rfl ?_;refine xr func34 rfl ?_;refine xo rfl (az.eR rfl) ?_;rintro _ h1 ⟨rfl,k7,e1,z1⟩;refine xo rfl (az.aQ H.Ec) ?_;rintro _ h2 ⟨rfl,k8,e2,z2⟩;refine xo rfl (az.aQ H.yM) ?_;rintro _ h3 ⟨rfl,k9,e3,z3⟩;have k7:bh h1 h.size 41 (cC st):=k7;have k8:bh h2 h1.size 46 (fE (0,0,0)):=k8;have k9:bh h3 h2.size 41 (cC (0,0)):=k9;have e03:=(e1.trans e2).trans e3;have q7:=(k7.ax e2).ax e3;have q8:=k8.ax e3;have y1:=e1.size;have y2:=e2.size;refine aN 1 [0,1,2,3,7,8,9,10] rfl ?_;refine av rfl ?_;refine av rfl ?_;refine G.bw [(27,.bool true)] [(0,_),(1,_),(2,_),(3,_),(7,_),(8,_),(9,_),(10,_)] ⟨rfl,rfl,rfl,rfl,rfl,rfl,rfl,rfl,trivial⟩ func34 rfl ?_ ?_
 · refine aV 1 rfl ?_;refine xo rfl (aq (vs:=[_]) func63 rfl H.Kt rfl (ah.bq (hn _ e03))) ?_;rintro _ h4 ⟨rfl,hh4⟩;subst hh4;refine aV 1 rfl ?_;refine aL (d:=18) rfl (fun c1=>?_) (fun c1=>?_)
   · refine aV 9 rfl ?_;refine aD rfl ?_;exact⟨rfl,aF rfl (rfl),rfl,rfl,rfl,rfl,rfl,rfl,rfl,rfl,trivial⟩
   · refine aV 4 rfl ?_;refine aL (d:=22) rfl (fun c2=>?_) (fun c2=>?_)
     · refine aV 5 rfl ?_;refine aD rfl ?_;exact⟨rfl,aF rfl (rfl),rfl,rfl,rfl,rfl,rfl,rfl,rfl,rfl,trivial⟩
     · have c2':=of_decide_eq_false c2;refine cI 2 rfl rfl (aj.cw underlying9 rfl) ?_;refine aV 2 rfl ?_;refine aD rfl ?_;exact⟨rfl,aF rfl (by rw[decide_eq_true_iff];rcases hb with k|k|k;rw[c1] at k;cases k;exact absurd k c2';omega),rfl,rfl,rfl,rfl,rfl,rfl,rfl,rfl,trivial⟩
 · refine aJ rfl rfl (fun _=>?_) (fun hc=>absurd hc (by decide));have hM:¬(h.size=h1.size\/Array.size h3<=h.size):=by have:=e03.size;omega
   refine av rfl ?_;refine bQ (fun b=>b=Array.size h1\/Array.size h3<=b) (fun i=>Nat.blt i 3) (sz:=5) (listed:= #[false,false,false,false,false]) func34 H.mixed rfl rfl rfl ?_;refine bP 0 1 (by kernel_rfl) rfl (fun h' e=>aG (H.Lx ) rfl) ?_;refine bP 1 3 (by kernel_rfl) rfl (fun h' e=>aj.aE H.ij H.eu rfl (e.rowAt hM q7.row) (by first|rfl|(simp;done)|(simp;omega))) ?_;refine jG 2 7 (by kernel_rfl) rfl (az.au H.kN rfl rfl q8 (by first|rfl|(simp;done)|(simp;omega)) (by first|decide|exact of_decide_eq_true rfl|(simp;done)|(simp;omega)) (by first|decide|simp[Value.oneCell'])) ?_;rintro _ h4 ⟨rfl,w8,x4,zz4⟩;refine⟨fun _=>x4.mono (fun _ _ k=>.inl k),?_⟩;have w8:bh h4 h1.size 46 (fE (0,0,0)):=w8;refine jG 3 15 (by kernel_rfl) rfl (az.au H.eu rfl rfl (k9.ext x4 (show ¬h2.size=h1.size by omega)) (by first|rfl|(simp;done)|(simp;omega)) (by first|decide|exact of_decide_eq_true rfl|(simp;done)|(simp;omega)) (gC st)) ?_;rintro _ h5 ⟨rfl,w9,x5,z5⟩;refine⟨fun hk=>(nomatch hk),?_⟩;refine cu 4 31 (by kernel_rfl) rfl ?_;refine bu (by kernel_rfl) ?_;refine xu [0,1,2,3,7,8,9,10,27] rfl ?_;have w9:bh h5 h2.size 41 (cC st):=w9;have w8:=w8.ext x5 (show ¬h1.size=h2.size by omega);refine G.br func34 rfl (.cons (aI.bp H.yC H.kN rfl (w8.row) (by first|rfl|(simp;done)|(simp;omega))) (.cons (aI.bp H.ij H.eu rfl (w9.row) (by first|rfl|(simp;done)|(simp;omega))) (.cons (aI.tmp rfl) (.nil)))) ?_;exact⟨_,rfl,rfl,aC.only (aC.only e03 x4 (by omega)) x5 (by omega)⟩
def Hq:gM Tk:=.record 3 (by decide) fE (fun _=>rfl) nT
def wC (p:UInt8×UInt8):List Value:=[.int .u8 p.1.toNat,.int .u8 p.2.toNat]
def Hl:List Value:=jO.flatMap wC
def qb (h:aA):Prop:=Lw.rowAt h 1 0 Hl
theorem qb.ax {h':aA}(k:qb h) (e:aC h h'):qb h':=e.rowAt (fun k=>k) k
theorem Ju (i:Nat) (hi:i<6):Hl.toArray.extract (i*2) (i*2+2)=(wC (jO.getD i (0,0))).toArray:=by
 match i,hi with
 | 0,_=>rfl
 | 1,_=>rfl
 | 2,_=>rfl
 | 3,_=>rfl
 | 4,_=>rfl
 | 5,_=>rfl
theorem Jg (p:UInt8×UInt8):∀v∈wC p,v.oneCell'=true:=fun v hv=>by simp[wC] at hv;rcases hv with rfl|rfl<;>rfl
theorem IX (a b:UInt8):((a.toNat:Int)=(b.toNat:Int))↔a=b:=⟨fun h=>UInt8.toNat_inj.1 (Int.ofNat.inj h),fun h=>by rw[h]⟩
theorem tW {p:α->Bool}{l:List α}(h:∀a∈l.take i,p a=false) (hi:i=l.length):l.find? p=none:=by
 subst hi;rw[List.take_length] at h;rw[List.find?_eq_none];intro a ha;rw[h a ha];simp
theorem Hh {p:α->Bool}{l:List α}{a:α}(h:∀a∈l.take i,p a=false) (ha:l[i]? =some a) (hp:p a=true):l.find? p=some a:=by
 induction l generalizing i with
 |nil=>simp at ha
 |cons b l ih =>
  cases i with
  |zero=>simp at ha;subst ha;rw[List.find?_cons_of_pos hp]
  |succ i =>
   rw[List.find?_cons_of_neg (by rw[h b (by simp)];simp)];exact ih (i:=i) (fun a ha=>h a (by simp[ha])) (by simpa using ha)
theorem u6 (hg:qb h) (s:By):ah Tryz.prog 87 #[.string (bs s)] h (cM fun r h'=>r= .int .u8 (qv s).toNat/\aC h h'):=by
 have hbs:=bY s;refine ah.of func87 rfl rfl ?_;refine bf func87 1 [0,2] rfl ?_;refine av rfl ?_;refine bl func87 1 rfl ?_;refine xp rfl (aj.cw underlying9 rfl) ?_;refine aN 1 [0,2,7] rfl ?_;refine aM rfl rfl (fun hlt=>?_) (fun hlt=>?_)
 · refine bf func87 1 [0,2,7] rfl ?_;refine G.ret func87 rfl rfl ?_;have h1:s[1]? =none:=List.getElem?_eq_none (by omega);exact⟨_,rfl,by unfold qv;rw[h1];rfl,Ext.refl _ _⟩
 · obtain⟨c,hc⟩:∃c,s[1]? =some c:=⟨_,List.getElem?_eq_getElem (show 1<s.length by omega)⟩
   have hE:qv s=Ho c:=by unfold qv;rw[hc]
   rw[hE];refine aB rfl ?_;refine av rfl ?_;refine xr func87 rfl ?_;refine xp rfl (aj.aE H.LA H.J6 rfl hg (by first|rfl|(simp;done)|(simp;omega))) ?_;refine aN 1 [0,2,7,8,9] rfl ?_;refine G.block rfl rfl ?_;refine bO (σ:=Nat) (fun i=>[(0,.string (bs s)),(8,.agg Hl.toArray),(9,.int .i64 (i:Nat))]) (fun i h'=>aC h h'/\i<=6/\∀p∈jO.take i,(p.1 ==c)=false) (fun i=>6-i) (0) rfl ⟨rfl,rfl,rfl,trivial⟩ ⟨Ext.refl _ _,by omega,by simp⟩ ?_;rintro i g ⟨eg,hi,hin⟩ ih;refine bf func87 1 [0,8,9,10] rfl ?_;refine av rfl ?_;refine aM rfl rfl (fun hi6=>?_) (fun hi6=>?_)
   · have hil:i<6:=by omega
     obtain⟨p,hp⟩:∃p,jO[i]? =some p:=⟨_,List.getElem?_eq_getElem (show i<jO.length from hil)⟩
     have hpd:jO.getD i (0,0)=p:=by rw[List.getD_eq_getElem?_getD,hp];rfl
     have hcut:=Ju i hil;rw[hpd] at hcut;refine aB rfl ?_;refine av rfl ?_;refine G.block rfl rfl ?_;refine xr func87 rfl ?_;refine xp rfl (aj.DF underlying215 H.HZ H.LB rfl rfl i rfl hil hcut) ?_;refine xo rfl (az.aQ H.JS) ?_;rintro _ g1 ⟨rfl,k1,e1,z1⟩;refine RW.bB rfl rfl rfl (az.au H.HZ rfl rfl k1 (by first|rfl|(simp;done)|(simp;omega)) (by first|decide|exact of_decide_eq_true rfl|(simp;done)|(simp;omega)) (Jg p)) ?_;rintro _ g2 ⟨rfl,k2,x2,z2⟩;have k2:bh g2 g.size 214 (wC p):=k2;have e02:aC h g2:=aC.only (eg.trans e1) x2 (by have:=eg.size;omega);refine xd [0,4,8,9,10] rfl ?_;refine av rfl ?_;refine bQ (fun b=>Array.size g2<=b) (fun i=>Nat.blt i 5) (sz:=5) (listed:= #[false,false,false,false,false]) func87 H.mixed rfl rfl rfl ?_;refine bP 0 1 (by kernel_rfl) rfl (fun h' e=>aj.cQ underlying214 H.Ng rfl rfl 0 rfl (by decide)) ?_;refine bP 1 3 (by kernel_rfl) rfl (fun h' e=>ai H.Nn rfl (e.old (k2.cell (i:=0) rfl))) ?_;refine cu 2 7 (by kernel_rfl) rfl ?_;refine bP 3 15 (by kernel_rfl) rfl (fun h' e=>aj.dy underlying9 rfl rfl 1 rfl (iD hc)) ?_;refine cu 4 31 (by kernel_rfl) rfl ?_;refine bu (by kernel_rfl) ?_;refine xu [0,4,8,9,10,16] rfl ?_;refine aM rfl rfl (fun he=>?_) (fun he=>?_)
     · have he:p.1=c:=(IX _ _).1 (by omega);refine xr func87 rfl ?_;refine xp rfl (aj.cQ underlying214 H.Ng rfl rfl 1 rfl (by decide)) ?_;refine xp rfl (ai H.Nn rfl (k2.cell (i:=1) rfl)) ?_;refine aN 1 [0,2,4,8,9,10,16] rfl ?_;refine G.ret func87 rfl rfl ?_;refine⟨_,rfl,?_,e02⟩;unfold Ho;rw[Hh hin hp (by rw[he];simp)];rfl
     · have he:¬p.1=c:=fun q=>he (by rw[q])
       refine aB rfl ?_;refine G.aR ?_;refine G.cz func87 rfl ?_;refine xp rfl (aj.bJ rfl rfl ⟨by omega,by omega⟩) ?_;refine aN 1 [0,4,8,9,10,16] rfl ?_;exact ih (i+1) _ _ ⟨rfl,rfl,rfl,trivial⟩ ⟨e02,by omega,fun q hq=>by rw[List.take_add_one,hp,List.mem_append] at hq;rcases hq with hq|hq;exact hin q hq;simp at hq;subst hq;simpa using he⟩ (by omega)
   · obtain rfl:i=6:=by omega
     refine bD rfl rfl ?_;refine bl func87 1 rfl ?_;refine xp rfl (aj.dy underlying9 rfl rfl 1 rfl (iD hc)) ?_;refine aN 1 [0,2,8,9,10] rfl ?_;refine G.ret func87 rfl rfl ?_;refine⟨_,rfl,?_,eg⟩;unfold Ho;rw[tW hin rfl];rfl
theorem u9 {tb:Nat}(hb:bh h tb 9 [.string (bs s)]) (t:Tok):ah Tryz.prog 126 #[.agg (fE t).toArray,ptr tb] h (cM fun r h'=>r= .bool (!Cw s t)/\aC h h'):=by
 have hbs:=bY s;refine ah.of func126 rfl rfl ?_;refine xr func126 rfl ?_;refine xo rfl (az.eR rfl) ?_;rintro _ h1 ⟨rfl,k1,e1,z1⟩;have k1:bh h1 h.size 46 (fE t):=k1;have hb1:=hb.ax e1;refine aN 1 [0,1,2,3] rfl ?_;refine av rfl ?_;refine G.bw [(3,.bool (!Cw s t))] [(0,_),(1,_),(2,_)] ⟨rfl,rfl,rfl,trivial⟩ func126 rfl ?_ ?_
 · refine xp rfl (af (off:=1) underlying46 rfl rfl H.bV rfl) ?_;refine xp rfl (ai H.cK rfl (k1.cell (i:=1) rfl)) ?_;refine aV 2 rfl ?_;refine aL (d:=7) rfl (fun g=>?_) (fun g=>?_)
   · have g:=of_decide_eq_true g;refine aV 14 rfl ?_;refine aD rfl ?_;exact⟨rfl,aF rfl (by unfold Cw;rw[decide_eq_false (by omega)];rfl),rfl,rfl,rfl,trivial⟩
   · have g:=of_decide_eq_false g;refine xp rfl (af (off:=2) underlying46 rfl rfl H.bV rfl) ?_;refine xp rfl (ai H.cK rfl (k1.cell (i:=2) rfl)) ?_;refine xp rfl (ai H.fu rfl (hb1.cell (i:=0) rfl)) ?_;refine xp rfl (aj.cw underlying9 rfl) ?_;refine aV 3 rfl ?_;refine aL (d:=14) rfl (fun g2=>?_) (fun g2=>?_)
     · have g2:=of_decide_eq_true g2;refine aV 7 rfl ?_;refine aD rfl ?_;exact⟨rfl,aF rfl (by unfold Cw;rw[decide_eq_true (show 0<=t.2.1 by omega),decide_eq_false (by omega)];rfl),rfl,rfl,rfl,trivial⟩
     · have g2:=of_decide_eq_false g2;refine xp rfl (af (off:=1) underlying46 rfl rfl H.bV rfl) ?_;refine xp rfl (ai H.cK rfl (k1.cell (i:=1) rfl)) ?_;refine xp rfl (af (off:=2) underlying46 rfl rfl H.bV rfl) ?_;refine xp rfl (ai H.cK rfl (k1.cell (i:=2) rfl)) ?_;refine aV 3 rfl ?_;refine aD rfl ?_;exact⟨rfl,aF rfl (by unfold Cw;rw[decide_eq_true (show 0<=t.2.1 by omega),decide_eq_true (show t.2.2<=s.length by omega),Bool.true_and,Bool.true_and,<-decide_not,decide_eq_decide];omega),rfl,rfl,rfl,trivial⟩
 · refine G.ret func126 rfl rfl ?_;exact⟨_,rfl,rfl,e1⟩
theorem xQ {gf:FuncId}{caps:List Value}(hf:LJ Tryz.prog gf) (hv:bX Hq h (fun _=>False) v ts) (p:Tok->Bool)
 (hp:∀t g,aC h g->ah Tryz.prog gf ([Value.agg (fE t).toArray]++caps).toArray g (cM fun r h'=>r= .bool (p t)/\aC g h')) :
 ah Tryz.prog 160 #[v,.func (.func gf) #[] caps.toArray] h (cM fun r h'=>(∃i:Int,r= .int .i64 i/\decide (0<=i)=ts.any p)/\aC h h'):=by
 obtain⟨va,vn,vc,rfl,hvs⟩:=hv.open;have hvl:ts.length=vn:=hvs.len;subst hvl;have hvm:=hvs.cap;have hvc:=hvs.le;simp only[maxLen] at hvm;refine ah.of func160 rfl rfl ?_;refine bf func160 1 [0,1,4] rfl ?_;refine av rfl ?_;refine bl func160 1 rfl ?_;refine xp rfl (aj.aS underlying39 rfl) ?_;refine aN 1 [0,1,4,7,8] rfl ?_;refine G.block rfl rfl ?_;refine bO (σ:=Nat) (fun i=>[(0,.slice va ts.length vc),(1,.func (.func gf) #[] caps.toArray),(7,.int .i64 (ts.length:Nat)),(8,.int .i64 (i:Nat))]) (fun i h'=>aC h h'/\i<=ts.length/\(ts.take i).any p=false) (fun i=>ts.length-i) (0) rfl ⟨rfl,rfl,rfl,rfl,trivial⟩ ⟨Ext.refl _ _,Nat.zero_le _,by simp⟩ ?_;rintro i g ⟨eg,hi,hin⟩ ih;refine bf func160 1 [0,1,7,8,9] rfl ?_;refine av rfl ?_;refine aM rfl rfl (fun hlt=>?_) (fun hlt=>?_)
 · have hil:i<ts.length:=by omega
   have hvg:=hvs.mv (Mv.ax eg);obtain⟨b,o,t,ha,_,ht,hrow⟩:=hvg.zK hil;have hpt:=hp t g eg;refine aB rfl ?_;refine av rfl ?_;refine G.block rfl rfl ?_;refine bf func160 2 [0,1,5,7,8,9] rfl ?_;refine bl func160 3 rfl ?_;refine xp rfl (aj.aH underlying39 H.kN rfl rfl i rfl ha (by omega)) ?_;refine xp rfl (aj.aE H.yC H.kN rfl hrow (by first|rfl|(simp;done)|(simp;omega))) ?_;refine xo rfl (az.Ls (vs:=[_]) rfl hf rfl (ah.bq (hpt))) ?_;rintro _ g1 ⟨rfl,e1⟩;refine xd [0,1,5,7,8,9,16] rfl ?_;refine aJ rfl rfl (fun hb=>?_) (fun hb=>?_)
   · have hb:p t=true:=hb;refine bf func160 2 [0,1,4,5,7,8,9,16] rfl ?_;refine G.ret func160 rfl rfl ?_;refine⟨_,rfl,⟨i,rfl,?_⟩,eg.trans e1⟩;rw[decide_eq_true (by omega)];exact(List.any_eq_true.2 ⟨t,List.mem_of_getElem? ht,hb⟩).symm
   · have hb:p t=false:=hb;refine aB rfl ?_;refine G.aR ?_;refine G.cz func160 rfl ?_;refine xp rfl (aj.bJ rfl rfl ⟨by omega,by omega⟩) ?_;refine aN 1 [0,1,5,7,8,9,16] rfl ?_;exact ih (i+1) _ _ ⟨rfl,rfl,rfl,rfl,trivial⟩ ⟨eg.trans e1,by omega,by rw[List.take_add_one,ht,List.any_append,hin];simp[hb]⟩ (by omega)
 · obtain rfl:i=ts.length:=by omega
   rw[List.take_length] at hin;refine bD rfl rfl ?_;refine bf func160 1 [0,1,4,7,8,9] rfl ?_;refine G.ret func160 rfl rfl ?_;exact⟨_,rfl,⟨-1,rfl,by rw[hin];rfl⟩,eg⟩
theorem rQ {h1:aA}(hv:bX Hq h1 (fun _=>False) v ts) (k1:bh h1 h.size 9 [.string (bs s)]):ah Tryz.prog 125 #[v,.func (.func 126) #[] #[ptr h.size]] h1 (cM fun r h'=>r= .bool (ts.any fun t=> !Cw s t)/\aC h1 h'):=by
 have hi:=xQ (h:=h1) (gf:=126) (caps:=[ptr h.size]) ⟨_,func126,rfl,by kernel_rfl⟩ hv (fun t=> !Cw s t) (fun t g eg=>u9 (k1.ax eg) t);refine ah.of func125 rfl rfl ?_;refine bf func125 1 [0,1,4] rfl ?_;refine bl func125 2 rfl ?_;refine xo rfl (aq (vs:=[_,_]) func160 rfl H.KK rfl (ah.bq (hi))) ?_;rintro _ h2 ⟨⟨i,rfl,hi2⟩,e2⟩;refine aN 2 [0,1,4] rfl ?_;refine G.ret func125 rfl rfl ?_;exact⟨_,rfl,by rw[<-hi2];rfl,e2⟩
theorem uZ (hv:bX Hq h (fun _=>False) v ts) (s:By):ah Tryz.prog 86 #[.string (bs s),v] h (cM fun r h'=>r= .bool (ts.all (Cw s))/\aC h h'):=by
 refine ah.of func86 rfl rfl ?_;refine xr func86 rfl ?_;refine xo rfl (az.eR rfl) ?_;rintro _ h1 ⟨rfl,k1,e1,z1⟩;have hc:=rQ (hv.ax e1) (show bh h1 h.size 9 [.string (bs s)] from k1);refine aN 1 [0,1,2,4] rfl ?_;refine bl func86 1 rfl ?_;refine xp rfl (aj.makeFunc (vs:=[_]) rfl) ?_;refine xo rfl (aq (vs:=[_,_]) func125 rfl H.KT rfl (ah.bq (hc))) ?_;rintro _ h2 ⟨rfl,e2⟩;refine aN 2 [0,1,2,4] rfl ?_;refine G.ret func86 rfl rfl ?_;refine⟨_,rfl,?_,e1.trans e2⟩;rw[List.all_eq_not_any_not];rfl
theorem FC (h:Cw s t=true):∃f q:Nat,t.2.1=f/\t.2.2=q/\f<=q/\q<=s.length/\dH s t=(s.take q).drop f:=by
 unfold Cw at h;simp only[Bool.and_eq_true,decide_eq_true_eq] at h;obtain⟨⟨h1,h2⟩,h3⟩:=h;refine⟨t.2.1.toNat,t.2.2.toNat,by omega,by omega,by omega,by omega,?_⟩;unfold dH;rw[List.drop_take]
theorem CY (s:By) (t:Tok):(dH s t).length<=s.length:=by
 unfold dH;rw[List.length_take,List.length_drop];omega
theorem A5 (h:ts[i]? =some t) (out:List Un) (op:Bool) :
 oO s (ts.drop i) out op=match lE s out op t with|.er a e=>.er a e|.go out op=>oO s (ts.drop (i+1)) out op:=by
 obtain⟨hi,rfl⟩:=List.getElem?_eq_some_iff.1 h;rw[List.drop_eq_getElem_cons hi];rfl
theorem EH (pre:List α) (u y:α):(pre++[u]).set pre.length y=pre++[y]:=by
 rw[List.set_append_right _ _ (Nat.le_refl _),Nat.sub_self];rfl
theorem DV {T:TypeId}(c:UInt8):bX .byte (h.push (.cells #[.int .u8 c.toNat] T)) (fun _=>False) (.slice (some ⟨h.size,0,none⟩) 1 1) [c] :=
 Ea.read (mP uk h T [c] 1 rfl (by decide) 0 (Nat.zero_le _) rfl) (fun _ _ k=>k)
def NT (h':aA) (r:Value):(Int×Int) ⊕ List Un->Prop
 |.inl p=>r=packed [.slice none 0 0,.int .i64 p.1,.int .i64 p.2]
 |.inr us=>us.length<=500/\∃uv,r=packed [uv,.int .i64 0,.int .i64 0]/\bX Nl h' (fun _=>False) uv us
theorem wI (hg:qb h) (hv:bX Hq h (fun _=>False) v ts) (s:By) (st:uX) (hb:ts.length*(s.length+2)<=1000000000000) (hsl:s.length<=1000000000000) :
 ah Tryz.prog 41 #[.string (bs s),v,.agg (cC st).toArray] h (cM fun r h'=>aC h h'/\NT h' r (jH s ts st.1)):=by
 obtain⟨va,vn,vc,rfl,hvs⟩:=id hv.open;have hvl:ts.length=vn:=hvs.len;subst hvl;have hvm:=hvs.cap;have hvc:=hvs.le;simp only[maxLen] at hvm;refine ah.of func41 rfl rfl ?_;refine xr func41 rfl ?_;refine xo rfl (az.eR rfl) ?_;rintro _ h1 ⟨rfl,k1,e1,z1⟩;refine aN 3 [0,1,2,5,6,7,8] rfl ?_;refine av rfl ?_;refine bl func41 2 rfl ?_;refine xo rfl (aq (vs:=[_,_]) func86 rfl H.Mz rfl (ah.bq (uZ (hv.ax e1) s))) ?_;rintro _ h2 ⟨rfl,e2⟩;have k1:bh h2 h.size 41 (cC st):=k1.ax e2;have e02:=e1.trans e2;refine aN 1 [0,1,2,5,6,7,8,16] rfl ?_;refine aJ rfl rfl (fun hw=>?_) (fun hw=>?_)
 · have hw:ts.all (Cw s)=false:=by simpa using hw
   refine bf func41 3 [0,1,2,5,6,7,8,16] rfl ?_;refine G.ret func41 rfl rfl ?_;refine⟨_,rfl,e02,?_⟩;unfold jH;rw[if_neg (by rw[hw];simp)];rfl
 · have hw:ts.all (Cw s)=true:=by simpa using hw
   have hU:jH s ts st.1=match oO s ts [] false with|.er a e=>.inl (a,e)|.go out op=>if op=true\/st.1≠0 then .inl (s.length,10) else .inr out:=by
    unfold jH;rw[if_pos hw];rfl
   rw[hU];generalize htg0:oO s ts [] false=tgt;refine aB rfl ?_;refine bf func41 1 [0,1,2,5,6,7,8,9,16] rfl ?_;refine av rfl ?_;refine bl func41 1 rfl ?_;refine xp rfl (aj.aS underlying39 rfl) ?_;refine aN 1 [0,1,2,5,6,7,8,9,16,17,18,19] rfl ?_;refine G.block rfl rfl ?_;refine bO (σ:=Nat×List Un×Bool×Value) (fun w=>[(0,.string (bs s)),(5,ptr h.size),(6,w.2.2.2),(9,.bool w.2.2.1),(17,.slice va ts.length vc),(18,.int .i64 (ts.length:Nat)),(19,.int .i64 (w.1:Nat))]) (fun w g=>w.1<=ts.length/\aC h2 g/\h2.size<=g.size/\kK 3 qx g h2.size 188 w.2.2.2 w.2.1/\oO s (ts.drop w.1) w.2.1 w.2.2.1=tgt/\w.2.1.length<=500/\(w.2.2.1=true->w.2.1≠[])/\(∀u∈w.2.1,u.2.1.length<=w.1*(s.length+2))) (fun w=>ts.length-w.1) ((0,[],false,.slice none 0 0)) rfl ⟨rfl,rfl,rfl,rfl,rfl,rfl,rfl,trivial⟩ ⟨Nat.zero_le _,Ext.refl _ _,Nat.le_refl _,kK.nil _ _ _ _ _,htg0,by simp,(fun k=>by cases k),by simp⟩ ?_;rintro⟨i,out,op,ov⟩ g ⟨hi,eg,hz,how,htg,hol,hop,hut⟩ ih
   try dsimp only
   dsimp only at hi how htg hol hop hut;have hho:aT g h2.size 188 3 ov out.length (out.flatMap qx):=how;obtain⟨oa,oc,rfl,_⟩:=hho.open;refine bf func41 1 [0,5,6,9,17,18,19,20] rfl ?_;refine av rfl ?_;refine aM rfl rfl (fun hlt=>?_) (fun hlt=>?_)
   · have hil:i<ts.length:=by omega
     have hmul:(i+1)*(s.length+2)<=ts.length*(s.length+2):=Nat.mul_le_mul_right _ hil;have hsuc:(i+1)*(s.length+2)=i*(s.length+2)+(s.length+2):=Nat.succ_mul _ _;have hbig:∀n,n<=i*(s.length+2)->n<=(i+1)*(s.length+2):=fun n hn=>by omega
     have hvg:=hvs.mv (Mv.ax (e02.trans eg));obtain⟨b,o,t,ha,_,ht,hrow⟩:=hvg.zK hil;have hint:Cw s t=true:=List.all_eq_true.1 hw t (List.mem_of_getElem? ht);obtain⟨f,q,hf,hq,hfq,hqs,htx⟩:=FC hint;have htl:=CY s t;have hstep:=A5 (s:=s) ht out op;have hbz:=bY s;refine aB rfl ?_;refine av rfl ?_;refine G.block rfl rfl ?_;refine xr func41 rfl ?_;refine xp rfl (aj.aH underlying39 H.kN rfl rfl i rfl ha (by omega)) ?_;refine xp rfl (aj.aE H.yC H.kN rfl hrow (by first|rfl|(simp;done)|(simp;omega))) ?_;refine xo rfl (az.aQ H.Ec) ?_;rintro _ g1 ⟨rfl,k2,e3,z3⟩;refine RW.bB rfl rfl rfl (az.au H.kN rfl rfl k2 (by first|rfl|(simp;done)|(simp;omega)) (by first|decide|exact of_decide_eq_true rfl|(simp;done)|(simp;omega)) (nT t)) ?_;rintro _ g2 ⟨rfl,kt,x2,z2⟩;have kt:bh g2 g.size 46 (fE t):=kt;have eg2:aC g g2:=aC.only e3 x2 (Nat.le_refl _);have how2:=how.ax eg2;have hho2:aT g2 h2.size 188 3 (.slice oa out.length oc) out.length (out.flatMap qx):=how2;have egg:=eg.trans eg2;refine xd [0,5,6,9,11,17,18,19,20] rfl ?_;refine bl func41 1 rfl ?_;refine xp rfl (af (off:=1) underlying46 rfl rfl H.bV rfl) ?_;refine xp rfl (ai H.cK rfl (kt.cell (i:=1) rfl)) ?_;refine xp rfl (af (off:=2) underlying46 rfl rfl H.bV rfl) ?_;refine xp rfl (ai H.cK rfl (kt.cell (i:=2) rfl)) ?_;refine xp rfl (aj.zx underlying9 rfl rfl f hf rfl q hq hfq (by omega)) ?_;rw[CH _ _ _ hfq,<-htx];refine aN 1 [0,5,6,9,11,12,17,18,19,20] rfl ?_;refine av rfl ?_;refine G.block rfl rfl ?_;refine xr func41 rfl ?_;refine xp rfl (af (off:=0) underlying46 rfl rfl H.bV rfl) ?_;refine xp rfl (ai H.cK rfl (kt.cell (i:=0) rfl)) ?_;refine aN 2 [0,5,6,9,11,12,17,18,19,20,29] rfl ?_;refine aM rfl rfl (fun h0=>?_) (fun h0=>?_)
     · have hu:lE s out op t= .er t.2.1 10:=by unfold lE;rw[if_pos h0]
       rw[hstep,hu] at htg;refine av rfl ?_;refine G.gF func41 H.mixed rfl (by kernel_rfl) ?_;refine RQ.ay rfl rfl rfl rfl (af (off:=1) underlying46 rfl rfl H.bV rfl) ?_;refine RQ.ay rfl rfl rfl rfl (ai H.cK rfl (kt.cell (i:=1) rfl)) ?_;refine RQ.ay rfl rfl rfl rfl (aj.assign rfl) ?_;refine RQ.ay rfl rfl rfl rfl (aj.assign rfl) ?_;refine RQ.ay rfl rfl rfl rfl (aj.assign rfl) ?_;refine dw rfl ?_;refine xu [0,5,6,7,8,9,11,12,17,18,19,20,29] rfl ?_;refine G.ret func41 rfl rfl ?_;exact⟨_,rfl,e02.trans egg,by rw[<-htg];rfl⟩
     · rcases op with _|_
       · refine av rfl ?_;refine G.bw [(35,.bool false)] [(0,_),(5,_),(6,_),(9,_),(11,_),(12,_),(17,_),(18,_),(19,_),(20,_),(29,_)] ⟨rfl,rfl,rfl,rfl,rfl,rfl,rfl,rfl,rfl,rfl,rfl,trivial⟩ func41 rfl ?_ ?_
         · refine aV 2 rfl ?_;refine RW.cS (d:=37) (b':=false) rfl (rfl) ?_;refine aV 9 rfl ?_;refine aD rfl ?_;exact⟨rfl,aF rfl (rfl),rfl,rfl,rfl,rfl,rfl,rfl,rfl,rfl,rfl,rfl,rfl,trivial⟩
         · refine aJ rfl rfl (fun hc=>absurd hc (by simp)) (fun _=>?_);refine av rfl ?_;refine G.bw [(46,.bool false)] [(0,_),(5,_),(6,_),(9,_),(11,_),(12,_),(17,_),(18,_),(19,_),(20,_),(29,_),(35,_)] ⟨rfl,rfl,rfl,rfl,rfl,rfl,rfl,rfl,rfl,rfl,rfl,rfl,trivial⟩ func41 rfl ?_ ?_
           · refine aV 2 rfl ?_;refine RW.cS (d:=48) (b':=false) rfl (rfl) ?_;refine aV 5 rfl ?_;refine aD rfl ?_;exact⟨rfl,aF rfl (rfl),rfl,rfl,rfl,rfl,rfl,rfl,rfl,rfl,rfl,rfl,rfl,rfl,trivial⟩
           · refine aJ rfl rfl (fun hc=>absurd hc (by simp)) (fun _=>?_);refine bf func41 2 [0,5,6,9,11,12,17,18,19,20,29,35,46,67] rfl ?_;refine aJ rfl rfl (fun hc=>absurd hc (by simp)) (fun _=>?_)
             have hu0:lE s out false t=(if t.1=1\/t.1=2\/t.1=11 then .go out false else if out.length=500 then .er t.2.1 3 else .go (out++[(t.1,if t.1=9 then [] else dH s t,t.2.1)]) (decide (t.1=9))):=by
              unfold lE;rw[if_neg h0];rfl
             refine av rfl ?_;refine xr func41 rfl ?_;refine xp rfl (af (off:=0) underlying46 rfl rfl H.bV rfl) ?_;refine xp rfl (ai H.cK rfl (kt.cell (i:=0) rfl)) ?_;refine aN 2 [0,5,6,9,11,12,17,18,19,20,29,35,46,67,80] rfl ?_;refine aM rfl rfl (fun c1=>?_) (fun c1=>?_)
             · refine aB rfl ?_;refine aJ rfl rfl (fun _=>?_) (fun hc=>absurd hc (by simp[c1]));refine bD rfl rfl ?_;refine G.cz func41 rfl ?_;refine xp rfl (aj.bJ rfl rfl ⟨by omega,by omega⟩) ?_;refine aN 1 [0,5,6,9,11,12,17,18,19,20,29,35,46,67,80] rfl ?_;exact ih (i+1,out,false,(.slice oa out.length oc)) _ _ ⟨rfl,rfl,rfl,rfl,rfl,rfl,rfl,trivial⟩ ⟨by show i+1<=ts.length;omega,egg,by have:=(egg).size;omega,how2,by rw[hstep,(hu0.trans (if_pos (.inl c1)))] at htg;exact htg,hol,(fun k=>by cases k),(fun u hu=>hbig _ (hut u hu))⟩ (by show ts.length-(i+1)<ts.length-i;omega)
             · refine xr func41 rfl ?_;refine xp rfl (af (off:=0) underlying46 rfl rfl H.bV rfl) ?_;refine xp rfl (ai H.cK rfl (kt.cell (i:=0) rfl)) ?_;refine aN 2 [0,5,6,9,11,12,17,18,19,20,29,35,46,67,80] rfl ?_;refine aM rfl rfl (fun c2=>?_) (fun c2=>?_)
               · refine aB rfl ?_;refine aJ rfl rfl (fun _=>?_) (fun hc=>absurd hc (by simp[c2]));refine bD rfl rfl ?_;refine G.cz func41 rfl ?_;refine xp rfl (aj.bJ rfl rfl ⟨by omega,by omega⟩) ?_;refine aN 1 [0,5,6,9,11,12,17,18,19,20,29,35,46,67,80] rfl ?_;exact ih (i+1,out,false,(.slice oa out.length oc)) _ _ ⟨rfl,rfl,rfl,rfl,rfl,rfl,rfl,trivial⟩ ⟨by show i+1<=ts.length;omega,egg,by have:=(egg).size;omega,how2,by rw[hstep,(hu0.trans (if_pos (.inr (.inl c2))))] at htg;exact htg,hol,(fun k=>by cases k),(fun u hu=>hbig _ (hut u hu))⟩ (by show ts.length-(i+1)<ts.length-i;omega)
               · refine G.cz func41 rfl ?_;refine xp rfl (af (off:=0) underlying46 rfl rfl H.bV rfl) ?_;refine xp rfl (ai H.cK rfl (kt.cell (i:=0) rfl)) ?_;refine aN 2 [0,5,6,9,11,12,17,18,19,20,29,35,46,67,80] rfl ?_;refine aM rfl rfl (fun c3=>?_) (fun c3=>?_)
                 · refine bD rfl rfl ?_;refine G.cz func41 rfl ?_;refine xp rfl (aj.bJ rfl rfl ⟨by omega,by omega⟩) ?_;refine aN 1 [0,5,6,9,11,12,17,18,19,20,29,35,46,67,80] rfl ?_;exact ih (i+1,out,false,(.slice oa out.length oc)) _ _ ⟨rfl,rfl,rfl,rfl,rfl,rfl,rfl,trivial⟩ ⟨by show i+1<=ts.length;omega,egg,by have:=(egg).size;omega,how2,by rw[hstep,(hu0.trans (if_pos (.inr (.inr c3))))] at htg;exact htg,hol,(fun k=>by cases k),(fun u hu=>hbig _ (hut u hu))⟩ (by show ts.length-(i+1)<ts.length-i;omega)
                 · rw[if_neg (fun q=>by omega)] at hu0;refine xr func41 rfl ?_;refine xp rfl (af (off:=0) underlying46 rfl rfl H.bV rfl) ?_;refine xp rfl (ai H.cK rfl (kt.cell (i:=0) rfl)) ?_;refine aN 2 [0,5,6,9,11,12,17,18,19,20,29,35,46,67,80,90] rfl ?_;refine aM rfl rfl (fun c9=>?_) (fun c9=>?_)
                   · refine G.cz func41 rfl ?_;refine aN 2 [0,5,6,9,11,12,17,18,19,20,29,35,46,67,80,90] rfl ?_;refine G.aR ?_;refine av rfl ?_;refine bl func41 1 rfl ?_;refine xp rfl (aj.aS underlying111 rfl) ?_;refine aN 1 [0,5,6,9,11,12,17,18,19,20,29,35,46,67,80,90,96] rfl ?_;refine aM rfl rfl (fun c500=>?_) (fun c500=>?_)
                     · have c500:out.length=500:=by omega
                       rw[if_pos c500] at hu0;rw[hstep,hu0] at htg;refine av rfl ?_;refine G.gF func41 H.mixed rfl (by kernel_rfl) ?_;refine RQ.ay rfl rfl rfl rfl (af (off:=1) underlying46 rfl rfl H.bV rfl) ?_;refine RQ.ay rfl rfl rfl rfl (ai H.cK rfl (kt.cell (i:=1) rfl)) ?_;refine RQ.ay rfl rfl rfl rfl (aj.assign rfl) ?_;refine RQ.ay rfl rfl rfl rfl (aj.assign rfl) ?_;refine RQ.ay rfl rfl rfl rfl (aj.assign rfl) ?_;refine dw rfl ?_;refine xu [0,5,6,7,8,9,11,12,17,18,19,20,29,35,46,67,80,90,96] rfl ?_;refine G.ret func41 rfl rfl ?_;exact⟨_,rfl,e02.trans egg,by rw[<-htg];rfl⟩
                     · have c500:¬out.length=500:=by omega
                       rw[if_neg c500] at hu0;refine aB rfl ?_;refine G.cz func41 rfl ?_;refine cI 1 rfl rfl (af (off:=0) underlying46 rfl rfl H.bV rfl) ?_;refine xp rfl (ai H.cK rfl (kt.cell (i:=0) rfl)) ?_;refine cI 1 rfl rfl (af (off:=1) underlying46 rfl rfl H.bV rfl) ?_;refine xp rfl (ai H.cK rfl (kt.cell (i:=1) rfl)) ?_;refine xp rfl (aG (H.rI _ _ _) rfl) ?_;refine xo rfl (az.cE (cs:=[_,_,_]) underlying111 H.Cz rfl rfl (by decide)) ?_;rintro _ _ ⟨rfl,rfl⟩;refine xo rfl (az.bU underlying111 H.Cz rfl rfl (hho2) rfl rfl (wQ (t.1,([]:By),t.2.1)) (by omega) (by decide) (by omega)) ?_;rintro v2 g4 ⟨ho4,hx4,hx4',hv4⟩;have ho5:kK 3 qx g4 h2.size 188 v2 (out++[(t.1,([]:By),t.2.1)]):=kK.of ho4 rfl rfl;have e24:aC h2 g4:=Ext.own egg hho2 (Nat.le_refl _) hx4;have hu1:lE s out false t= .go (out++[(t.1,([]:By),t.2.1)]) true:=hu0.trans (by simp[c9]);refine aN 1 [0,5,6,9,11,12,17,18,19,20,29,35,46,67,80,90,96] rfl ?_;refine G.aR ?_;refine G.cz func41 rfl ?_;refine xp rfl (aj.bJ rfl rfl ⟨by omega,by omega⟩) ?_;refine aN 1 [0,5,6,9,11,12,17,18,19,20,29,35,46,67,80,90,96] rfl ?_;exact ih (i+1,(out++[(t.1,([]:By),t.2.1)]),true,v2) _ _ ⟨rfl,rfl,rfl,rfl,rfl,rfl,rfl,trivial⟩ ⟨by show i+1<=ts.length;omega,e24,by have:=(e24).size;omega,ho5,by rw[hstep,hu1] at htg;exact htg,(by rw[List.length_append];simp only[List.length_singleton];omega),(fun _=>by simp),(fun u hu=>(List.mem_append.1 hu).elim (fun hu=>hbig _ (hut u hu)) (fun hu=>by simp only[List.mem_singleton] at hu;subst hu;show List.length (([]:By))<=(i+1)*(s.length+2);have hz0:List.length ([]:By)=0:=rfl;omega))⟩ (by show ts.length-(i+1)<ts.length-i;omega)
                   · refine aB rfl ?_;refine G.aR ?_;refine av rfl ?_;refine bl func41 1 rfl ?_;refine xp rfl (aj.aS underlying111 rfl) ?_;refine aN 1 [0,5,6,9,11,12,17,18,19,20,29,35,46,67,80,90,96] rfl ?_;refine aM rfl rfl (fun c500=>?_) (fun c500=>?_)
                     · have c500:out.length=500:=by omega
                       rw[if_pos c500] at hu0;rw[hstep,hu0] at htg;refine av rfl ?_;refine G.gF func41 H.mixed rfl (by kernel_rfl) ?_;refine RQ.ay rfl rfl rfl rfl (af (off:=1) underlying46 rfl rfl H.bV rfl) ?_;refine RQ.ay rfl rfl rfl rfl (ai H.cK rfl (kt.cell (i:=1) rfl)) ?_;refine RQ.ay rfl rfl rfl rfl (aj.assign rfl) ?_;refine RQ.ay rfl rfl rfl rfl (aj.assign rfl) ?_;refine RQ.ay rfl rfl rfl rfl (aj.assign rfl) ?_;refine dw rfl ?_;refine xu [0,5,6,7,8,9,11,12,17,18,19,20,29,35,46,67,80,90,96] rfl ?_;refine G.ret func41 rfl rfl ?_;exact⟨_,rfl,e02.trans egg,by rw[<-htg];rfl⟩
                     · have c500:¬out.length=500:=by omega
                       rw[if_neg c500] at hu0;refine aB rfl ?_;refine G.cz func41 rfl ?_;refine cI 1 rfl rfl (af (off:=0) underlying46 rfl rfl H.bV rfl) ?_;refine xp rfl (ai H.cK rfl (kt.cell (i:=0) rfl)) ?_;refine cI 1 rfl rfl (af (off:=1) underlying46 rfl rfl H.bV rfl) ?_;refine xp rfl (ai H.cK rfl (kt.cell (i:=1) rfl)) ?_;refine xp rfl (aG (H.rI _ _ _) rfl) ?_;refine xo rfl (az.cE (cs:=[_,_,_]) underlying111 H.Cz rfl rfl (by decide)) ?_;rintro _ _ ⟨rfl,rfl⟩;refine xo rfl (az.bU underlying111 H.Cz rfl rfl (hho2) rfl rfl (wQ (t.1,(dH s t),t.2.1)) (by omega) (by decide) (by omega)) ?_;rintro v2 g4 ⟨ho4,hx4,hx4',hv4⟩;have ho5:kK 3 qx g4 h2.size 188 v2 (out++[(t.1,(dH s t),t.2.1)]):=kK.of ho4 rfl rfl;have e24:aC h2 g4:=Ext.own egg hho2 (Nat.le_refl _) hx4;have hu1:lE s out false t= .go (out++[(t.1,(dH s t),t.2.1)]) false:=hu0.trans (by simp[c9]);refine aN 1 [0,5,6,9,11,12,17,18,19,20,29,35,46,67,80,90,96] rfl ?_;refine G.aR ?_;refine G.cz func41 rfl ?_;refine xp rfl (aj.bJ rfl rfl ⟨by omega,by omega⟩) ?_;refine aN 1 [0,5,6,9,11,12,17,18,19,20,29,35,46,67,80,90,96] rfl ?_;exact ih (i+1,(out++[(t.1,(dH s t),t.2.1)]),false,v2) _ _ ⟨rfl,rfl,rfl,rfl,rfl,rfl,rfl,trivial⟩ ⟨by show i+1<=ts.length;omega,e24,by have:=(e24).size;omega,ho5,by rw[hstep,hu1] at htg;exact htg,(by rw[List.length_append];simp only[List.length_singleton];omega),(fun _=>by simp),(fun u hu=>(List.mem_append.1 hu).elim (fun hu=>hbig _ (hut u hu)) (fun hu=>by simp only[List.mem_singleton] at hu;subst hu;show List.length ((dH s t))<=(i+1)*(s.length+2);have hz0:List.length ([]:By)=0:=rfl;omega))⟩ (by show ts.length-(i+1)<ts.length-i;omega)
       · have hne:=hop rfl
         obtain⟨pre,u,hpre⟩:∃pre u,out=pre++[u]:=by
          rcases List.eq_nil_or_concat out with q|⟨p,u,q⟩
          · exact absurd q hne
          · exact⟨p,u,by simpa using q⟩
         have hlen:out.length=pre.length+1:=by rw[hpre];simp
         have hgu:out[pre.length]? =some u:=by rw[hpre];simp
         have hul:=hut u (by rw[hpre];simp);obtain⟨gb,gc,hgv,hgb,hgl,hgr,hgf,hgs⟩:=kK.put (enc:=qx) (fun _=>rfl) how2 hgu;have hga:oa=some ⟨gb,0,none⟩:=by cases hgv;rfl
         have hu0:lE s out true t=(if t.1=9/\dH s t=[34] then .go out false else if t.1=10 then .go (kG [qv (dH s t)] out) true else .go (kG (dH s t) out) true):=by
          unfold lE;rw[if_neg h0];rfl
         have hadd:∀x,kG x out=pre++[(u.1,u.2.1++x,u.2.2)]:=fun x=>by rw[hpre];exact wF x pre u
         have hset:∀x,out.set pre.length (u.1,u.2.1++x,u.2.2)=kG x out:=fun x=>by rw[hadd,hpre];exact EH _ _ _
         have hadl:∀x,x.length<=s.length+1->∀u∈kG x out,u.2.1.length<=(i+1)*(s.length+2):=fun x hx u' hu'=>by
          rw[hadd,List.mem_append] at hu'
          rcases hu' with hu'|hu'
          · exact hbig _ (hut u' (by rw[hpre];simp[hu']))
          · simp only[List.mem_singleton] at hu';subst hu';simp only[List.length_append];omega
         have hown:∀x g',g'=ew g2 ⟨gb,0+pre.length*3+1,none⟩ x->aC h2 g':=fun x g' hg'=>by rw[hg'];exact aC.set egg hgb x
         refine av rfl ?_;refine G.bw [(35,.bool (decide (t.1=9/\dH s t=[34])))] [(0,_),(5,_),(6,_),(9,_),(11,_),(12,_),(17,_),(18,_),(19,_),(20,_),(29,_)] ⟨rfl,rfl,rfl,rfl,rfl,rfl,rfl,rfl,rfl,rfl,rfl,trivial⟩ func41 rfl ?_ ?_
         · refine aV 2 rfl ?_;refine RW.cS (d:=37) (b':=true) rfl (rfl) ?_;refine xp rfl (af (off:=0) underlying46 rfl rfl H.bV rfl) ?_;refine xp rfl (ai H.cK rfl (kt.cell (i:=0) rfl)) ?_;refine aV 3 rfl ?_;refine aL (d:=42) rfl (fun g9=>?_) (fun g9=>?_)
           · have g9:=of_decide_eq_true g9;refine cI 1 rfl rfl (aj.bS rfl rfl) ?_;refine aV 2 rfl ?_;refine aD rfl ?_;exact⟨rfl,aF rfl (by rw[Bool.eq_iff_iff,decide_eq_true_iff,decide_eq_true_iff];exact⟨fun q=>⟨g9,bZ q⟩,fun q=>congrArg bs q.2⟩),rfl,rfl,rfl,rfl,rfl,rfl,rfl,rfl,rfl,rfl,rfl,trivial⟩
           · have g9:=of_decide_eq_false g9;refine aV 4 rfl ?_;refine aD rfl ?_;exact⟨rfl,aF rfl (by rw[decide_eq_false (fun q=>g9 q.1)]),rfl,rfl,rfl,rfl,rfl,rfl,rfl,rfl,rfl,rfl,rfl,trivial⟩
         · refine aM rfl rfl (fun c9=>?_) (fun c9=>?_)
           · rw[if_pos c9] at hu0;refine bf func41 1 [0,5,6,9,11,12,17,18,19,20,29,35] rfl ?_;refine bD rfl rfl ?_;refine G.cz func41 rfl ?_;refine xp rfl (aj.bJ rfl rfl ⟨by omega,by omega⟩) ?_;refine aN 1 [0,5,6,9,11,12,17,18,19,20,29,35] rfl ?_;exact ih (i+1,out,false,(.slice oa out.length oc)) _ _ ⟨rfl,rfl,rfl,rfl,rfl,rfl,rfl,trivial⟩ ⟨by show i+1<=ts.length;omega,egg,by have:=(egg).size;omega,how2,by rw[hstep,hu0] at htg;exact htg,hol,(fun k=>by cases k),(fun u hu=>hbig _ (hut u hu))⟩ (by show ts.length-(i+1)<ts.length-i;omega)
           · rw[if_neg c9] at hu0;refine av rfl ?_;refine G.bw [(46,.bool (decide (t.1=10)))] [(0,_),(5,_),(6,_),(9,_),(11,_),(12,_),(17,_),(18,_),(19,_),(20,_),(29,_),(35,_)] ⟨rfl,rfl,rfl,rfl,rfl,rfl,rfl,rfl,rfl,rfl,rfl,rfl,trivial⟩ func41 rfl ?_ ?_
             · refine aV 2 rfl ?_;refine RW.cS (d:=48) (b':=true) rfl (rfl) ?_;refine xp rfl (af (off:=0) underlying46 rfl rfl H.bV rfl) ?_;refine xp rfl (ai H.cK rfl (kt.cell (i:=0) rfl)) ?_;refine aV 3 rfl ?_;refine aD rfl ?_;exact⟨rfl,aF rfl (rfl),rfl,rfl,rfl,rfl,rfl,rfl,rfl,rfl,rfl,rfl,rfl,rfl,trivial⟩
             · refine aM rfl rfl (fun c10=>?_) (fun c10=>?_)
               · rw[if_pos c10] at hu0;refine av rfl ?_;refine bQ (fun _=>False) (fun i=>Nat.blt i 14) (sz:=15) (listed:= #[false,false,false,false,false,false,false,false,false,false,false,false,false,false,false]) func41 H.mixed rfl rfl rfl ?_;refine cu 0 1 (by kernel_rfl) rfl ?_;refine cu 1 3 (by kernel_rfl) rfl ?_;refine bP 2 7 (by kernel_rfl) rfl (fun h' e=>aj.aS underlying111 rfl) ?_;refine bP 3 15 (by kernel_rfl) rfl (fun h' e=>aj.j9 rfl rfl ⟨by omega,by omega⟩) ?_;refine bP 4 31 (by kernel_rfl) rfl (fun h' e=>aj.aH underlying111 H.jX rfl rfl pre.length (by omega) hga (by omega)) ?_;refine bP 5 63 (by kernel_rfl) rfl (fun h' e=>af (off:=1) underlying188 rfl rfl H.eG rfl) ?_;refine bP 6 127 (by kernel_rfl) rfl (fun h' e=>ai H.fu rfl (e.cell (fun k=>k) (hgr 1 _ rfl))) ?_;refine cu 7 255 (by kernel_rfl) rfl ?_;refine dZ 8 511 (by kernel_rfl) rfl (aq (vs:=[_]) func87 rfl H.My rfl (ah.bq (u6 (hg.ax (e02.trans egg)) (dH s t)))) ?_;rintro _ g3 ⟨rfl,e3'⟩;refine⟨fun _=>e3',?_⟩;refine dZ 9 1023 (by kernel_rfl) rfl (az.bg (us:=[_]) underlying38 H.M5 rfl rfl (by decide) (by simp[Value.oneCell'])) ?_;rintro _ g4 ⟨rfl,hg4⟩;refine⟨fun _=>(by rw[hg4];exact Ext.push _ _ _),?_⟩;have e34:aC g3 g4:=by rw[hg4];exact Ext.push _ _ _
                 have e24:aC g2 g4:=e3'.trans e34;have hby:bX .byte g4 (fun _=>False) (.slice (some ⟨g3.size,0,none⟩) 1 1) [qv (dH s t)]:=by rw[hg4];exact DV _
                 obtain⟨gb',gc',hgv',hgb',hgl',hgr',hgf',hgs'⟩:=kK.put (enc:=qx) (fun _=>rfl) (how2.ax e24) hgu;obtain rfl:gb=gb':=by rw[hga] at hgv';cases hgv';rfl
                 have hbu:=bY u.2.1;refine bP 10 2047 (by kernel_rfl) rfl (fun h' e=>aj.DS underlying38 underlying5 underlying9 rfl (hby.ax e)) ?_;refine bP 11 4095 (by kernel_rfl) rfl (fun h' e=>aj.uM rfl rfl (by show (bs u.2.1).size+1<=_;omega)) ?_;refine dZ 12 8191 (by kernel_rfl) rfl (aj.bq (aj.aH underlying111 H.jX rfl rfl pre.length (by omega) hga (by omega))) ?_;rintro _ hq_ ⟨rfl,hqe_⟩;replace hqe_:=hqe_.symm;subst hqe_;refine⟨fun _=>Ext.refl _ _,?_⟩;refine bP 13 16383 (by kernel_rfl) rfl (fun h' e=>af (off:=1) underlying188 rfl rfl H.eG rfl) ?_;refine jG 14 32767 (by kernel_rfl) rfl (cH H.eG rfl rfl rfl (hgr' 1 _ rfl) (hgf' _)) ?_;rintro _ g5 ⟨rfl,hg5⟩;refine⟨fun hk=>(nomatch hk),?_⟩
                 have hfin:kK 3 qx g5 h2.size 188 (.slice oa out.length oc) (kG [qv (dH s t)] out):=by
                  rw[hg5,<-hset];exact hgs' 1 _ _ (by decide) (by show [Value.int .i64 u.1,Value.string (bs u.2.1++⟨[qv (dH s t)].toArray⟩),Value.int .i64 u.2.2]=_;rw[show (⟨[qv (dH s t)].toArray⟩:ByteArray)=bs [qv (dH s t)] from rfl,kD];rfl)
                 have e25:aC h2 g5:=by rw[hg5];exact aC.set (egg.trans e24) hgb _
                 have hlena:(kG [qv (dH s t)] out).length=out.length:=uN _ _;refine bu (by kernel_rfl) ?_;refine xu [0,5,6,9,11,12,17,18,19,20,29,35,46] rfl ?_;refine bD rfl rfl ?_;refine G.cz func41 rfl ?_;refine xp rfl (aj.bJ rfl rfl ⟨by omega,by omega⟩) ?_;refine aN 1 [0,5,6,9,11,12,17,18,19,20,29,35,46] rfl ?_;exact ih (i+1,kG [qv (dH s t)] out,true,.slice oa out.length oc) _ _ ⟨rfl,rfl,rfl,rfl,rfl,rfl,rfl,trivial⟩ ⟨by show i+1<=ts.length;omega,e25,by have:=e25.size;omega,hfin,by rw[hstep,hu0] at htg;exact htg,by show (kG _ out).length<=500;omega,fun _ q=>hne (List.eq_nil_of_length_eq_zero (hlena.symm.trans (congrArg List.length q))),hadl _ (by simp)⟩ (by show ts.length-(i+1)<ts.length-i;omega)
               · rw[if_neg c10] at hu0;refine bf func41 2 [0,5,6,9,11,12,17,18,19,20,29,35,46,67] rfl ?_;refine aJ rfl rfl (fun _=>?_) (fun hc=>absurd hc (by simp));have hbu:=bY u.2.1;have hbt:=bY (dH s t);refine bl func41 2 rfl ?_;refine xp rfl (aj.aS underlying111 rfl) ?_;refine xp rfl (aj.j9 rfl rfl ⟨by omega,by omega⟩) ?_;refine xp rfl (aj.aH underlying111 H.jX rfl rfl pre.length (by omega) hga (by omega)) ?_;refine xp rfl (af (off:=1) underlying188 rfl rfl H.eG rfl) ?_;refine xp rfl (ai H.fu rfl (hgr 1 _ rfl)) ?_;refine cI 1 rfl rfl (aj.uM rfl rfl (by omega)) ?_;refine xp rfl (aj.aH underlying111 H.jX rfl rfl pre.length (by omega) hga (by omega)) ?_;refine xp rfl (af (off:=1) underlying188 rfl rfl H.eG rfl) ?_;refine RW.bB rfl rfl rfl (cH H.eG rfl rfl rfl (hgr 1 _ rfl) (hgf _)) ?_;rintro _ g5 ⟨rfl,hg5⟩
                 have hfin:kK 3 qx g5 h2.size 188 (.slice oa out.length oc) (kG (dH s t) out):=by
                  rw[hg5,<-hset];exact hgs 1 _ _ (by decide) (by show [Value.int .i64 u.1,Value.string (bs u.2.1++bs (dH s t)),Value.int .i64 u.2.2]=_;rw[kD];rfl)
                 have e25:aC h2 g5:=hown _ _ hg5;have hlena:(kG (dH s t) out).length=out.length:=uN _ _;refine xd [0,5,6,9,11,12,17,18,19,20,29,35,46,67] rfl ?_;refine bD rfl rfl ?_;refine G.cz func41 rfl ?_;refine xp rfl (aj.bJ rfl rfl ⟨by omega,by omega⟩) ?_;refine aN 1 [0,5,6,9,11,12,17,18,19,20,29,35,46,67] rfl ?_;exact ih (i+1,kG (dH s t) out,true,.slice oa out.length oc) _ _ ⟨rfl,rfl,rfl,rfl,rfl,rfl,rfl,trivial⟩ ⟨by show i+1<=ts.length;omega,e25,by have:=e25.size;omega,hfin,by rw[hstep,hu0] at htg;exact htg,by show (kG _ out).length<=500;omega,fun _ q=>hne (List.eq_nil_of_length_eq_zero (hlena.symm.trans (congrArg List.length q))),hadl (dH s t) (by omega)⟩ (by show ts.length-(i+1)<ts.length-i;omega)
   · obtain rfl:i=ts.length:=by omega
     rw[List.drop_length] at htg;have htg:UR.go out op=tgt:=htg;rw[<-htg];dsimp only;refine bD rfl rfl ?_;refine av rfl ?_;refine av rfl ?_;refine G.bw [(114,.bool (decide (op=true\/st.1≠0)))] [(0,_),(5,_),(6,_),(9,_),(17,_),(18,_),(19,_),(20,_)] ⟨rfl,rfl,rfl,rfl,rfl,rfl,rfl,rfl,trivial⟩ func41 rfl ?_ ?_
     · rcases op with _|_
       · refine aV 2 rfl ?_;refine RW.cS (d:=110) (b':=false) rfl (rfl) ?_;refine xp rfl (af (off:=0) underlying41 rfl rfl H.bV rfl) ?_;refine xp rfl (ai H.cK rfl ((k1.ax eg).cell (i:=0) rfl)) ?_;refine aV 2 rfl ?_;refine aD rfl ?_;exact⟨rfl,aF rfl (by simp),rfl,rfl,rfl,rfl,rfl,rfl,rfl,rfl,trivial⟩
       · refine aV 2 rfl ?_;refine RW.cS (d:=110) (b':=true) rfl (rfl) ?_;refine aV 4 rfl ?_;refine aD rfl ?_;exact⟨rfl,aF rfl (by simp),rfl,rfl,rfl,rfl,rfl,rfl,rfl,rfl,trivial⟩
     · refine aM rfl rfl (fun co=>?_) (fun co=>?_)
       · rw[if_pos co];refine bl func41 1 rfl ?_;refine xp rfl (aj.cw underlying9 rfl) ?_;refine aN 3 [0,5,6,7,8,9,17,18,19,20,114] rfl ?_;refine G.ret func41 rfl rfl ?_;have hbz:=bY s;exact⟨_,rfl,e02.trans eg,by rw[<-hbz];rfl⟩
       · rw[if_neg co];refine aB rfl ?_;refine bf func41 4 [0,5,6,7,8,9,17,18,19,20,114] rfl ?_;refine G.ret func41 rfl rfl ?_;exact⟨_,rfl,e02.trans eg,hol,_,rfl,kK.read how (fun _ _ k=>k)⟩
theorem Ek {out:List Un}{op:Bool}(h:lE s out op t= .er a e):e≠0:=by
 unfold lE at h;split at h
 · cases h;decide
 · split at h
   · split at h
     · cases h
     · split at h<;>cases h
   · split at h
     · cases h
     · split at h
       · cases h;decide
       · cases h
theorem yX {s:By}{a e:Int}:∀(l:List Tok) (out:List Un) (op:Bool),oO s l out op= .er a e->e≠0
 | [],_,_,h=>by cases h
 |t::l,out,op,h=>by
  rw[oO] at h;split at h
  · rename_i q;cases h;exact Ek q
  · exact yX l _ _ h
theorem CX {l:List Tok}{m:Int}(h:jH s l m= .inl (a,e)):e≠0:=by
 unfold jH at h;split at h
 · split at h
   · rename_i q;cases h;exact yX _ _ _ q
   · split at h
     · cases h;decide
     · cases h
 · cases h;decide
theorem EP {us:List Un}{b:Bool}{m:Int}{s:PS}(h:Np us i b m s):(b=false->s.len=us.length-i)/\(b=true->s= .bad m)/\s.dm=b:=by
 cases s with
 |ok r=>obtain⟨rfl,rfl⟩:=h;exact⟨fun _=>by simp[PS.len],fun k=>(by cases k),rfl⟩
 |bad k=>obtain⟨rfl,rfl⟩:=h;exact⟨fun k=>(by cases k),fun _=>rfl,rfl⟩
theorem yB {s:PS}(h:s.dm=true):s.len=0/\∀e,dM e s=s:=by cases s with|ok r=>cases h|bad m=>exact⟨rfl,fun _=>rfl⟩
theorem qU {l:List Tr}{s:PS} {y} (h:jN e n l s=some y) (h0:s.len=0):y=(l,s):=by
 cases n with
 |zero=>cases h
 |succ n=>rw[jN,if_pos h0] at h;exact(Option.some.inj h).symm
def No (c:PC) (hb g:aA) (kv:Value) (l:List Tr) (s:PS):Prop :=
 p8 c g s/\Ext (fun b=>b=c.pb) hb g/\dx eN (fun b=>b<hb.size) g hb.size 25 kv l
theorem dx.lower {α:Type}{e:gM α}{O:Nat->Prop}{h:aA}{base base':Nat}{t:TypeId}{v:Value}{xs:List α}(k:dx e O h base t v xs) (hb:base'<=base):dx e O h base' t v xs:=by
 obtain⟨css,h1,h2,h3⟩:=k;exact⟨css,h1,h2.lower hb,h3⟩
theorem AX (hg:qb h) (hv:bX Hq h (fun _=>False) v ts) (s:By) (st:uX) (hb:ts.length*(s.length+2)<=1000000000000) (hsl:s.length<=1000000000000)
 {k:List Tr}(hP:dO s ts st.1 k a e) :
 ah Tryz.prog 23 #[.string (bs s),v,.agg (cC st).toArray] h (cM fun r h'=>aC h h'/\∃lv,r=packed [lv,.int .i64 a,.int .i64 e]/\dx eN (fun b=>b<h.size) h' h.size 25 lv k):=by
 have hbz:=bY s;refine ah.of func23 rfl rfl ?_;refine xr func23 rfl ?_;refine xo rfl (az.eR rfl) ?_;rintro _ h1 ⟨rfl,k1,e1,z1⟩;have k1:bh h1 h.size 41 (cC st):=k1;have hun:=wI (hg.ax e1) (hv.ax e1) s st hb hsl
 rcases hU:jH s ts st.1 with ⟨a1,c1⟩|us
 · rw[hU] at hun;have hce:=CX hU
   obtain⟨rfl,rfl,rfl⟩:k=[]/\a=a1/\e=c1:=by
    cases hP with
    |units h=>rw[hU] at h;cases h;exact⟨rfl,rfl,rfl⟩
    |bad h _=>rw[hU] at h;cases h
    |ok h _=>rw[hU] at h;cases h
   refine aN 3 [0,1,2,5,6,7,8] rfl ?_;refine bl func23 2 rfl ?_;refine xp rfl (aj.aE H.ij H.eu rfl k1.row (by first|rfl|(simp;done)|(simp;omega))) ?_;refine xo rfl (aq (vs:=[_,_,_]) func41 rfl H.Kw rfl (ah.bq (hun))) ?_;rintro _ h2 ⟨e2,rfl⟩;refine aN 7 [0,1,2,5,6,7,8,9] rfl ?_;refine av rfl ?_;refine bf func23 2 [0,1,2,5,6,7,8,9,22] rfl ?_;refine aJ rfl rfl (fun _=>?_) (fun hc=>absurd hc (by simpa using hce));refine bf func23 5 [0,1,2,5,6,7,8,9,22] rfl ?_;refine G.ret func23 rfl rfl ?_;exact⟨_,rfl,e1.trans e2,_,rfl,dx.nil _ _ _ _ _⟩
 · rw[hU] at hun
   obtain⟨n,K,F,hm,hend⟩:∃n K F,jN s.length n [] (.ok us)=some (K,F)/\(∀m,F= .bad m->k=[]/\a=m/\e=10)/\(F.dm=false->k=K/\a=0/\e=0):=by
    cases hP with
    |units h=>rw[hU] at h;cases h
    |bad h h2=>rw[hU] at h;cases h;exact⟨_,_,_,h2,fun m q=>by cases q;exact⟨rfl,rfl,rfl⟩,fun q=>by cases q⟩
    |ok h h2=>rw[hU] at h;cases h;exact⟨_,_,_,h2,fun m q=>(by cases q),fun _=>⟨rfl,rfl,rfl⟩⟩
   refine aN 3 [0,1,2,5,6,7,8] rfl ?_;refine bl func23 2 rfl ?_;refine xp rfl (aj.aE H.ij H.eu rfl k1.row (by first|rfl|(simp;done)|(simp;omega))) ?_;refine xo rfl (aq (vs:=[_,_,_]) func41 rfl H.Kw rfl (ah.bq (hun))) ?_;rintro _ h2 ⟨e2,hu500,uv,rfl,huv⟩;refine aN 7 [0,1,2,5,6,7,8,9] rfl ?_;refine av rfl ?_;refine bf func23 2 [0,1,2,5,6,7,8,9,22] rfl ?_;refine aJ rfl rfl (fun hc=>absurd hc (by simp)) (fun _=>?_);obtain⟨ua,un,uc,rfl,huvs⟩:=huv.open;refine aB rfl ?_;refine bl func23 2 rfl ?_;refine xp rfl (aj.cw underlying9 rfl) ?_;refine xp rfl (aG (H.DX _ _ _ _) rfl) ?_;refine xo rfl (az.eR rfl) ?_;rintro _ h3 ⟨rfl,kp,e3,z3⟩;have kp:bh h3 h2.size 116 [.slice ua un uc,.int .i64 (0:Nat),.int .i64 (s.length:Nat),.bool false,.int .i64 0]:=by rw[hbz] at kp;exact kp
   have e13:aC h h3:=(e1.trans e2).trans e3;obtain⟨c,hc⟩:∃c:PC,c=⟨h2.size,.slice ua un uc,h3.size,us,s.length⟩:=⟨_,rfl⟩
   have hz13:=e13.size;have hz2:=e2.size;have hz1:=e1.size;have hpb:c.pb=h2.size:=by rw[hc]
   have hce:c.e=s.length:=by rw[hc]
   have hcu:c.us=us:=by rw[hc]
   have hst3:p8 c h3 (.ok us):=by
    rw[hc];exact⟨0,false,0,kp,huv.mv (Mv.cY e3 fun b hb _=>⟨fun k=>k,fun q=>by have:=e3.size;dsimp only at q;omega⟩),Nat.zero_le _,⟨rfl,rfl⟩,by show h2.size<h3.size;omega,Nat.le_refl _,by show us.length<=1000;omega⟩
   rw[<-hce] at hm;have hI3:No c h3 h3 (.slice none 0 0) [] (.ok us):=⟨hst3,Ext.refl _ _,dx.nil _ _ _ _ _⟩
   rw[<-hpb];refine aN 1 [0,1,2,5,6,7,8,9,10,22] rfl ?_;refine av rfl ?_;refine G.block rfl rfl ?_;refine bO (σ:=Nat×List Tr×Value×PS) (fun w=>[(6,w.2.2.1),(10,ptr c.pb)]) (fun w g=>No c h3 g w.2.2.1 w.2.1 w.2.2.2/\(w.2.2.2.dm=true->w.2.2.2=F)/\(w.2.2.2.dm=false->jN c.e w.1 w.2.1 w.2.2.2=some (K,F)/\w.2.1.length+w.2.2.2.len<=us.length)) (fun w=>w.1) ((n,[],.slice none 0 0,.ok us)) rfl ⟨rfl,rfl,trivial⟩ ⟨hI3,fun q=>(by cases q),fun _=>⟨hm,by simp[PS.len]⟩⟩ ?_;rintro⟨m,l,kv,sI⟩ g ⟨⟨hst,xg,how⟩,hbad,hok⟩ ih
   try dsimp only
   dsimp only at hst how hbad hok;obtain⟨pi,pbb,pm,pk,psl,pil,ps,_⟩:=id hst;obtain⟨Kg,Kf,LZ⟩:=EP ps;rw[hcu] at Kg;have hpil:pi<=us.length:=by rw[<-hcu];exact pil
   have hlv:c.lv= .slice ua us.length uc:=by rw[hc];have:=huvs.len;subst this;rfl
   rw[hlv] at pk;have hsize:c.pb<h3.size:=by rw[hpb];omega
   have how0:aT g h3.size 25 3 kv l.length _:=(how.own).choose_spec;obtain⟨ka,kc,rfl,_⟩:=how0.open;have kown:∀b,(Value.slice ka l.length kc).ownBlock=some b->h3.size<=b/\b<g.size:=fun b q=>how0.lt q
   refine av rfl ?_;refine av rfl ?_;refine G.yb [(46,.bool (decide (sI.len≠0)))] [(6,_),(10,_)] ⟨rfl,rfl,trivial⟩ (fun b=>Array.size g<=b) (fun i=>Nat.blt i 17) (sz:=17) (listed:= #[false,false,false,false,false,false,false,false,false,false,false,false,false,false,false,false,false]) func23 H.mixed rfl rfl rfl ?_ ?_
   · refine cu 0 1 (by kernel_rfl) rfl ?_;refine cu 1 3 (by kernel_rfl) rfl ?_;refine bP 2 7 (by kernel_rfl) rfl (fun h' e=>af (off:=1) underlying116 rfl rfl H.bV rfl) ?_;refine bP 3 15 (by kernel_rfl) rfl (fun h' e=>ai H.cK rfl (e.old (pk.cell (i:=1) rfl))) ?_;refine cu 4 31 (by kernel_rfl) rfl ?_;refine cu 5 63 (by kernel_rfl) rfl ?_;refine bP 6 127 (by kernel_rfl) rfl (fun h' e=>af (off:=0) underlying116 rfl rfl H.iA rfl) ?_;refine bP 7 255 (by kernel_rfl) rfl (fun h' e=>ai H.iE rfl (e.old (pk.cell (i:=0) rfl))) ?_;refine bP 8 511 (by kernel_rfl) rfl (fun h' e=>aj.aS underlying111 rfl) ?_;refine cu 9 1023 (by kernel_rfl) rfl ?_;refine cu 10 2047 (by kernel_rfl) rfl ?_;refine AP (d:=40) rfl (fun g1=>?_) (fun g1=>?_)
     · have g1:=of_decide_eq_true g1;refine cu 11 4095 (by kernel_rfl) rfl ?_;refine cu 12 8191 (by kernel_rfl) rfl ?_;refine bP 13 16383 (by kernel_rfl) rfl (fun h' e=>af (off:=3) underlying116 rfl rfl H.lN rfl) ?_;refine bP 14 32767 (by kernel_rfl) rfl (fun h' e=>ai H.uJ rfl (e.old (pk.cell (i:=3) rfl))) ?_;refine cu 15 65535 (by kernel_rfl) rfl ?_;refine cu 16 131071 (by kernel_rfl) rfl ?_;refine bu (by kernel_rfl) ?_;exact⟨rfl,aF rfl (by cases pbb with|true=>rw[Kf rfl];rfl|false=>rw[Kg rfl,decide_eq_true (by omega)];rfl),rfl,rfl,trivial⟩
     · have g1:=of_decide_eq_false g1;refine AV 11 4095 (by kernel_rfl) rfl ?_;refine AV 12 8191 (by kernel_rfl) rfl ?_;refine AV 13 16383 (by kernel_rfl) rfl ?_;refine AV 14 32767 (by kernel_rfl) rfl ?_;refine AV 15 65535 (by kernel_rfl) rfl ?_;refine cu 16 131071 (by kernel_rfl) rfl ?_;refine bu (by kernel_rfl) ?_;exact⟨rfl,aF rfl (by cases pbb with|true=>rw[Kf rfl];rfl|false=>rw[Kg rfl,decide_eq_false (by omega)]),rfl,rfl,trivial⟩
   · refine aM rfl rfl (fun hgo=>?_) (fun hgo=>?_)
     · obtain⟨r,hr⟩:∃r,sI= .ok r:=by cases sI with|ok r=>exact⟨r,rfl⟩|bad q=>exact absurd rfl hgo
       obtain⟨hm,hll⟩:=hok (by rw[hr];rfl);obtain⟨m,rfl⟩:∃m',m=m'+1:=by cases m with|zero=>cases hm|succ m=>exact⟨m,rfl⟩
       rw[jN,if_neg hgo] at hm
       rcases hv1:pM c.e m .stmt sI with _|⟨tv,s2⟩
       rw[hv1] at hm;cases hm;rw[hv1] at hm;simp only[Option.bind_some] at hm;have hvl:=EU hv1;refine aB rfl ?_;refine G.block rfl rfl ?_;refine bl func23 2 rfl ?_;refine xo rfl (aq (vs:=[_]) func42 rfl H.Kv rfl (ah.bq ((GN m).stmt _ _ _ _ _ hst hv1))) ?_;rintro r6 h6 ⟨y6,hp6,t6,hn6,ht6⟩;have z6:=y6.size;obtain⟨mk,mt,ma,mn,mc,rfl,hr6⟩:=hn6.get;have ho6:=how.qd y6 (fun b q q2=>by have:=kown b q;omega) (fun b hb q=>by omega) (fun _ _ q=>q);obtain⟨css,hc1,hc2,hc3⟩:=id ho6;refine xo rfl (az.cE (cs:=[_,_,_]) underlying23 H.kZ rfl rfl (by decide)) ?_;rintro _ _ ⟨rfl,rfl⟩;refine xo rfl (az.bU underlying23 H.kZ rfl rfl (hc2) rfl rfl (by first|decide|simp[Value.oneCell']) (by omega) (by decide) (by omega)) ?_;rintro v7 h7 ⟨ho7,hx7,hx7',hv7⟩;have z7:=hx7.size
       have hr6':eN.R h6 (fun b=>cV (Value.slice ka l.length kc).ownBlock b\/b<h3.size) [.int .i64 mk,.string (bs mt),.slice ma mn mc] t6:=cy hr6 (Ext.refl (fun _=>False) _) (fun b hb q=>⟨fun k=>k,fun q2=>by
        rcases q2 with q2|q2
        · have:=kown _ q2.symm;omega
        · have:=xg.size;omega⟩)
       have ho7x:dx eN (fun b=>b<h3.size) h7 h3.size 25 v7 (l++[t6]):=dx.gz hc1 hc3 ho7 hx7 hv7 hr6';have hst7:p8 c h7 s2:=hp6.ext hx7 (fun b hb q=>by have:=kown _ q.symm;rw[hc] at hb;dsimp only at hb;omega);have x7:Ext (fun b=>b=c.pb) h3 h7:=(xg.trans y6).ct hx7 (fun i hi q=>by have:=kown _ q.symm;omega);refine aN 1 [6,10,46] rfl ?_;refine bl func23 1 rfl ?_;refine xo rfl (az.bg (us:=[_]) underlying87 H.rO rfl rfl (by decide) (by simp[Value.oneCell'])) ?_;rintro _ w9 ⟨rfl,hw9⟩;have y9:aC h7 w9:=by rw[hw9];exact Ext.push _ _ _
       have ts9:bX ny w9 (fun _=>False) (.slice (some ⟨Array.size h7,0,none⟩) 1 1) [[59]]:=by rw[hw9];exact cg _ [[59]] _ rfl (by simp[maxLen]) rfl
       refine xo rfl (aq (vs:=[_,_,_]) func43 rfl H.iZ rfl (ah.bq (b9 ((hst7).ax y9) 6 ts9))) ?_;rintro _ h9 ⟨rfl,hp9,x9⟩;have x9:=y9.of.trans x9
       rcases hq9:dL 6 [[59]] s2 with ⟨o9,s9⟩
       rw[hq9] at hp9 hm;have hp9:p8 c h9 s9:=hp9;have how9:=ho7x.qd x9 (fun b q q2=>by have:=ho7.lt q;omega) (fun b hb q=>by omega) (fun _ _ q=>q);have x39:=x7.trans x9;have hgood:∀sN:PS,(sN.dm=false->s9.dm=false)->sN.dm=false->t6=tv:=fun sN q1 q2=>ht6 (cx hq9 (q1 q2))
       have hfinB:∀sN:PS,jN c.e m (l++[tv]) sN=some (K,F)->sN.dm=true->sN=F:=fun sN q1 q2=>by have:=qU q1 (yB q2).1;cases this;rfl
       rcases o9 with _|w9
       · simp only at hm;have e9:=eD hq9;obtain⟨qi,qbb,qm,qk,qsl,qil,qs,_⟩:=(show p8 c h9 s9 from hp9)
         obtain⟨ql1,ql2,ql3⟩:=EP qs;rw[hcu] at ql1;rw[hlv] at qk;refine aN 5 [6,10,12,46] rfl ?_;refine av rfl ?_;refine G.yb [(71,.bool (decide (qi<us.length)))] [(6,_),(10,_),(12,_),(46,_)] ⟨rfl,rfl,rfl,rfl,trivial⟩ (fun b=>Array.size h9<=b) (fun i=>Nat.blt i 14) (sz:=14) (listed:= #[false,false,false,false,false,false,false,false,false,false,false,false,false,false]) func23 H.mixed rfl rfl rfl ?_ ?_
         · refine cu 0 1 (by kernel_rfl) rfl ?_;refine cu 1 3 (by kernel_rfl) rfl ?_;refine cu 2 7 (by kernel_rfl) rfl ?_;refine RD.cS (d:=60) (b':=true) rfl (rfl) ?_;refine cu 3 15 (by kernel_rfl) rfl ?_;refine cu 4 31 (by kernel_rfl) rfl ?_;refine bP 5 63 (by kernel_rfl) rfl (fun h' e=>af (off:=1) underlying116 rfl rfl H.bV rfl) ?_;refine bP 6 127 (by kernel_rfl) rfl (fun h' e=>ai H.cK rfl (e.old (qk.cell (i:=1) rfl))) ?_;refine cu 7 255 (by kernel_rfl) rfl ?_;refine cu 8 511 (by kernel_rfl) rfl ?_;refine bP 9 1023 (by kernel_rfl) rfl (fun h' e=>af (off:=0) underlying116 rfl rfl H.iA rfl) ?_;refine bP 10 2047 (by kernel_rfl) rfl (fun h' e=>ai H.iE rfl (e.old (qk.cell (i:=0) rfl))) ?_;refine bP 11 4095 (by kernel_rfl) rfl (fun h' e=>aj.aS underlying111 rfl) ?_;refine cu 12 8191 (by kernel_rfl) rfl ?_;refine cu 13 16383 (by kernel_rfl) rfl ?_;refine bu (by kernel_rfl) ?_;exact⟨rfl,aF rfl (by rw[decide_eq_decide];omega),rfl,rfl,rfl,rfl,trivial⟩
         · refine aM rfl rfl (fun hgo2=>?_) (fun hgo2=>?_)
           · have hsN:(if s9.len=0 then s9 else dM c.e s9)=dM c.e s9:=by
              split
              · rename_i q;cases qbb with
                |true=>exact((yB ql3).2 _).symm
                |false=>have:=ql1 rfl;omega
              · rfl
             rw[hsN] at hm;have hfb:(dM c.e s9).dm=true:=by obtain⟨q,hq⟩:=wA c.e s9;rw[hq];rfl
             refine G.cz func23 rfl ?_;refine aV 1 rfl ?_;refine xo rfl (aq (vs:=[_]) func44 rfl H.vq rfl (ah.bq (eH hp9))) ?_;rintro _ h10 ⟨rfl,hp10,x10⟩;have how10:=how9.qd x10 (fun b q q2=>by have:=ho7.lt q;omega) (fun b hb q=>by omega) (fun _ _ q=>q);refine xd [6,10,12,46,71] rfl ?_;refine G.aR ?_;exact ih (m,l++[t6],v7,dM c.e s9) _ _ ⟨rfl,rfl,trivial⟩ ⟨⟨hp10,x39.trans x10,how10⟩,fun q=>hfinB _ hm q,fun q=>(by have q:(dM c.e s9).dm=false:=q;rw[hfb] at q;cases q)⟩ (Nat.lt_succ_self _)
           · have hs0:s9.len=0:=by
              cases qbb with
              |true=>exact(yB ql3).1
              |false=>have:=ql1 rfl;omega
             rw[if_pos hs0] at hm;refine aB rfl ?_;refine G.aR ?_;exact ih (m,l++[t6],v7,s9) _ _ ⟨rfl,rfl,trivial⟩ ⟨⟨hp9,x39,how9⟩,fun q=>hfinB _ hm q,fun q=>⟨by dsimp only;rw[hgood s9 id q];exact hm,by dsimp only;rw[List.length_append,List.length_singleton,hs0];omega⟩⟩ (Nat.lt_succ_self _)
       · simp only at hm;have hl9:=pI hq9;refine aN 5 [6,10,12,46] rfl ?_;refine av rfl ?_;refine G.yb [(71,.bool false)] [(6,_),(10,_),(12,_),(46,_)] ⟨rfl,rfl,rfl,rfl,trivial⟩ (fun b=>Array.size h9<=b) (fun i=>Nat.blt i 14) (sz:=14) (listed:= #[false,false,false,false,false,false,false,false,false,false,false,false,false,false]) func23 H.mixed rfl rfl rfl ?_ ?_
         · refine cu 0 1 (by kernel_rfl) rfl ?_;refine cu 1 3 (by kernel_rfl) rfl ?_;refine cu 2 7 (by kernel_rfl) rfl ?_;refine RD.cS (d:=60) (b':=false) rfl (rfl) ?_;refine AV 3 15 (by kernel_rfl) rfl ?_;refine AV 4 31 (by kernel_rfl) rfl ?_;refine AV 5 63 (by kernel_rfl) rfl ?_;refine AV 6 127 (by kernel_rfl) rfl ?_;refine AV 7 255 (by kernel_rfl) rfl ?_;refine AV 8 511 (by kernel_rfl) rfl ?_;refine AV 9 1023 (by kernel_rfl) rfl ?_;refine AV 10 2047 (by kernel_rfl) rfl ?_;refine AV 11 4095 (by kernel_rfl) rfl ?_;refine AV 12 8191 (by kernel_rfl) rfl ?_;refine cu 13 16383 (by kernel_rfl) rfl ?_;refine bu (by kernel_rfl) ?_;exact⟨rfl,aF rfl (rfl),rfl,rfl,rfl,rfl,trivial⟩
         · refine aJ rfl rfl (fun hc=>absurd hc (by simp)) (fun _=>?_);refine aB rfl ?_;refine G.aR ?_;exact ih (m,l++[t6],v7,s9) _ _ ⟨rfl,rfl,trivial⟩ ⟨⟨hp9,x39,how9⟩,fun q=>hfinB _ hm q,fun q=>⟨by dsimp only;rw[hgood s9 id q];exact hm,by dsimp only;rw[List.length_append,List.length_singleton];omega⟩⟩ (Nat.lt_succ_self _)
     · have h0:sI.len=0:=by simpa using hgo
       refine bD rfl rfl ?_;refine av rfl ?_;refine bl func23 2 rfl ?_;refine xp rfl (af (off:=3) underlying116 rfl rfl H.lN rfl) ?_;refine xp rfl (ai H.uJ rfl (pk.cell (i:=3) rfl)) ?_;refine xd [6,10,46,77] rfl ?_
       rcases pbb with _|_
       · refine aJ rfl rfl (fun hc=>absurd hc (by simp)) (fun _=>?_);obtain⟨r,hr⟩:∃r,sI= .ok r:=by cases sI with|ok r=>exact⟨r,rfl⟩|bad q=>cases LZ
         obtain⟨hm,hll⟩:=hok (by rw[hr];rfl);have hz:=qU hm h0;obtain⟨rfl,rfl,rfl⟩:=hend.2 (by cases hz;rw[hr];rfl);have hKl:k=l:=by cases hz;rfl
         refine aB rfl ?_;refine bf func23 4 [6,7,8,10,46,77] rfl ?_;refine G.ret func23 rfl rfl ?_;exact⟨_,rfl,aC.only e13 xg (by omega),_,rfl,by rw[hKl];exact(dx.lower how (by omega)).qd (Ext.refl (fun _=>False) _) (fun _ _ q=>q) (fun _ _ q=>q.elim) (fun b hb q=>by omega)⟩
       · have hF:F= .bad pm:=by rw[<-hbad LZ];exact Kf rfl
         obtain⟨rfl,rfl,rfl⟩:=hend.1 pm hF;refine aJ rfl rfl (fun _=>?_) (fun hc=>absurd hc (by simp));refine av rfl ?_;refine G.gF func23 H.mixed rfl (by kernel_rfl) ?_;refine RQ.ay rfl rfl rfl rfl (aP rfl) ?_;refine RQ.ay rfl rfl rfl rfl (aO rfl) ?_;refine RQ.ay rfl rfl rfl rfl (af (off:=4) underlying116 rfl rfl H.bV rfl) ?_;refine RQ.ay rfl rfl rfl rfl (ai H.cK rfl (pk.cell (i:=4) rfl)) ?_;refine RQ.ay rfl rfl rfl rfl (aj.assign rfl) ?_;refine RQ.ay rfl rfl rfl rfl (aj.assign rfl) ?_;refine RQ.ay rfl rfl rfl rfl (aj.assign rfl) ?_;refine dw rfl ?_;refine xu [6,7,8,10,46,77] rfl ?_;refine G.ret func23 rfl rfl ?_;exact⟨_,rfl,aC.only e13 xg (by omega),_,rfl,dx.nil _ _ _ _ _⟩
theorem oL (hg:qb h) (hv:bX Hq h (fun _=>False) v ts) (s:By) (st:uX) (hb:ts.length*(s.length+2)<=1000000000000) (hsl:s.length<=1000000000000)
 {k:List Tr}(hP:dO s ts st.1 k a e) :
 ah Tryz.prog 23 #[.string (bs s),v,.agg (cC st).toArray] h (cM fun r h'=>aC h h'/\∃lv,r=packed [lv,.int .i64 a,.int .i64 e]/\bX eN h' (fun b=>b<h.size) lv k) :=
 (AX hg hv s st hb hsl hP).ret fun _ _ ⟨e1,lv,h1,h2⟩=>⟨e1,lv,h1,h2.read (fun _ hb q=>Nat.not_lt.2 hb q) (fun _ _ q=>q)⟩
theorem Av {h':aA}{O2:Nat->Prop}{cs:List Value}(q:eV.R h O cs x) (e:aC h h') (hO:∀b,b<h.size->O2 b->O b):eV.R h' O2 cs x :=
 eV.mv q ⟨e.size,fun b hb hn=>⟨e.block b hb (fun k=>k),fun k=>hn (hO b hb k)⟩⟩
theorem iR {xs:List Bd}(hv:bX eB h O v xs) (hx:xs.length<=1000000) (t:By) (hw:dz h O w x) :
 ah Tryz.prog 118 #[v,.string (bs t),w] h (cM fun r h'=>dx eB O h' h.size 54 r (xs++[(t,x)])/\aC h h'):=by
 obtain⟨nk,nt,a,n,c,ea,en,ec,rfl,hb,hR,he⟩:=dz.get hw;refine ah.of func118 rfl rfl ?_;refine xr func118 rfl ?_;refine xo rfl (az.eR rfl) ?_;rintro _ h1 ⟨rfl,k1,e1,z1⟩;have k1:bh h1 h.size 52 (kI x.kind x.num x.iu x.self nk nt a n c ea en ec):=k1;have hcl:=lp (hv.ax e1) hx;refine aN 1 [0,1,2,5,6] rfl ?_;refine av rfl ?_;refine bQ (fun b=>Array.size h1<=b) (fun i=>Nat.blt i 8) (sz:=8) (listed:= #[false,false,false,false,false,false,false,false]) func118 H.mixed rfl rfl rfl ?_;refine cu 0 1 (by kernel_rfl) rfl ?_;refine cu 2 5 (by kernel_rfl) rfl ?_;refine bP 3 13 (by kernel_rfl) rfl (fun h' e=>aj.aE H.bR H.aW rfl (e.EZ k1.row) (by first|rfl|(simp;done)|(simp;omega))) ?_;refine bP 4 29 (by kernel_rfl) rfl (fun h' e=>aG (H.uD _ _ _ _ _ _ _ _ _) rfl) ?_;refine RD.J4 1 5 (li:= #[true,true,true,true,true,false,false,false]) (lj:= #[true,false,true,true,true,true,false,false]) rfl rfl (by kernel_rfl) rfl rfl rfl rfl rfl rfl (aq (vs:=[_]) func72 rfl H.Jn rfl (ah.bq (hcl))) (az.cE (cs:=[_,_,_,_,_,_,_,_,_]) underlying50 H.BI rfl rfl (by decide)) (by kernel_rfl) (by kernel_rfl) ?_ ?_
 · rintro v2 h2 ⟨ho2,e2⟩;refine⟨fun _=>e2.of,?_⟩;obtain⟨css,hc1,hc2,hc3⟩:=id ho2;have hz2:=e2.size;refine dZ 5 63 (by kernel_rfl) rfl (az.cE (cs:=[_,_,_,_,_,_,_,_,_]) underlying50 H.BI rfl rfl (by decide)) ?_;rintro _ _ ⟨rfl,rfl⟩;refine⟨fun _=>by first|exact Ext.push _ _ _|assumption,?_⟩;refine dZ 6 127 (by kernel_rfl) rfl (az.bU underlying50 H.BI rfl rfl (hc2) rfl rfl (by first|decide|simp[Value.oneCell']) (by omega) (by decide) (by have:=e2.size;omega)) ?_;rintro v3 h3 ⟨ho3,hx3,hx3',hv3⟩;refine⟨fun _=>hx3'.mono (fun b _ q=>(hc2.lt q.symm).1),?_⟩;refine cu 7 255 (by kernel_rfl) rfl ?_;refine bu (by kernel_rfl) ?_;refine xu [0,1,2,5,6] rfl ?_;refine G.ret func118 rfl rfl ?_;have e12:=e1.trans e2;have hy:eB.R h2 (fun b=>cV v2.ownBlock b\/O b) (.string (bs t)::kI x.kind x.num x.iu x.self nk nt a n c ea en ec) (t,x):=⟨_,rfl,Av hR e12 (fun b hb q=>q.elim (fun q=>by have:=(hc2.lt q.symm).1;omega) id)⟩
   have hP:=dx.gz hc1 hc3 ho3 hx3 hv3 hy;exact⟨_,rfl,dx.lower hP (by omega),⟨by have:=hx3.size;have:=e12.size;omega,fun b hb _=>(hx3.block b (by have:=e12.size;omega) (fun q=>by have:=(hc2.lt q.symm).1;omega)).trans (e12.block b hb (fun k=>k))⟩⟩
 · rintro _ h2 ⟨rfl,hh2⟩;refine⟨fun _=>(by rw[hh2];exact Ext.push _ _ _),?_⟩;have e2:aC h1 h2:=by rw[hh2];exact Ext.push _ _ _
   have z2:h2.size=h1.size+1:=by rw[hh2];simp
   have hrow:Lw.rowAt h2 h1.size 0 (.string (bs t)::kI x.kind x.num x.iu x.self nk nt a n c ea en ec):=by rw[hh2];exact lU _ _ _
   have e12:=e1.trans e2;refine dZ 1 63 (by kernel_rfl) rfl (aq (vs:=[_]) func72 rfl H.Jn rfl (ah.bq (lp (hv.ax e12) hx))) ?_;rintro v3 h3 ⟨ho3,e3⟩;refine⟨fun _=>e3.of,?_⟩;obtain⟨css,hc1,hc2,hc3⟩:=id ho3;have e13:=e12.trans e3;refine dZ 6 127 (by kernel_rfl) rfl (az.append underlying50 H.BI rfl rfl hc2 rfl (.inr ⟨_,_,rfl,e3.rowAt (fun k=>k) hrow⟩) (by simp[Value.oneCell']) (by simp only[maxLen];omega) (by omega) e3.size) ?_;rintro v4 h4 ⟨ho4,hx4,_,hv4⟩;refine⟨fun _=>hx4.mono (fun b _ q=>by have:=(hc2.lt q.symm).1;omega),?_⟩;refine cu 7 255 (by kernel_rfl) rfl ?_;refine bu (by kernel_rfl) ?_;refine xu [0,1,2,5,6] rfl ?_;refine G.ret func118 rfl rfl ?_;have hy:eB.R h3 (fun b=>cV v3.ownBlock b\/O b) (.string (bs t)::kI x.kind x.num x.iu x.self nk nt a n c ea en ec) (t,x):=⟨_,rfl,Av hR e13 (fun b hb q=>q.elim (fun q=>by have:=(hc2.lt q.symm).1;omega) id)⟩
   have hP:=dx.gz hc1 hc3 ho4 hx4 hv4 hy;exact⟨_,rfl,dx.lower hP (by have:=e2.size;omega),⟨by have:=hx4.size;have:=e13.size;omega,fun b hb _=>(hx4.block b (by have:=e13.size;omega) (fun q=>by have:=(hc2.lt q.symm).1;omega)).trans (e13.block b hb (fun k=>k))⟩⟩
theorem vR (hw:dz h O w x) (t:By) :
 ah Tryz.prog 117 #[w,.string (bs t)] h (cM fun r h'=>dz h' O r (lZ x t)/\aC h h'):=by
 obtain⟨nk,nt,a,n,c,ea,en,ec,rfl,hb,hR,he⟩:=dz.get hw;obtain⟨k,m,s,f,b,e⟩:=x;dsimp only[Vl.kind,Vl.num,Vl.iu,Vl.self,Vl.body,Vl.env] at hR ⊢;refine ah.of func117 rfl rfl ?_;refine xr func117 rfl ?_;refine xo rfl (az.eR rfl) ?_;rintro _ h1 ⟨rfl,k1,e1,z1⟩;refine xo rfl (az.aQ H.gw) ?_;rintro _ h2 ⟨rfl,k2,e2,z2⟩;have k1:bh h2 h.size 52 (kI k m s f nk nt a n c ea en ec):=k1.ax e2;have e12:=e1.trans e2;refine xd [0,1,2,4] rfl ?_;refine av rfl ?_;refine av rfl ?_;refine G.bw [(12,.bool (decide (k=4/\f=[])))] [(0,_),(1,_),(2,_),(4,_)] ⟨rfl,rfl,rfl,rfl,trivial⟩ func117 rfl ?_ ?_
 · refine xp rfl (af (off:=0) underlying52 rfl rfl H.bV rfl) ?_;refine xp rfl (ai H.cK rfl (k1.cell (i:=0) rfl)) ?_;refine aV 2 rfl ?_;refine aL (d:=8) rfl (fun p=>?_) (fun p=>?_)
   · have p:=of_decide_eq_true p;refine xp rfl (af (off:=3) underlying52 rfl rfl H.eG rfl) ?_;refine xp rfl (ai H.fu rfl (k1.cell (i:=3) rfl)) ?_;refine xp rfl (aj.bS rfl rfl) ?_;refine aV 1 rfl ?_;refine aD rfl ?_;exact⟨rfl,aF rfl (by rw[decide_eq_decide];exact⟨fun q=>⟨p,bZ (m:=[]) q⟩,fun q=>by rw[q.2];rfl⟩),rfl,rfl,rfl,rfl,trivial⟩
   · have p:=of_decide_eq_false p;refine aV 4 rfl ?_;refine aD rfl ?_;exact⟨rfl,aF rfl (by rw[decide_eq_false (fun q=>p q.1)]),rfl,rfl,rfl,rfl,trivial⟩
 · refine aJ rfl rfl (fun hc=>?_) (fun hc=>?_)
   · have hc:=of_decide_eq_true hc;refine G.cz func117 rfl ?_;refine cI 1 rfl rfl (af (off:=3) underlying52 rfl rfl H.eG rfl) ?_;refine RW.bB rfl rfl rfl (az.bA H.eG rfl rfl k1 (by first|decide|exact of_decide_eq_true rfl|(simp;done)|(simp;omega)) rfl) ?_;rintro _ h3 ⟨rfl,k3,x3,z3⟩;have k3:bh h3 h.size 52 (kI k m s t nk nt a n c ea en ec):=k3;have e3:aC h h3:=aC.only e12 x3 (Nat.le_refl _);refine xd [0,1,2,4,12] rfl ?_;refine xr func117 rfl ?_;refine xp rfl (aj.aE H.bR H.aW rfl k3.row (by first|rfl|(simp;done)|(simp;omega))) ?_;refine RW.bB rfl rfl rfl (az.au H.aW rfl rfl (k2.ext x3 (by omega)) (by first|rfl|(simp;done)|(simp;omega)) (by first|decide|exact of_decide_eq_true rfl|(simp;done)|(simp;omega)) (gm)) ?_;rintro _ h4 ⟨rfl,k4,x4,z4⟩;refine xd [0,1,2,4,12] rfl ?_;refine G.br func117 rfl (.cons (aI.bp H.bR H.aW rfl (k4.row) (by first|rfl|(simp;done)|(simp;omega))) (.nil)) ?_;have e4:aC h h4:=aC.only e3 x4 (by omega);refine⟨_,rfl,?_,e4⟩;have:lZ (.mk k m s f b e) t= .mk k m s t b e:=if_pos hc;rw[this];exact dz.of (Jh (Av hR e4 fun _ _ q=>q) t)
   · have hc:=of_decide_eq_false hc;refine aB rfl ?_;refine xr func117 rfl ?_;refine xp rfl (aj.aE H.bR H.aW rfl k1.row (by first|rfl|(simp;done)|(simp;omega))) ?_;refine RW.bB rfl rfl rfl (az.au H.aW rfl rfl k2 (by first|rfl|(simp;done)|(simp;omega)) (by first|decide|exact of_decide_eq_true rfl|(simp;done)|(simp;omega)) (gm)) ?_;rintro _ h4 ⟨rfl,k4,x4,z4⟩;refine xd [0,1,2,4,12] rfl ?_;refine G.br func117 rfl (.cons (aI.bp H.bR H.aW rfl (k4.row) (by first|rfl|(simp;done)|(simp;omega))) (.nil)) ?_;have e4:aC h h4:=aC.only e12 x4 (by omega);refine⟨_,rfl,?_,e4⟩;have:lZ (.mk k m s f b e) t= .mk k m s f b e:=if_neg hc;rw[this];exact dz.of (Av hR e4 fun _ _ q=>q)
theorem yY (hw:dz h O w x) (op:By) :
 ah Tryz.prog 77 #[.string (bs op),w] h (cM fun r h'=>∃v,r=packed [v,.int .i64 (GG op x).2]/\dz h' O v (GG op x).1/\aC h h'):=by
 obtain⟨nk,nt,a,n,c,ea,en,ec,rfl,hb,hR,he⟩:=dz.get hw;refine ah.of func77 rfl rfl ?_;refine xr func77 rfl ?_;refine xo rfl (az.eR rfl) ?_;rintro _ h1 ⟨rfl,k1,e1,z1⟩;refine xo rfl (az.aQ H.gw) ?_;rintro _ h2 ⟨rfl,k2,e2,z2⟩;have k1:bh h2 h.size 52 (kI x.kind x.num x.iu x.self nk nt a n c ea en ec):=k1.ax e2;have e12:=e1.trans e2;refine aN 1 [0,1,3,4,5] rfl ?_;refine av rfl ?_;refine G.block rfl rfl ?_;refine av rfl ?_;refine G.bw [(6,.bool (decide (op=lQ/\x.kind=2)))] [(0,_),(1,_),(3,_),(4,_),(5,_)] ⟨rfl,rfl,rfl,rfl,rfl,trivial⟩ func77 rfl ?_ ?_
 · refine cI 1 rfl rfl (aj.bS rfl rfl) ?_;refine aV 1 rfl ?_;refine aL (d:=9) rfl (fun p1=>?_) (fun p1=>?_)
   · have p1:op=lQ:=bZ (of_decide_eq_true p1);refine xp rfl (af (off:=0) underlying52 rfl rfl H.bV rfl) ?_;refine xp rfl (ai H.cK rfl (k1.cell (i:=0) rfl)) ?_;refine aV 3 rfl ?_;refine aD rfl ?_;exact⟨rfl,aF rfl (by rw[decide_eq_decide];exact⟨fun q=>⟨p1,q⟩,fun q=>q.2⟩),rfl,rfl,rfl,rfl,rfl,trivial⟩
   · have p1:¬op=lQ:=fun q=>of_decide_eq_false p1 (by rw[q];rfl)
     refine aV 5 rfl ?_;refine aD rfl ?_;exact⟨rfl,aF rfl (by rw[decide_eq_false (fun q=>p1 q.1)]),rfl,rfl,rfl,rfl,rfl,trivial⟩
 · refine aJ rfl rfl (fun hc=>?_) (fun hc=>?_)
   · have hc:=of_decide_eq_true hc;refine xr func77 rfl ?_;refine xp rfl (af (off:=1) underlying52 rfl rfl H.Cb rfl) ?_;refine xp rfl (ai H.CL rfl (k1.cell (i:=1) rfl)) ?_;refine aV 1 rfl ?_;refine xo rfl (aq (vs:=[_]) func70 rfl H.vp rfl (ah.bq (dG _))) ?_;rintro _ h3 ⟨rfl,e3⟩;refine RW.bB rfl rfl rfl (az.au H.aW rfl rfl (k2.ax e3) (by first|rfl|(simp;done)|(simp;omega)) (by first|decide|exact of_decide_eq_true rfl|(simp;done)|(simp;omega)) (gm)) ?_;rintro _ h4 ⟨rfl,k4,x4,z4⟩;refine aN 1 [0,1,3,4,5,6] rfl ?_;refine G.br func77 rfl (.cons (aI.bp H.bR H.aW rfl (k4.row) (by first|rfl|(simp;done)|(simp;omega))) (.cons (aI.tmp rfl) (.nil))) ?_;have hu:GG op x=(dA (decide (x.num=0)),0):=if_pos hc;rw[hu];exact⟨_,rfl,_,rfl,nB _ _ _,aC.only (e12.trans e3) x4 (by omega)⟩
   · have hc:=of_decide_eq_false hc;refine av rfl ?_;refine G.bw [(18,.bool (decide (op=[45]/\x.kind=1/\x.num≠ -9223372036854775808)))] [(0,_),(1,_),(3,_),(4,_),(5,_),(6,_)] ⟨rfl,rfl,rfl,rfl,rfl,rfl,trivial⟩ func77 rfl ?_ ?_
     · refine cI 1 rfl rfl (aj.bS rfl rfl) ?_;refine aV 1 rfl ?_;refine aL (d:=21) rfl (fun p1=>?_) (fun p1=>?_)
       · have p1:op=[45]:=bZ (of_decide_eq_true p1);refine xp rfl (af (off:=0) underlying52 rfl rfl H.bV rfl) ?_;refine xp rfl (ai H.cK rfl (k1.cell (i:=0) rfl)) ?_;refine aV 3 rfl ?_;refine aL (d:=26) rfl (fun p2=>?_) (fun p2=>?_)
         · have p2:=of_decide_eq_true p2;refine xp rfl (af (off:=1) underlying52 rfl rfl H.Cb rfl) ?_;refine xp rfl (ai H.CL rfl (k1.cell (i:=1) rfl)) ?_;refine aV 3 rfl ?_;refine aD rfl ?_;exact⟨rfl,aF rfl (by rw[decide_eq_decide];exact⟨fun q=>⟨p1,p2,q⟩,fun q=>q.2.2⟩),rfl,rfl,rfl,rfl,rfl,rfl,trivial⟩
         · have p2:=of_decide_eq_false p2;refine aV 5 rfl ?_;refine aD rfl ?_;exact⟨rfl,aF rfl (by rw[decide_eq_false (fun q=>p2 q.2.1)]),rfl,rfl,rfl,rfl,rfl,rfl,trivial⟩
       · have p1:¬op=[45]:=fun q=>of_decide_eq_false p1 (by rw[q];rfl)
         refine aV 10 rfl ?_;refine aD rfl ?_;exact⟨rfl,aF rfl (by rw[decide_eq_false (fun q=>p1 q.1)]),rfl,rfl,rfl,rfl,rfl,rfl,trivial⟩
     · refine aJ rfl rfl (fun hd=>?_) (fun hd=>?_)
       · have hd:=of_decide_eq_true hd;refine xr func77 rfl ?_;refine xp rfl (af (off:=1) underlying52 rfl rfl H.Cb rfl) ?_;refine xp rfl (ai H.CL rfl (k1.cell (i:=1) rfl)) ?_;refine xp rfl (HL rfl) ?_;refine xp rfl (aG (H.fP _ _) rfl) ?_;refine RW.bB rfl rfl rfl (az.au H.aW rfl rfl k2 (by first|rfl|(simp;done)|(simp;omega)) (by first|decide|exact of_decide_eq_true rfl|(simp;done)|(simp;omega)) (gm)) ?_;rintro _ h4 ⟨rfl,k4,x4,z4⟩;refine aN 1 [0,1,3,4,5,6,18] rfl ?_;refine G.br func77 rfl (.cons (aI.bp H.bR H.aW rfl (k4.row) (by first|rfl|(simp;done)|(simp;omega))) (.cons (aI.tmp rfl) (.nil))) ?_;have hu:GG op x=(dP (wrap64 (0-x.num)),0):=(if_neg hc).trans (if_pos hd);rw[hu];exact⟨_,rfl,_,rfl,sQ _ _ _,aC.only e12 x4 (by omega)⟩
       · have hd:=of_decide_eq_false hd;refine aB rfl ?_;refine G.aR ?_;refine xr func77 rfl ?_;refine xp rfl (aG (H.eo ) rfl) ?_;refine RW.bB rfl rfl rfl (az.au H.aW rfl rfl k2 (by first|rfl|(simp;done)|(simp;omega)) (by first|decide|exact of_decide_eq_true rfl|(simp;done)|(simp;omega)) (by first|decide|simp[Value.oneCell'])) ?_;rintro _ h4 ⟨rfl,k4,x4,z4⟩;refine aN 1 [0,1,3,4,5,6,18] rfl ?_;refine G.br func77 rfl (.cons (aI.bp H.bR H.aW rfl (k4.row) (by first|rfl|(simp;done)|(simp;omega))) (.cons (aI.tmp rfl) (.nil))) ?_;have hu:GG op x=(iJ,2):=(if_neg hc).trans (if_neg hd);rw[hu];exact⟨_,rfl,_,rfl,gI _ _,aC.only e12 x4 (by omega)⟩
theorem nP (O:Nat->Prop) (op:By) (way:Int) :
 ah Tryz.prog 120 #[.string (bs op),.int .i64 way] h (cM fun r h'=>∃v,r=packed [v,.int .i64 (iy op way).2]/\dz h' O v (iy op way).1/\aC h h'):=by
 refine ah.of func120 rfl rfl ?_;refine xr func120 rfl ?_;refine xo rfl (az.aQ H.gw) ?_;rintro _ h1 ⟨rfl,k1,e1,z1⟩;refine aN 1 [0,1,4,5] rfl ?_;refine av rfl ?_;refine bf func120 1 [0,1,4,5,6] rfl ?_;refine G.block rfl rfl ?_;refine xr func120 rfl ?_;refine xp rfl (aj.bS rfl rfl) ?_;refine aN 1 [0,1,4,5,6,7] rfl ?_;refine aM rfl rfl (fun c1=>?_) (fun c1=>?_)
 · have c1:op=[61,61]:=bZ c1;refine bl func120 2 rfl ?_;refine xo rfl (aq (vs:=[_]) func70 rfl H.vp rfl (ah.bq (dG _))) ?_;rintro _ h3 ⟨rfl,e3⟩;refine RW.bB rfl rfl rfl (az.au H.aW rfl rfl (k1.ax e3) (by first|rfl|(simp;done)|(simp;omega)) (by first|decide|exact of_decide_eq_true rfl|(simp;done)|(simp;omega)) (gm)) ?_;rintro _ h4 ⟨rfl,k4,x4,z4⟩;refine aN 1 [0,1,4,5,6,7] rfl ?_;refine G.br func120 rfl (.cons (aI.bp H.bR H.aW rfl (k4.row) (by first|rfl|(simp;done)|(simp;omega))) (.cons (aI.tmp rfl) (.nil))) ?_;rw[show iy op way=(dA (decide (way=0)),0) by unfold iy;skip;rw[if_pos c1]];exact⟨_,rfl,_,rfl,nB _ _ _,aC.only (e1.trans e3) x4 (Nat.le_refl _)⟩
 · have c1:¬op=[61,61]:=fun q=>c1 (by rw[q];rfl)
   refine xr func120 rfl ?_;refine xp rfl (aj.bS rfl rfl) ?_;refine aN 1 [0,1,4,5,6,7,12] rfl ?_;refine aM rfl rfl (fun c2=>?_) (fun c2=>?_)
   · have c2:op=[33,61]:=bZ c2;refine bl func120 2 rfl ?_;refine xo rfl (aq (vs:=[_]) func70 rfl H.vp rfl (ah.bq (dG _))) ?_;rintro _ h3 ⟨rfl,e3⟩;refine RW.bB rfl rfl rfl (az.au H.aW rfl rfl (k1.ax e3) (by first|rfl|(simp;done)|(simp;omega)) (by first|decide|exact of_decide_eq_true rfl|(simp;done)|(simp;omega)) (gm)) ?_;rintro _ h4 ⟨rfl,k4,x4,z4⟩;refine aN 1 [0,1,4,5,6,7,12] rfl ?_;refine G.br func120 rfl (.cons (aI.bp H.bR H.aW rfl (k4.row) (by first|rfl|(simp;done)|(simp;omega))) (.cons (aI.tmp rfl) (.nil))) ?_;rw[show iy op way=(dA (decide (¬way=0)),0) by unfold iy;rw[if_neg c1];rw[if_pos c2]];exact⟨_,rfl,_,rfl,nB _ _ _,aC.only (e1.trans e3) x4 (Nat.le_refl _)⟩
   · have c2:¬op=[33,61]:=fun q=>c2 (by rw[q];rfl)
     refine xr func120 rfl ?_;refine xp rfl (aj.bS rfl rfl) ?_;refine aN 1 [0,1,4,5,6,7,12,17] rfl ?_;refine aM rfl rfl (fun c3=>?_) (fun c3=>?_)
     · have c3:op=[60]:=bZ c3;refine bl func120 2 rfl ?_;refine xo rfl (aq (vs:=[_]) func70 rfl H.vp rfl (ah.bq (dG _))) ?_;rintro _ h3 ⟨rfl,e3⟩;refine RW.bB rfl rfl rfl (az.au H.aW rfl rfl (k1.ax e3) (by first|rfl|(simp;done)|(simp;omega)) (by first|decide|exact of_decide_eq_true rfl|(simp;done)|(simp;omega)) (gm)) ?_;rintro _ h4 ⟨rfl,k4,x4,z4⟩;refine aN 1 [0,1,4,5,6,7,12,17] rfl ?_;refine G.br func120 rfl (.cons (aI.bp H.bR H.aW rfl (k4.row) (by first|rfl|(simp;done)|(simp;omega))) (.cons (aI.tmp rfl) (.nil))) ?_;rw[show iy op way=(dA (decide (way<0)),0) by unfold iy;rw[if_neg c1,if_neg c2];rw[if_pos c3]];exact⟨_,rfl,_,rfl,nB _ _ _,aC.only (e1.trans e3) x4 (Nat.le_refl _)⟩
     · have c3:¬op=[60]:=fun q=>c3 (by rw[q];rfl)
       refine xr func120 rfl ?_;refine xp rfl (aj.bS rfl rfl) ?_;refine aN 1 [0,1,4,5,6,7,12,17,22] rfl ?_;refine aM rfl rfl (fun c4=>?_) (fun c4=>?_)
       · have c4:op=[60,61]:=bZ c4;refine bl func120 2 rfl ?_;refine xo rfl (aq (vs:=[_]) func70 rfl H.vp rfl (ah.bq (dG _))) ?_;rintro _ h3 ⟨rfl,e3⟩;refine RW.bB rfl rfl rfl (az.au H.aW rfl rfl (k1.ax e3) (by first|rfl|(simp;done)|(simp;omega)) (by first|decide|exact of_decide_eq_true rfl|(simp;done)|(simp;omega)) (gm)) ?_;rintro _ h4 ⟨rfl,k4,x4,z4⟩;refine aN 1 [0,1,4,5,6,7,12,17,22] rfl ?_;refine G.br func120 rfl (.cons (aI.bp H.bR H.aW rfl (k4.row) (by first|rfl|(simp;done)|(simp;omega))) (.cons (aI.tmp rfl) (.nil))) ?_;rw[show iy op way=(dA (decide (way<=0)),0) by unfold iy;rw[if_neg c1,if_neg c2,if_neg c3];rw[if_pos c4]];exact⟨_,rfl,_,rfl,nB _ _ _,aC.only (e1.trans e3) x4 (Nat.le_refl _)⟩
       · have c4:¬op=[60,61]:=fun q=>c4 (by rw[q];rfl)
         refine xr func120 rfl ?_;refine xp rfl (aj.bS rfl rfl) ?_;refine aN 1 [0,1,4,5,6,7,12,17,22,27] rfl ?_;refine aM rfl rfl (fun c5=>?_) (fun c5=>?_)
         · have c5:op=[62]:=bZ c5;refine bl func120 2 rfl ?_;refine xo rfl (aq (vs:=[_]) func70 rfl H.vp rfl (ah.bq (dG _))) ?_;rintro _ h3 ⟨rfl,e3⟩;refine RW.bB rfl rfl rfl (az.au H.aW rfl rfl (k1.ax e3) (by first|rfl|(simp;done)|(simp;omega)) (by first|decide|exact of_decide_eq_true rfl|(simp;done)|(simp;omega)) (gm)) ?_;rintro _ h4 ⟨rfl,k4,x4,z4⟩;refine aN 1 [0,1,4,5,6,7,12,17,22,27] rfl ?_;refine G.br func120 rfl (.cons (aI.bp H.bR H.aW rfl (k4.row) (by first|rfl|(simp;done)|(simp;omega))) (.cons (aI.tmp rfl) (.nil))) ?_;rw[show iy op way=(dA (decide (0<way)),0) by unfold iy;rw[if_neg c1,if_neg c2,if_neg c3,if_neg c4];rw[if_pos c5]];exact⟨_,rfl,_,rfl,nB _ _ _,aC.only (e1.trans e3) x4 (Nat.le_refl _)⟩
         · have c5:¬op=[62]:=fun q=>c5 (by rw[q];rfl)
           refine xr func120 rfl ?_;refine xp rfl (aj.bS rfl rfl) ?_;refine aN 1 [0,1,4,5,6,7,12,17,22,27,32] rfl ?_;refine aM rfl rfl (fun c6=>?_) (fun c6=>?_)
           · have c6:op=[62,61]:=bZ c6;refine bl func120 2 rfl ?_;refine xo rfl (aq (vs:=[_]) func70 rfl H.vp rfl (ah.bq (dG _))) ?_;rintro _ h3 ⟨rfl,e3⟩;refine RW.bB rfl rfl rfl (az.au H.aW rfl rfl (k1.ax e3) (by first|rfl|(simp;done)|(simp;omega)) (by first|decide|exact of_decide_eq_true rfl|(simp;done)|(simp;omega)) (gm)) ?_;rintro _ h4 ⟨rfl,k4,x4,z4⟩;refine aN 1 [0,1,4,5,6,7,12,17,22,27,32] rfl ?_;refine G.br func120 rfl (.cons (aI.bp H.bR H.aW rfl (k4.row) (by first|rfl|(simp;done)|(simp;omega))) (.cons (aI.tmp rfl) (.nil))) ?_;rw[show iy op way=(dA (decide (0<=way)),0) by unfold iy;rw[if_neg c1,if_neg c2,if_neg c3,if_neg c4,if_neg c5];rw[if_pos c6]];exact⟨_,rfl,_,rfl,nB _ _ _,aC.only (e1.trans e3) x4 (Nat.le_refl _)⟩
           · have c6:¬op=[62,61]:=fun q=>c6 (by rw[q];rfl)
             refine aB rfl ?_;refine G.aR ?_;refine xr func120 rfl ?_;refine xp rfl (aG (H.eo ) rfl) ?_;refine RW.bB rfl rfl rfl (az.au H.aW rfl rfl k1 (by first|rfl|(simp;done)|(simp;omega)) (by first|decide|exact of_decide_eq_true rfl|(simp;done)|(simp;omega)) (by first|decide|simp[Value.oneCell'])) ?_;rintro _ h4 ⟨rfl,k4,x4,z4⟩;refine aN 1 [0,1,4,5,6,7,12,17,22,27,32] rfl ?_;refine G.br func120 rfl (.cons (aI.bp H.bR H.aW rfl (k4.row) (by first|rfl|(simp;done)|(simp;omega))) (.cons (aI.tmp rfl) (.nil))) ?_;rw[show iy op way=(iJ,2) by unfold iy;rw[if_neg c1,if_neg c2,if_neg c3,if_neg c4,if_neg c5,if_neg c6]];exact⟨_,rfl,_,rfl,gI _ _,aC.only e1 x4 (Nat.le_refl _)⟩
theorem ri (a:Int):ah Tryz.prog 179 #[.int .i64 a] h (cM fun r h'=>r= .bool false/\h'=h):=by
 refine ah.of func179 rfl rfl ?_;refine bf func179 1 [0,2] rfl ?_;refine bf func179 4 [0,2] rfl ?_;refine G.ret func179 rfl rfl ?_;exact⟨_,rfl,by simp[packed],rfl⟩
theorem AB (a b:Int):ah Tryz.prog 156 #[.int .i64 a,.int .i64 b] h (cM fun r h'=>r= .int .i64 (if a<b then -1 else if a=b then 0 else 1)/\h'=h):=by
 refine ah.of func156 rfl rfl ?_;refine bf func156 1 [0,1,4] rfl ?_;refine bl func156 1 rfl ?_;refine xo rfl (aq (vs:=[_]) func179 rfl H.Ik rfl (ah.bq (ri _))) ?_;rintro _ _ ⟨rfl,rfl⟩;refine aN 1 [0,1,4,5] rfl ?_;refine bl func156 1 rfl ?_;refine xo rfl (aq (vs:=[_]) func179 rfl H.Ik rfl (ah.bq (ri _))) ?_;rintro _ _ ⟨rfl,rfl⟩;refine aN 1 [0,1,4,5,6] rfl ?_;refine av rfl ?_;refine bf func156 1 [0,1,4,5,6,11] rfl ?_;refine aJ rfl rfl (fun hc=>absurd hc (by simp)) (fun _=>?_);refine aB rfl ?_;refine av rfl ?_;refine bf func156 1 [0,1,4,5,6,11,13] rfl ?_;refine aJ rfl rfl (fun hc=>absurd hc (by simp)) (fun _=>?_);refine aB rfl ?_;refine av rfl ?_;refine bf func156 3 [0,1,4,5,6,11,13,16] rfl ?_;refine aM rfl rfl (fun h1=>?_) (fun h1=>?_)
 · refine bf func156 1 [0,1,4,5,6,11,13,16] rfl ?_;refine G.ret func156 rfl rfl ?_;exact⟨_,rfl,by rw[if_pos h1];rfl,rfl⟩
 · refine aB rfl ?_;refine av rfl ?_;refine bf func156 3 [0,1,4,5,6,11,13,16,19] rfl ?_;refine aM rfl rfl (fun h2=>?_) (fun h2=>?_)
   · refine bf func156 1 [0,1,4,5,6,11,13,16,19] rfl ?_;refine G.ret func156 rfl rfl ?_;exact⟨_,rfl,by rw[if_neg h1,if_neg (by omega)];rfl,rfl⟩
   · refine aB rfl ?_;refine bf func156 1 [0,1,4,5,6,11,13,16,19] rfl ?_;refine G.ret func156 rfl rfl ?_;exact⟨_,rfl,by rw[if_neg h1,if_pos (by omega)];rfl,rfl⟩
theorem vk (O:Nat->Prop) (op:By) (a b:Int) :
 ah Tryz.prog 119 #[.string (bs op),.int .i64 a,.int .i64 b] h (cM fun r h'=>∃v,r=packed [v,.int .i64 (bI op a b).2]/\dz h' O v (bI op a b).1/\aC h h'):=by
 refine ah.of func119 rfl rfl ?_;refine xr func119 rfl ?_;refine xo rfl (az.aQ H.gw) ?_;rintro _ h1 ⟨rfl,k1,e1,z1⟩;refine aN 1 [0,1,2,6,7] rfl ?_;refine bf func119 3 [0,1,2,6,7,8,9] rfl ?_;refine av rfl ?_;refine bf func119 1 [0,1,2,6,7,8,9,11] rfl ?_;refine G.block rfl rfl ?_;refine xr func119 rfl ?_;refine xp rfl (aj.bS rfl rfl) ?_;refine aN 1 [0,1,2,6,7,8,9,11,19] rfl ?_;refine aM rfl rfl (fun c1=>?_) (fun c1=>?_)
 · have c1:op=[43]:=bZ c1;refine bl func119 2 rfl ?_;refine xp rfl (aj.add rfl rfl) ?_;refine aN 1 [0,1,2,6,7,8,9,11,19] rfl ?_;refine G.cz func119 rfl ?_;refine cI 5 rfl rfl (aj.xX underlying4 rfl rfl) ?_;refine aN 1 [0,1,2,6,7,8,9,11,19] rfl ?_;refine G.aR ?_;refine av rfl ?_;refine bf func119 2 [0,1,2,6,7,8,9,11,19,86] rfl ?_;refine aJ rfl rfl (fun hn=>?_) (fun hn=>?_)
   · have hn:decide (wrap64 (a+b)>a)=decide (b>0)->False:=by simpa [wrap64] using hn
     refine xr func119 rfl ?_;refine xp rfl (aG (H.eo ) rfl) ?_;refine RW.bB rfl rfl rfl (az.au H.aW rfl rfl k1 (by first|rfl|(simp;done)|(simp;omega)) (by first|decide|exact of_decide_eq_true rfl|(simp;done)|(simp;omega)) (by first|decide|simp[Value.oneCell'])) ?_;rintro _ h4 ⟨rfl,k4,x4,z4⟩;refine aN 1 [0,1,2,6,7,8,9,11,19,86] rfl ?_;refine G.br func119 rfl (.cons (aI.bp H.bR H.aW rfl (k4.row) (by first|rfl|(simp;done)|(simp;omega))) (.cons (aI.tmp rfl) (.nil))) ?_;rw[show bI op a b=(iJ,2) by unfold bI;rw[if_pos c1];exact if_neg hn];exact⟨_,rfl,_,rfl,gI _ _,aC.only e1 x4 (Nat.le_refl _)⟩
   · have hn:decide (wrap64 (a+b)>a)=decide (b>0):=by simpa [wrap64] using hn
     refine aB rfl ?_;refine bl func119 1 rfl ?_;refine xp rfl (aG (H.fP _ _) rfl) ?_;refine RW.bB rfl rfl rfl (az.au H.aW rfl rfl k1 (by first|rfl|(simp;done)|(simp;omega)) (by first|decide|exact of_decide_eq_true rfl|(simp;done)|(simp;omega)) (gm)) ?_;rintro _ h4 ⟨rfl,k4,x4,z4⟩;refine aN 1 [0,1,2,6,7,8,9,11,19,86] rfl ?_;refine G.br func119 rfl (.cons (aI.bp H.bR H.aW rfl (k4.row) (by first|rfl|(simp;done)|(simp;omega))) (.cons (aI.tmp rfl) (.nil))) ?_;rw[show bI op a b=(dP (wrap64 (a+b)),0) by unfold bI;rw[if_pos c1];exact if_pos hn];exact⟨_,rfl,_,rfl,sQ _ _ _,aC.only e1 x4 (Nat.le_refl _)⟩
 · have c1:¬op=[43]:=fun q=>c1 (by rw[q];rfl)
   refine xr func119 rfl ?_;refine xp rfl (aj.bS rfl rfl) ?_;refine aN 1 [0,1,2,6,7,8,9,11,19,30] rfl ?_;refine aM rfl rfl (fun c2=>?_) (fun c2=>?_)
   · have c2:op=[45]:=bZ c2;refine bl func119 2 rfl ?_;refine xp rfl (aj.sub rfl rfl) ?_;refine aN 1 [0,1,2,6,7,8,9,11,19,30] rfl ?_;refine G.cz func119 rfl ?_;refine cI 5 rfl rfl (aj.xX underlying4 rfl rfl) ?_;refine aN 1 [0,1,2,6,7,8,9,11,19,30] rfl ?_;refine G.aR ?_;refine av rfl ?_;refine bf func119 2 [0,1,2,6,7,8,9,11,19,30,86] rfl ?_;refine aJ rfl rfl (fun hn=>?_) (fun hn=>?_)
     · have hn:decide (wrap64 (a-b)<a)=decide (b>0)->False:=fun q=>by rw[decide_eq_decide] at q;simp at hn;exact hn q
       refine xr func119 rfl ?_;refine xp rfl (aG (H.eo ) rfl) ?_;refine RW.bB rfl rfl rfl (az.au H.aW rfl rfl k1 (by first|rfl|(simp;done)|(simp;omega)) (by first|decide|exact of_decide_eq_true rfl|(simp;done)|(simp;omega)) (by first|decide|simp[Value.oneCell'])) ?_;rintro _ h4 ⟨rfl,k4,x4,z4⟩;refine aN 1 [0,1,2,6,7,8,9,11,19,30,86] rfl ?_;refine G.br func119 rfl (.cons (aI.bp H.bR H.aW rfl (k4.row) (by first|rfl|(simp;done)|(simp;omega))) (.cons (aI.tmp rfl) (.nil))) ?_;rw[show bI op a b=(iJ,2) by unfold bI;rw[if_neg c1,if_pos c2];exact if_neg hn];exact⟨_,rfl,_,rfl,gI _ _,aC.only e1 x4 (Nat.le_refl _)⟩
     · have hn:decide (wrap64 (a-b)<a)=decide (b>0):=by rw[decide_eq_decide];simp at hn;exact hn
       refine aB rfl ?_;refine bl func119 1 rfl ?_;refine xp rfl (aG (H.fP _ _) rfl) ?_;refine RW.bB rfl rfl rfl (az.au H.aW rfl rfl k1 (by first|rfl|(simp;done)|(simp;omega)) (by first|decide|exact of_decide_eq_true rfl|(simp;done)|(simp;omega)) (gm)) ?_;rintro _ h4 ⟨rfl,k4,x4,z4⟩;refine aN 1 [0,1,2,6,7,8,9,11,19,30,86] rfl ?_;refine G.br func119 rfl (.cons (aI.bp H.bR H.aW rfl (k4.row) (by first|rfl|(simp;done)|(simp;omega))) (.cons (aI.tmp rfl) (.nil))) ?_;rw[show bI op a b=(dP (wrap64 (a-b)),0) by unfold bI;rw[if_neg c1,if_pos c2];exact if_pos hn];exact⟨_,rfl,_,rfl,sQ _ _ _,aC.only e1 x4 (Nat.le_refl _)⟩
   · have c2:¬op=[45]:=fun q=>c2 (by rw[q];rfl)
     refine xr func119 rfl ?_;refine xp rfl (aj.bS rfl rfl) ?_;refine aN 1 [0,1,2,6,7,8,9,11,19,30,41] rfl ?_;refine aM rfl rfl (fun c3=>?_) (fun c3=>?_)
     · have c3:op=[42]:=bZ c3;refine bl func119 2 rfl ?_;refine xp rfl (HM rfl rfl) ?_;refine aN 1 [0,1,2,6,7,8,9,11,19,30,41] rfl ?_;refine G.bw [(9,.bool (decide (a=0\/wrap64 ((wrap64 (a*b)).tdiv a)=b/\(a≠ -1\/b≠ -9223372036854775808))))] [(0,_),(1,_),(2,_),(6,_),(7,_),(8,_),(11,_),(19,_),(30,_),(41,_)] ⟨rfl,rfl,rfl,rfl,rfl,rfl,rfl,rfl,rfl,rfl,trivial⟩ func119 rfl ?_ ?_
       · refine aV 3 rfl ?_;refine aL (d:=48) rfl (fun d1=>?_) (fun d1=>?_)
         · have d1:=of_decide_eq_true d1;refine aV 15 rfl ?_;refine aD rfl ?_;exact⟨rfl,aF rfl (by rw[decide_eq_true (.inl d1)]),rfl,rfl,rfl,rfl,rfl,rfl,rfl,rfl,rfl,rfl,trivial⟩
         · have d1:=of_decide_eq_false d1;refine cI 2 rfl rfl (qa rfl rfl d1) ?_;refine aV 3 rfl ?_;refine aL (d:=54) rfl (fun d2=>?_) (fun d2=>?_)
           · have d2:wrap64 ((wrap64 (a*b)).tdiv a)=b:=of_decide_eq_true d2;refine aV 3 rfl ?_;refine aL (d:=57) rfl (fun d3=>?_) (fun d3=>?_)
             · have d3:=of_decide_eq_true d3;refine aV 6 rfl ?_;refine aD rfl ?_;exact⟨rfl,aF rfl (by rw[decide_eq_true (.inr ⟨d2,.inl d3⟩)]),rfl,rfl,rfl,rfl,rfl,rfl,rfl,rfl,rfl,rfl,trivial⟩
             · have d3:=of_decide_eq_false d3;refine aV 6 rfl ?_;refine aD rfl ?_;exact⟨rfl,aF rfl (by rw[decide_eq_decide];exact⟨fun q=>.inr ⟨d2,.inr q⟩,fun q=>(q.resolve_left d1).2.resolve_left d3⟩),rfl,rfl,rfl,rfl,rfl,rfl,rfl,rfl,rfl,rfl,trivial⟩
           · have d2:¬wrap64 ((wrap64 (a*b)).tdiv a)=b:=of_decide_eq_false d2;refine aV 9 rfl ?_;refine aD rfl ?_;exact⟨rfl,aF rfl (by rw[decide_eq_false (fun q=>d2 (q.resolve_left d1).1)]),rfl,rfl,rfl,rfl,rfl,rfl,rfl,rfl,rfl,rfl,trivial⟩
       · refine G.aR ?_;refine av rfl ?_;refine bf func119 2 [0,1,2,6,7,8,9,11,19,30,41,86] rfl ?_;refine aJ rfl rfl (fun hn=>?_) (fun hn=>?_)
         · have hn:¬(a=0\/wrap64 ((wrap64 (a*b)).tdiv a)=b/\(a≠ -1\/b≠ -9223372036854775808)):=fun q=>by rw[decide_eq_true q] at hn;exact absurd hn (by decide)
           refine xr func119 rfl ?_;refine xp rfl (aG (H.eo ) rfl) ?_;refine RW.bB rfl rfl rfl (az.au H.aW rfl rfl k1 (by first|rfl|(simp;done)|(simp;omega)) (by first|decide|exact of_decide_eq_true rfl|(simp;done)|(simp;omega)) (by first|decide|simp[Value.oneCell'])) ?_;rintro _ h4 ⟨rfl,k4,x4,z4⟩;refine aN 1 [0,1,2,6,7,8,9,11,19,30,41,86] rfl ?_;refine G.br func119 rfl (.cons (aI.bp H.bR H.aW rfl (k4.row) (by first|rfl|(simp;done)|(simp;omega))) (.cons (aI.tmp rfl) (.nil))) ?_;rw[show bI op a b=(iJ,2) by unfold bI;rw[if_neg c1,if_neg c2,if_pos c3];exact if_neg hn];exact⟨_,rfl,_,rfl,gI _ _,aC.only e1 x4 (Nat.le_refl _)⟩
         · have hn:a=0\/wrap64 ((wrap64 (a*b)).tdiv a)=b/\(a≠ -1\/b≠ -9223372036854775808):=Classical.byContradiction fun q=>by rw[decide_eq_false q] at hn;exact absurd hn (by decide)
           refine aB rfl ?_;refine bl func119 1 rfl ?_;refine xp rfl (aG (H.fP _ _) rfl) ?_;refine RW.bB rfl rfl rfl (az.au H.aW rfl rfl k1 (by first|rfl|(simp;done)|(simp;omega)) (by first|decide|exact of_decide_eq_true rfl|(simp;done)|(simp;omega)) (gm)) ?_;rintro _ h4 ⟨rfl,k4,x4,z4⟩;refine aN 1 [0,1,2,6,7,8,9,11,19,30,41,86] rfl ?_;refine G.br func119 rfl (.cons (aI.bp H.bR H.aW rfl (k4.row) (by first|rfl|(simp;done)|(simp;omega))) (.cons (aI.tmp rfl) (.nil))) ?_;rw[show bI op a b=(dP (wrap64 (a*b)),0) by unfold bI;rw[if_neg c1,if_neg c2,if_pos c3];exact if_pos hn];exact⟨_,rfl,_,rfl,sQ _ _ _,aC.only e1 x4 (Nat.le_refl _)⟩
     · have c3:¬op=[42]:=fun q=>c3 (by rw[q];rfl)
       refine av rfl ?_;refine xr func119 rfl ?_;refine xp rfl (aj.bS rfl rfl) ?_;refine aN 1 [0,1,2,6,7,8,9,11,19,30,41,63] rfl ?_;refine aM rfl rfl (fun c4=>?_) (fun c4=>?_)
       · have c4:op=[47]:=bZ c4;refine aB rfl ?_;refine aJ rfl rfl (fun _=>?_) (fun hc=>absurd hc (by rw[c4];exact fun q=>absurd rfl (of_decide_eq_false q)));refine av rfl ?_;refine av rfl ?_;refine G.bw [(75,.bool (decide (b=0\/a= -9223372036854775808/\b= -1)))] [(0,_),(1,_),(2,_),(6,_),(7,_),(8,_),(9,_),(11,_),(19,_),(30,_),(41,_),(63,_)] ⟨rfl,rfl,rfl,rfl,rfl,rfl,rfl,rfl,rfl,rfl,rfl,rfl,trivial⟩ func119 rfl ?_ ?_
         · refine aV 3 rfl ?_;refine aL (d:=68) rfl (fun d1=>?_) (fun d1=>?_)
           · have d1:=of_decide_eq_true d1;refine aV 7 rfl ?_;refine aD rfl ?_;exact⟨rfl,aF rfl (by rw[decide_eq_true (.inl d1)]),rfl,rfl,rfl,rfl,rfl,rfl,rfl,rfl,rfl,rfl,rfl,rfl,trivial⟩
           · have d1:=of_decide_eq_false d1;refine aV 3 rfl ?_;refine aL (d:=71) rfl (fun d2=>?_) (fun d2=>?_)
             · have d2:=of_decide_eq_true d2;refine aV 4 rfl ?_;refine aD rfl ?_;exact⟨rfl,aF rfl (by rw[decide_eq_decide];exact⟨fun q=>.inr ⟨d2,q⟩,fun q=>(q.resolve_left d1).2⟩),rfl,rfl,rfl,rfl,rfl,rfl,rfl,rfl,rfl,rfl,rfl,rfl,trivial⟩
             · have d2:=of_decide_eq_false d2;refine aV 4 rfl ?_;refine aD rfl ?_;exact⟨rfl,aF rfl (by rw[decide_eq_false (fun q=>d2 (q.resolve_left d1).1)]),rfl,rfl,rfl,rfl,rfl,rfl,rfl,rfl,rfl,rfl,rfl,rfl,trivial⟩
         · refine aJ rfl rfl (fun hz=>?_) (fun hz=>?_)
           · have hz:=of_decide_eq_true hz;refine xr func119 rfl ?_;refine xp rfl (aG (H.eo ) rfl) ?_;refine RW.bB rfl rfl rfl (az.au H.aW rfl rfl k1 (by first|rfl|(simp;done)|(simp;omega)) (by first|decide|exact of_decide_eq_true rfl|(simp;done)|(simp;omega)) (by first|decide|simp[Value.oneCell'])) ?_;rintro _ h4 ⟨rfl,k4,x4,z4⟩;refine aN 1 [0,1,2,6,7,8,9,11,19,30,41,63,75] rfl ?_;refine G.br func119 rfl (.cons (aI.bp H.bR H.aW rfl (k4.row) (by first|rfl|(simp;done)|(simp;omega))) (.cons (aI.tmp rfl) (.nil))) ?_;rw[show bI op a b=(iJ,2) by unfold bI;rw[if_neg c1,if_neg c2,if_neg c3,if_pos (.inl c4)];exact if_pos hz];exact⟨_,rfl,_,rfl,gI _ _,aC.only e1 x4 (Nat.le_refl _)⟩
           · have hz:=of_decide_eq_false hz;have hb:b≠0:=fun q=>hz (.inl q)
             refine aB rfl ?_;refine bl func119 2 rfl ?_;refine xp rfl (qa rfl rfl hb) ?_;refine aN 1 [0,1,2,6,7,8,9,11,19,30,41,63,75] rfl ?_;refine bl func119 1 rfl ?_;refine xp rfl (aj.bS rfl rfl) ?_;refine xd [0,1,2,6,7,8,9,11,19,30,41,63,75,81] rfl ?_;refine aM rfl rfl (fun c5=>?_) (fun c5=>?_)
             · exact absurd (bZ (m:=[37]) c5) (by rw[c4];decide)
             · refine aB rfl ?_;refine G.aR ?_;refine av rfl ?_;refine bf func119 2 [0,1,2,6,7,8,9,11,19,30,41,63,75,81,86] rfl ?_;refine aJ rfl rfl (fun hc=>absurd hc (by simp)) (fun _=>?_);refine aB rfl ?_;refine bl func119 1 rfl ?_;refine xp rfl (aG (H.fP _ _) rfl) ?_;refine RW.bB rfl rfl rfl (az.au H.aW rfl rfl k1 (by first|rfl|(simp;done)|(simp;omega)) (by first|decide|exact of_decide_eq_true rfl|(simp;done)|(simp;omega)) (gm)) ?_;rintro _ h4 ⟨rfl,k4,x4,z4⟩;refine aN 1 [0,1,2,6,7,8,9,11,19,30,41,63,75,81,86] rfl ?_;refine G.br func119 rfl (.cons (aI.bp H.bR H.aW rfl (k4.row) (by first|rfl|(simp;done)|(simp;omega))) (.cons (aI.tmp rfl) (.nil))) ?_;rw[show bI op a b=(dP (wrap64 (a.tdiv b)),0) by unfold bI;rw[if_neg c1,if_neg c2,if_neg c3,if_pos (.inl c4)];exact(if_neg hz).trans (by rw[if_neg (by rw[c4];decide)])];exact⟨_,rfl,_,rfl,sQ _ _ _,aC.only e1 x4 (Nat.le_refl _)⟩
       · have c4:¬op=[47]:=fun q=>c4 (by rw[q];rfl)
         refine G.cz func119 rfl ?_;refine xp rfl (aj.bS rfl rfl) ?_;refine aN 1 [0,1,2,6,7,8,9,11,19,30,41,63] rfl ?_;refine aM rfl rfl (fun c5=>?_) (fun c5=>?_)
         · have c5:op=[37]:=bZ c5;refine av rfl ?_;refine av rfl ?_;refine G.bw [(75,.bool (decide (b=0\/a= -9223372036854775808/\b= -1)))] [(0,_),(1,_),(2,_),(6,_),(7,_),(8,_),(9,_),(11,_),(19,_),(30,_),(41,_),(63,_)] ⟨rfl,rfl,rfl,rfl,rfl,rfl,rfl,rfl,rfl,rfl,rfl,rfl,trivial⟩ func119 rfl ?_ ?_
           · refine aV 3 rfl ?_;refine aL (d:=68) rfl (fun d1=>?_) (fun d1=>?_)
             · have d1:=of_decide_eq_true d1;refine aV 7 rfl ?_;refine aD rfl ?_;exact⟨rfl,aF rfl (by rw[decide_eq_true (.inl d1)]),rfl,rfl,rfl,rfl,rfl,rfl,rfl,rfl,rfl,rfl,rfl,rfl,trivial⟩
             · have d1:=of_decide_eq_false d1;refine aV 3 rfl ?_;refine aL (d:=71) rfl (fun d2=>?_) (fun d2=>?_)
               · have d2:=of_decide_eq_true d2;refine aV 4 rfl ?_;refine aD rfl ?_;exact⟨rfl,aF rfl (by rw[decide_eq_decide];exact⟨fun q=>.inr ⟨d2,q⟩,fun q=>(q.resolve_left d1).2⟩),rfl,rfl,rfl,rfl,rfl,rfl,rfl,rfl,rfl,rfl,rfl,rfl,trivial⟩
               · have d2:=of_decide_eq_false d2;refine aV 4 rfl ?_;refine aD rfl ?_;exact⟨rfl,aF rfl (by rw[decide_eq_false (fun q=>d2 (q.resolve_left d1).1)]),rfl,rfl,rfl,rfl,rfl,rfl,rfl,rfl,rfl,rfl,rfl,rfl,trivial⟩
           · refine aJ rfl rfl (fun hz=>?_) (fun hz=>?_)
             · have hz:=of_decide_eq_true hz;refine xr func119 rfl ?_;refine xp rfl (aG (H.eo ) rfl) ?_;refine RW.bB rfl rfl rfl (az.au H.aW rfl rfl k1 (by first|rfl|(simp;done)|(simp;omega)) (by first|decide|exact of_decide_eq_true rfl|(simp;done)|(simp;omega)) (by first|decide|simp[Value.oneCell'])) ?_;rintro _ h4 ⟨rfl,k4,x4,z4⟩;refine aN 1 [0,1,2,6,7,8,9,11,19,30,41,63,75] rfl ?_;refine G.br func119 rfl (.cons (aI.bp H.bR H.aW rfl (k4.row) (by first|rfl|(simp;done)|(simp;omega))) (.cons (aI.tmp rfl) (.nil))) ?_;rw[show bI op a b=(iJ,2) by unfold bI;rw[if_neg c1,if_neg c2,if_neg c3,if_pos (.inr c5)];exact if_pos hz];exact⟨_,rfl,_,rfl,gI _ _,aC.only e1 x4 (Nat.le_refl _)⟩
             · have hz:=of_decide_eq_false hz;have hb:b≠0:=fun q=>hz (.inl q)
               refine aB rfl ?_;refine bl func119 2 rfl ?_;refine xp rfl (qa rfl rfl hb) ?_;refine aN 1 [0,1,2,6,7,8,9,11,19,30,41,63,75] rfl ?_;refine bl func119 1 rfl ?_;refine xp rfl (aj.bS rfl rfl) ?_;refine xd [0,1,2,6,7,8,9,11,19,30,41,63,75,81] rfl ?_;refine aM rfl rfl (fun c6=>?_) (fun c6=>?_)
               · refine G.cz func119 rfl ?_;refine cI 2 rfl rfl (yF rfl rfl hb) ?_;refine aN 1 [0,1,2,6,7,8,9,11,19,30,41,63,75,81] rfl ?_;refine G.aR ?_;refine av rfl ?_;refine bf func119 2 [0,1,2,6,7,8,9,11,19,30,41,63,75,81,86] rfl ?_;refine aJ rfl rfl (fun hc=>absurd hc (by simp)) (fun _=>?_);refine aB rfl ?_;refine bl func119 1 rfl ?_;refine xp rfl (aG (H.fP _ _) rfl) ?_;refine RW.bB rfl rfl rfl (az.au H.aW rfl rfl k1 (by first|rfl|(simp;done)|(simp;omega)) (by first|decide|exact of_decide_eq_true rfl|(simp;done)|(simp;omega)) (gm)) ?_;rintro _ h4 ⟨rfl,k4,x4,z4⟩;refine aN 1 [0,1,2,6,7,8,9,11,19,30,41,63,75,81,86] rfl ?_;refine G.br func119 rfl (.cons (aI.bp H.bR H.aW rfl (k4.row) (by first|rfl|(simp;done)|(simp;omega))) (.cons (aI.tmp rfl) (.nil))) ?_;rw[show bI op a b=(dP (a.tmod b),0) by unfold bI;rw[if_neg c1,if_neg c2,if_neg c3,if_pos (.inr c5)];exact(if_neg hz).trans (by rw[if_pos c5])];exact⟨_,rfl,_,rfl,sQ _ _ _,aC.only e1 x4 (Nat.le_refl _)⟩
               · exact absurd (by rw[c5];rfl) c6
         · have c5:¬op=[37]:=fun q=>c5 (by rw[q];rfl)
           refine bl func119 3 rfl ?_;refine xo rfl (aq (vs:=[_,_]) func156 rfl H.KL rfl (ah.bq (AB _ _))) ?_;rintro _ _ ⟨rfl,rfl⟩;refine xo rfl (aq (vs:=[_,_]) func120 rfl H.Is rfl (ah.bq (nP (fun b=>O b\/b=h.size) op _))) ?_;rintro _ h3 ⟨v3,rfl,hv3,e3⟩;obtain⟨nk,nt,ka,n,c,ea,en,ec,rfl,hb,hR,he⟩:=dz.get hv3;refine aV 2 rfl ?_;refine RW.bB rfl rfl rfl (az.au H.aW rfl rfl (k1.ax e3) (by first|rfl|(simp;done)|(simp;omega)) (by first|decide|exact of_decide_eq_true rfl|(simp;done)|(simp;omega)) (gm)) ?_;rintro _ h4 ⟨rfl,k4,x4,z4⟩;refine aN 1 [0,1,2,6,7,8,9,11,19,30,41,63] rfl ?_;refine G.br func119 rfl (.cons (aI.bp H.bR H.aW rfl (k4.row) (by first|rfl|(simp;done)|(simp;omega))) (.cons (aI.tmp rfl) (.nil))) ?_;have hn:bI op a b=iy op (if a<b then -1 else if a=b then 0 else 1):=by unfold bI;rw[if_neg c1,if_neg c2,if_neg c3,if_neg (fun q=>q.elim c4 c5)]
           rw[hn];exact⟨_,rfl,_,rfl,dz.of (eV.mv hR (Mv.cY x4 fun b hb q=>⟨fun k=>q (.inr k),fun k=>q (.inl k)⟩)),aC.only (e1.trans e3) x4 (Nat.le_refl _)⟩
theorem tU (t:By):∀{l:List Bd},(∀(i:Nat) (y:Bd),l[i]? =some y->y.1≠t)->fo t l=(iJ,4)
 | [],_=>rfl
 |b::r,h=>by
  have hr:=tU t (l:=r) fun i y hy=>h (i+1) y hy
  have hb:=h 0 b rfl;rw[fo,hr,if_neg (by decide),if_neg hb]
theorem FH (t:By):∀{l:List Bd}{i:Nat}{y:Bd},l[i]? =some y->y.1=t->(∀(k:Nat) (z:Bd),i<k->l[k]? =some z->z.1≠t)->fo t l=(y.2,0)
 | [],i,y,hi,_,_=>by cases hi
 |b::r,0,y,hi,ht,h=>by
  have hr:=tU t (l:=r) fun i z hz=>h (i+1) z (by omega) hz
  cases hi;rw[fo,hr,if_neg (by decide),if_pos ht]
 |b::r,i+1,y,hi,ht,h=>by
  have hr:=FH t (l:=r) (i:=i) hi ht fun k z hk hz=>h (k+1) z (by omega) hz
  rw[fo,hr,if_pos rfl]
abbrev IK (y:Bd) (nk:Int) (nt:By) (a:Option Addr) (m c:Nat) (ea:Option Addr) (en ec:Nat):List Value:=.string (bs y.1)::kI y.2.kind y.2.num y.2.iu y.2.self nk nt a m c ea en ec
theorem NR {y:Bd}{nk:Int}{nt:By}{a:Option Addr}{m:Nat}{ea:Option Addr}{en ec:Nat}:∀v∈IK y nk nt a m c ea en ec,v.oneCell'=true:=fun v hv=>by
 rcases List.mem_cons.1 hv with rfl|hv
 · rfl
 · exact gm v hv
theorem Lt {oa:Option Addr}{l:List Bd}(hws:Sl eB h O oa n c l) (hi:i<n) :
 ∃b o y nk nt a m c' ea en ec,oa=some ⟨b,o,none⟩/\l[i]? =some y/\Lw.rowAt h b (o+i*9) (IK y nk nt a m c' ea en ec)/\eV.R h O (kI y.2.kind y.2.num y.2.iu y.2.self nk nt a m c' ea en ec) y.2:=by
 have hn:=hws.len;obtain⟨y,hy⟩:∃y,l[i]? =some y:=⟨_,List.getElem?_eq_getElem (by omega)⟩
 obtain⟨b,o,cs,ha,hob,hrow,cs',rfl,hR⟩:=hws.get i y hy;obtain⟨nk,nt,a,m,c',ea,en,ec,hv,_,hR',_⟩:=dz.get (dz.of hR)
 have hcs:cs'=kI y.2.kind y.2.num y.2.iu y.2.self nk nt a m c' ea en ec:=by
  have:=congrArg (fun v=>match v with|Value.agg c=>c.toList|_=>[]) hv;simpa using this
 rw[hcs] at hrow;exact⟨b,o,y,nk,nt,a,m,c',ea,en,ec,ha,hy,hrow,hR'⟩
theorem F6 {b:Nat}{t:TypeId}{c:Value}{cs:List Value}(k:bh h b t (c::cs)):Lw.rowAt h b 1 cs:=fun j v hv=>k.cell (i:=1+j) (by rw[Nat.add_comm];exact hv)
theorem qC {l cap:Nat}{oa:Option Addr}{J:Nat->aA->Prop}{S:aA->Prop}(hn:n<=1000000)
 (hread:∀j h,J j h->cellAt h ⟨cap,0,none⟩=some (.slice oa n c)) (hy:∀j h,J (j+1) h->j<n->∃(b o:Nat) (y:Bd) (nk:Int) (nt:By) (a:Option Addr) (m c':Nat) (ea:Option Addr) (en ec:Nat),oa=some ⟨b,o,none⟩/\Lw.rowAt h b (o+j*9) (IK y nk nt a m c' ea en ec) /\
  gG Tryz.prog l #[.int .i64 (j:Nat),.agg (IK y nk nt a m c' ea en ec).toArray] h (cM fun r h'=>∃go,r= .bool go/\(go=true->J j h')/\(go=false->S h'))) (h0:J n h) :
 ah Tryz.prog 155 #[.func (.yield l) #[] #[],.pointer (some ⟨cap,0,none⟩)] h (cM fun _ h'=>J 0 h'\/S h'):=by
 refine ah.of func155 rfl rfl ?_;refine xr func155 rfl ?_;refine xp rfl (ai H.JE rfl (hread _ _ h0)) ?_;refine xp rfl (aj.aS underlying50 rfl) ?_;refine xp rfl (aj.j9 rfl rfl ⟨by omega,by omega⟩) ?_;refine aN 1 [0,1,3] rfl ?_;refine G.block rfl rfl ?_;refine bO (σ:=Nat) (fun j=>[(0,.func (.yield l) #[] #[]),(1,.pointer (some ⟨cap,0,none⟩)),(3,.int .i64 ((j:Int)-1))]) (fun j h'=>J j h'/\j<=n) (fun j=>j) (n) rfl ⟨rfl,rfl,rfl,trivial⟩ ⟨h0,Nat.le_refl _⟩ ?_;rintro j h1 ⟨hJ,hj⟩ ih;refine av rfl ?_;refine bf func155 2 [0,1,3,8] rfl ?_;refine aM rfl rfl (fun hge=>?_) (fun hge=>?_)
 · obtain⟨i,rfl⟩:∃i,j=i+1:=⟨j-1,by omega⟩
   obtain⟨b,o,y,nk,nt,a,m,c',ea,en,ec,ha,hrow,hyy⟩:=hy i h1 hJ (by omega);have hji:((i+1:Nat):Int)-1=((i:Nat):Int):=by omega
   rw[hji];refine aB rfl ?_;refine av rfl ?_;refine G.block rfl rfl ?_;refine av rfl ?_;refine G.Jd func155 rfl ?_;refine eF.ay rfl rfl rfl rfl rfl (aP rfl) ?_;refine eF.ay rfl rfl rfl rfl rfl (aP rfl) ?_;refine eF.ay rfl rfl rfl rfl rfl (ai H.JE rfl (hread _ _ hJ)) ?_;refine eF.ay rfl rfl rfl rfl rfl (aP rfl) ?_;refine eF.ay rfl rfl rfl rfl rfl (aj.aH underlying50 H.I9 rfl rfl i rfl ha (by omega)) ?_;refine eF.ay rfl rfl rfl rfl rfl (aj.aE H.M9 H.I9 rfl hrow (by first|rfl|(simp;done)|(simp;omega))) ?_;refine qH (vs:=[_,_]) rfl rfl rfl rfl rfl rfl rfl (hyy) ?_;rintro _ h2 ⟨go,rfl,hJ2,hS2⟩;refine eF.ay rfl rfl rfl rfl rfl (aj.E8 rfl) ?_;refine fQ rfl ?_;refine xu [0,1,3,8,18] rfl ?_;refine aJ rfl rfl (fun hgo=>?_) (fun hgo=>?_)
   · have hgo:go=false:=by simpa using hgo
     refine G.ret func155 rfl rfl ?_;exact⟨_,rfl,.inr (hS2 hgo)⟩
   · have hgo:go=true:=by simpa using hgo
     refine aB rfl ?_;refine G.aR ?_;refine G.cz func155 rfl ?_;refine cI 1 rfl rfl (aj.j9 rfl rfl ⟨by omega,by omega⟩) ?_;refine aN 1 [0,1,3,8,18] rfl ?_;exact ih i _ _ ⟨rfl,rfl,rfl,trivial⟩ ⟨hJ2 hgo,by omega⟩ (by omega)
 · obtain rfl:j=0:=by omega
   refine bD rfl rfl ?_;refine G.xV func155 rfl ?_;exact⟨_,rfl,.inl hJ⟩
theorem rS (v:Value) (hv:v.oneCell'=true):ah Tryz.prog 116 #[v] h (cM fun r h'=>r= .func (.func 155) #[] #[.pointer (some ⟨h.size,0,none⟩)]/\h'=h.push (.cells #[v] 50)):=by
 have hcells:v.cells= #[v]:=by cases v<;>simp[Value.oneCell'] at hv<;>rfl
 refine ah.of func116 rfl rfl ?_;refine xr func116 rfl ?_;refine xo rfl (az.box rfl) ?_;rintro _ _ ⟨rfl,rfl⟩;refine aN 1 [0,1,2] rfl ?_;refine xr func116 rfl ?_;refine xp rfl (aj.makeFunc (vs:=[_]) rfl) ?_;refine aN 1 [0,1,2] rfl ?_;refine G.ret func116 rfl rfl ?_;exact⟨_,rfl,rfl,by rw[hcells]⟩
def CS (b3 b4 b5 cap L:Nat) (r0:Loop) (h:aA) (v:Value) (t:By) (xs:List Bd) (j:Nat) (g:aA):Prop :=
 cO g (L+1) r0/\g[L]? =some (.deferred (some []))/\bh g cap 50 [v]/\bh g b3 9 [.string (bs t)]/\bh g b4 52 (kI 0 0 [] [] 0 [] none 0 0 none 0 0)/\bh g b5 31 [.int .i64 0]/\aC h g/\∀(i:Nat) (y:Bd),j<=i->xs[i]? =some y->y.1≠t
def Gt (b4 b5 L:Nat) (r0:Loop) (h:aA) (t:By) (xs:List Bd) (O:Nat->Prop) (g:aA):Prop :=
 cO g (L+1) { r0 with state:=.done,pending:=some .ret }/\g[L]? =some (.deferred (some []))/\aC h g/\bh g b5 31 [.int .i64 0] /\
 ∃(y:Bd) (nk:Int) (nt:By) (a:Option Addr) (m c:Nat) (ea:Option Addr) (en ec:Nat),bh g b4 52 (kI y.2.kind y.2.num y.2.iu y.2.self nk nt a m c ea en ec)/\fo t xs=(y.2,0)/\eV.R h O (kI y.2.kind y.2.num y.2.iu y.2.self nk nt a m c ea en ec) y.2
theorem DJ {xs:List Bd}(hv:bX eB h O v xs) (hx:xs.length<=1000000) (t:By) :
 ah Tryz.prog 71 #[v,.string (bs t)] h (cM fun r h'=>∃w,r=packed [w,.int .i64 (fo t xs).2]/\dz h' O w (fo t xs).1/\aC h h'):=by
 obtain⟨oa,n,c,rfl,hsl⟩:=hv.open;have hn:=hsl.len;subst hn;refine ah.of func71 rfl rfl ?_;refine xr func71 rfl ?_;refine xo rfl (az.eR rfl) ?_;rintro _ h1 ⟨rfl,k3,e1,z1⟩;refine xo rfl (az.aQ H.gw) ?_;rintro _ h2 ⟨rfl,k4,e2,z2⟩;refine xo rfl (az.aQ H.JR) ?_;rintro _ h3 ⟨rfl,k5,e3,z3⟩;refine xd [0,1,3,4,5] rfl ?_;refine av rfl ?_;refine bl func71 1 rfl ?_;refine xo rfl (aq (vs:=[_]) func116 rfl H.KW rfl (ah.bq (rS (.slice oa xs.length c) rfl))) ?_;rintro _ h4 ⟨rfl,hh4⟩;have e4:aC h3 h4:=by rw[hh4];exact Ext.push _ _ _
 have q6:bh h4 h3.size 50 [.slice oa xs.length c]:=by rw[hh4];exact yJ _ _ _
 have z4:h4.size=h3.size+1:=by rw[hh4];simp
 clear hh4;have k3:bh h4 h.size 9 [.string (bs t)]:=((k3.ax e2).ax e3).ax e4;have k4:bh h4 h1.size 52 (kI 0 0 [] [] 0 [] none 0 0 none 0 0):=(k4.ax e3).ax e4;have k5:bh h4 h2.size 31 [.int .i64 0]:=k5.ax e4;have e04:aC h h4:=((e1.trans e2).trans e3).trans e4;refine xd [0,1,3,4,5,9] rfl ?_;refine G.block rfl rfl ?_;refine G.Dg func71 rfl rfl func155 rfl (by decide +kernel) ?_;intro fid tmps hfits;obtain⟨r0,hr0⟩:∃r0,r0=fH fid tmps #[10,11] (Mq (Lw.sub (aK f71) [0,1,0,1])) (Mp (Lw.sub (aK f71) [0,1,0,1])) h4.size:=⟨_,rfl⟩
 obtain⟨hL,hhL⟩:∃hL,hL=(h4.push (.deferred (some []))).push (.loop r0):=⟨_,rfl⟩
 suffices hmain:ah Tryz.prog 155 #[.func (.yield (h4.size+1)) #[] #[],.pointer (some ⟨h3.size,0,none⟩)] hL _ by rw[hhL,hr0] at hmain;exact hmain
 have hst:r0.state= .ready:=by rw[hr0];rfl
 have hpn:r0.pending=none:=by rw[hr0];rfl
 have hps:r0.params= #[10,11]:=by rw[hr0];rfl
 have htm:r0.tmps=tmps:=by rw[hr0];rfl
 have eL:aC h4 hL:=by rw[hhL];exact(Ext.push _ _ _).trans (Ext.push _ _ _)
 have hLz:hL.size=h4.size+2:=by rw[hhL];simp
 have hloop0:cO hL (h4.size+1) r0:=by
  have hz:h4.size+1=(h4.push (.deferred (some []))).size:=by simp
  rw[cO,hhL,hz];exact Array.getElem?_push_size
 have hdef0:hL[h4.size]? =some (.deferred (some [])):=by
  rw[hhL,(Ext.push (fun _=>False) (h4.push (.deferred (some []))) _).block h4.size (by simp) (fun k=>k)];exact Array.getElem?_push_size
 clear hhL;have hJ0:CS h.size h1.size h2.size h3.size h4.size r0 h (.slice oa xs.length c) t xs xs.length hL:=⟨hloop0,hdef0,q6.ax eL,k3.ax eL,k4.ax eL,k5.ax eL,e04.trans eL,fun i y hi hy=>by rw[List.getElem?_eq_none hi] at hy;cases hy⟩
 refine suff (p:=∀j g,CS h.size h1.size h2.size h3.size h4.size r0 h (.slice oa xs.length c) t xs (j+1) g->j<xs.length->∃(b o:Nat) (y:Bd) (nk:Int) (nt:By) (a:Option Addr) (m c':Nat) (ea:Option Addr) (en ec:Nat),oa=some ⟨b,o,none⟩/\Lw.rowAt g b (o+j*9) (IK y nk nt a m c' ea en ec)/\gG Tryz.prog (h4.size+1) #[.int .i64 (j:Nat),.agg (IK y nk nt a m c' ea en ec).toArray] g (cM fun r h'=>∃go,r= .bool go/\(go=true->CS h.size h1.size h2.size h3.size h4.size r0 h (.slice oa xs.length c) t xs j h')/\(go=false->Gt h1.size h2.size h4.size r0 h t xs O h'))) ?_ ?_
 · intro j g ⟨hlp,hdf,hcap,k3g,k4g,k5g,eg,hno⟩ hj;obtain⟨b,o,y,nk,nt,a,m,c',ea,en,ec,ha,hy,hrow,hR⟩:=Lt hsl hj;refine⟨b,o,y,nk,nt,a,m,c',ea,en,ec,ha,eg.rowAt (fun k=>k) hrow,?_⟩;have hfit:=tV (p1:=10) (p2:=11) (v1:=.int .i64 (j:Nat)) (v2:=.agg (IK y nk nt a m c' ea en ec).toArray) hfits rfl rfl;rw[<-hps,<-htm] at hfit;refine gG.Kn hlp hst (by rw[hps];rfl) hfit ((congrArg Loop.assign hr0).trans rfl) ((congrArg Loop.body hr0).trans rfl) ?_;refine eF.Di rfl rfl rfl rfl rfl (az.aQ H.Mc) ?_;rintro _ g1 ⟨rfl,k8,e1',zz1⟩;refine eF.bB rfl rfl rfl rfl (az.au H.I9 rfl rfl k8 (by first|rfl|(simp;done)|(simp;omega)) (by first|decide|exact of_decide_eq_true rfl|(simp;done)|(simp;omega)) (NR)) ?_;rintro _ g2 ⟨rfl,k8',e2',zz2⟩;refine fQ rfl ?_;have e12:aC g g2:=e1'.only e2' (Nat.le_refl _);have k8':bh g2 g.size 54 (IK y nk nt a m c' ea en ec):=k8';refine⟨(e12.block _ hlp.lt (fun k=>k)).trans hlp,?_⟩;obtain⟨g3,hg3⟩:∃g3,g3=Lw.cA g2 (h4.size+1) (.loop { r0 with state:=.busy }):=⟨_,rfl⟩
   rw[<-hg3];have hlz:=hlp.lt;have hz2:=e12.size;have e23:Ext (fun b=>b=h4.size+1) g2 g3:=by rw[hg3];exact Ext.cA _ _ _ rfl
   have hlp3:cO g3 (h4.size+1) { r0 with state:=.busy }:=by rw[cO,hg3];exact gR (by omega)
   have hz3:=e23.size;have e13:Ext (fun b=>b=h4.size+1) g g3:=(e12.mono fun _ _ k=>k.elim).trans e23;have hs0:=And.intro e1.size (And.intro e2.size (And.intro e3.size e4.size));have l3:¬h.size=h4.size+1:=by omega
   have l4:¬h1.size=h4.size+1:=by omega
   have l5:¬h2.size=h4.size+1:=by omega
   have l6:¬h3.size=h4.size+1:=by omega
   have l8:¬g.size=h4.size+1:=by omega
   have k83:=k8'.ext e23 l8;have k33:=k3g.ext e13 l3;have k43:=k4g.ext e13 l4;have k53:=k5g.ext e13 l5;have cap3:=hcap.ext e13 l6;have hdf3:=(e13.block h4.size (by omega) (by omega)).trans hdf;have eg3:aC h g3:=⟨by have:=eg.size;omega,fun b hb _=>(e13.block b (by have:=eg.size;omega) (by omega)).trans (eg.block b hb (fun k=>k))⟩
   refine eF.ay rfl rfl rfl rfl rfl (af (off:=0) underlying54 rfl rfl H.eG rfl) ?_;refine eF.ay rfl rfl rfl rfl rfl (ai H.fu rfl (k83.cell (i:=0) rfl)) ?_;refine eF.ay rfl rfl rfl rfl rfl (ai H.fu rfl (k33.cell (i:=0) rfl)) ?_;refine eF.ay rfl rfl rfl rfl rfl (aj.bS rfl rfl) ?_;refine fQ rfl ?_;refine⟨_,rfl,fun q=>?_,fun q=>?_⟩
   · have hyt:y.1=t:=bZ (of_decide_eq_true q);refine eF.ay rfl rfl rfl rfl rfl (af (off:=1) underlying54 rfl rfl H.aW rfl) ?_;refine eF.ay rfl rfl rfl rfl rfl (aj.aE H.bR H.aW rfl (F6 k83) (by first|rfl|(simp;done)|(simp;omega))) ?_;refine eF.bB rfl rfl rfl rfl (az.au H.aW rfl rfl k43 (by first|rfl|(simp;done)|(simp;omega)) (by first|decide|exact of_decide_eq_true rfl|(simp;done)|(simp;omega)) (gm)) ?_;rintro _ g5 ⟨rfl,k45,e5',zz5⟩;refine eF.bB rfl rfl rfl rfl (az.bA H.EB rfl rfl (k53.ext e5' (by omega)) (by first|decide|exact of_decide_eq_true rfl|(simp;done)|(simp;omega)) rfl) ?_;rintro _ g6 ⟨rfl,k56,e6',zz6⟩;refine fQ rfl ?_;have k45:bh g5 h1.size 52 (kI y.2.kind y.2.num y.2.iu y.2.self nk nt a m c' ea en ec):=k45;have k56:bh g6 h2.size 31 [.int .i64 0]:=k56;have hlp6:cO g6 (h4.size+1) { r0 with state:=.busy }:=(hlp3.ext e5' (by omega)).ext e6' (by omega);have z36:=e5'.size;have z56:=e6'.size;refine⟨_,hlp6,false,rfl,(fun q=>by cases q),fun _=>?_⟩;obtain⟨g7,hg7⟩:∃g7,g7=Lw.cA g6 (h4.size+1) (.loop { r0 with state:=.done,pending:=some .ret }):=⟨_,rfl⟩
     have e67:Ext (fun b=>b=h4.size+1) g6 g7:=by rw[hg7];exact Ext.cA _ _ _ rfl
     show Gt h1.size h2.size h4.size r0 h t xs O (Lw.cA g6 (h4.size+1) (.loop { r0 with state:=.done,pending:=some .ret }))
     rw[<-hg7];have zeg:=eg.size;refine⟨by rw[cO,hg7];exact gR (by omega),?_,⟨by have:=e67.size;omega,fun b hb _=>?_⟩,k56.ext e67 (by omega),y,nk,nt,a,m,c',ea,en,ec,(k45.ext e6' (by omega)).ext e67 (by omega),FH t hy hyt (fun k z hk hz=>hno k z (by omega) hz),hR⟩
     · rw[e67.block h4.size (by omega) (by omega),e6'.block h4.size (by omega) (by omega),e5'.block h4.size (by omega) (by omega)];exact hdf3
     · rw[e67.block b (by omega) (by omega),e6'.block b (by omega) (by omega),e5'.block b (by omega) (by omega)];exact eg3.block b hb (fun k=>k)
   · have hyt:y.1≠t:=fun e=>of_decide_eq_false q (by rw[e])
     have hr2:({ ({ r0 with state:=.busy }:Loop) with state:=.ready,pending:=none }:Loop)=r0:=by cases r0;simp at hst hpn;simp[hst,hpn]
     refine⟨_,hlp3,true,rfl,fun _=>?_,fun q=>by cases q⟩;rw[hr2];have e34:Ext (fun b=>b=h4.size+1) g3 (Lw.cA g3 (h4.size+1) (.loop r0)):=Ext.cA _ _ _ rfl;have zeg:=eg.size;refine⟨gR (by omega),(e34.block h4.size (by omega) (by omega)).trans hdf3,cap3.ext e34 l6,k33.ext e34 l3,k43.ext e34 l4,k53.ext e34 l5,⟨by have:=e34.size;omega,fun b hb _=>(e34.block b (by omega) (by omega)).trans (eg3.block b hb (fun k=>k))⟩,fun i z hi hz=>?_⟩
     rcases Nat.lt_or_ge j i with q|q
     · exact hno i z q hz
     · obtain rfl:i=j:=by omega
       rw[hy] at hz;cases hz;exact hyt
 · intro hy;refine(qC (l:=h4.size+1) (cap:=h3.size) (n:=xs.length) (c:=c) (J:=CS h.size h1.size h2.size h3.size h4.size r0 h (.slice oa xs.length c) t xs) (S:=Gt h1.size h2.size h4.size r0 h t xs O) hx (fun j g hJ=>hJ.2.2.1.cell (i:=0) rfl) hy hJ0).mono fun e g hJ=>?_
   obtain⟨u,rfl,hJ⟩:=hJ;have hs0:=And.intro e1.size (And.intro e2.size (And.intro e3.size e4.size))
   rcases hJ with hJ|hS
   · obtain⟨hlp,hdf,hcap,k3g,k4g,k5g,eg,hno⟩:=hJ;refine⟨_,rfl,r0,hlp,by rw[hst];decide,.inl ⟨hpn,?_⟩⟩;have hlz:=hlp.lt;have zeg:=eg.size;obtain⟨g1,hg1⟩:∃g1,g1=Lw.cA g (h4.size+1) (.loop { r0 with state:=.exhausted }):=⟨_,rfl⟩
     have x1:Ext (fun b=>b=h4.size+1) g g1:=by rw[hg1];exact Ext.cA _ _ _ rfl
     rw[<-hg1];have k4e:=k4g.ext x1 (by omega);have k5e:=k5g.ext x1 (by omega);refine GD.aR ?_;refine mT rfl ?_;refine GD.cz func71 rfl ?_;refine iG.ay rfl rfl rfl rfl (aG (H.eo ) rfl) ?_;refine iG.bB rfl rfl rfl (az.au H.aW rfl rfl k4e (by first|rfl|(simp;done)|(simp;omega)) (by first|decide|exact of_decide_eq_true rfl|(simp;done)|(simp;omega)) (by first|decide|simp[Value.oneCell'])) ?_;rintro _ g2 ⟨rfl,k42,x2,zz2⟩;refine iG.bB rfl rfl rfl (az.bA H.EB rfl rfl (k5e.ext x2 (by omega)) (by first|decide|exact of_decide_eq_true rfl|(simp;done)|(simp;omega)) rfl) ?_;rintro _ g3 ⟨rfl,k53,x3,zz3⟩;refine jq rfl ?_;refine GD.sub (ρ':=[(0,_),(1,_),(3,_),(4,_),(5,_),(9,_)]) ⟨rfl,rfl,rfl,rfl,rfl,rfl,trivial⟩ ?_;have k53:bh g3 h2.size 31 [.int .i64 4]:=k53;have zx1:=x1.size;have zx2:=x2.size;have zx3:=x3.size
     have hdf3:g3[h4.size]? =some (.deferred (some [])):=by
      rw[x3.block h4.size (by omega) (by omega),x2.block h4.size (by omega) (by omega),x1.block h4.size (by omega) (by omega)];exact hdf
     have x4:Ext (fun b=>b=h4.size) g3 (Lw.cA g3 h4.size (.deferred none)):=Ext.cA _ _ _ rfl;have k44:=(k42.ext x3 (by omega)).ext x4 (by omega);have k54:=k53.ext x4 (by omega);have zx4:=x4.size;refine GD.EO func71 rfl hdf3 (.cons (aI.row (t:=52) (by kernel_rfl) (by kernel_rfl) rfl k44.row) (.cons (aI.cell (t:=31) (by kernel_rfl) rfl (k54.cell (i:=0) rfl)) .nil)) ?_;have hf:fo t xs=(iJ,4):=tU t fun i y hy=>hno i y (Nat.zero_le _) hy
     rw[hf];exact⟨_,rfl,_,rfl,gI _ _,⟨by omega,fun b hb _=>by rw[x4.block b (by omega) (by omega),x3.block b (by omega) (by omega),x2.block b (by omega) (by omega),x1.block b (by omega) (by omega)];exact eg.block b hb (fun k=>k)⟩⟩
   · obtain⟨hlp,hdf,eg,k5g,y,nk,nt,a,m,c',ea,en,ec,k4g,hf,hR⟩:=hS;have hlz:=hlp.lt;have zeg:=eg.size;refine⟨_,rfl,_,hlp,(by simp),.inr ⟨rfl,hdf,?_⟩⟩;obtain⟨g1,hg1⟩:∃g1,g1=Lw.cA g (h4.size+1) (.loop { ({ r0 with state:=.done,pending:=some .ret }:Loop) with state:=.exhausted }):=⟨_,rfl⟩
     have x1:Ext (fun b=>b=h4.size+1) g g1:=by rw[hg1];exact Ext.cA _ _ _ rfl
     rw[<-hg1];have x2:Ext (fun b=>b=h4.size) g1 (Lw.cA g1 h4.size (.deferred none)):=Ext.cA _ _ _ rfl;have zx1:=x1.size;have zx2:=x2.size;have k4e:=(k4g.ext x1 (by omega)).ext x2 (by omega);have k5e:=(k5g.ext x1 (by omega)).ext x2 (by omega);have e0:aC h (Lw.cA g1 h4.size (.deferred none)):=⟨by omega,fun b hb _=>by rw[x2.block b (by omega) (by omega),x1.block b (by omega) (by omega)];exact eg.block b hb (fun k=>k)⟩
     refine⟨_,.cons (aI.row (t:=52) (by kernel_rfl) (by kernel_rfl) rfl k4e.row) (.cons (aI.cell (t:=31) (by kernel_rfl) rfl (k5e.cell (i:=0) rfl)) .nil),?_⟩;rw[hf];exact⟨_,rfl,_,rfl,dz.of (Av hR e0 fun _ _ q=>q),e0⟩
end
end Go.Proofs.YtmehdcdbeafljaaGreatDoor
namespace Go.Proofs.YtmehdcdbeafljaaGreatDoor
open Go Go.Lw
section
variable {B m:Nat}
theorem dB (b:Nat):okV b iJ:=l7 b 0 0 [] (by decide)
theorem rX (b:Nat) (x:Bool):okV b (dA x):=l7 b _ _ [] (by decide)
theorem rY (b:Nat) (n:Int):okV b (dP n):=l7 b _ _ [] (by decide)
theorem As {b:Nat}(t:By):∀{l:List Bd},(∀p∈l,okV b p.2)->okV b (fo t l).1
 | [],_=>dB b
 |p::r,h=>by
  have ih:=As t (l:=r) (fun q hq=>h q (by simp[hq]));rw[fo];split
  · exact ih
  · split
    · exact h p (by simp)
    · exact dB b
theorem CE (b:Nat) (op:By) (w:Int):okV b (iy op w).1:=by
 unfold iy;repeat' split
 all_goals first|exact rX _ _|exact dB _
theorem E6 (b:Nat) (op:By) (x y:Int):okV b (bI op x y).1:=by
 unfold bI;simp only;repeat' split
 all_goals first|exact rY _ _|exact dB _|exact CE _ _ _
theorem IW (b:Nat) (op:By) (v:Vl):okV b (GG op v).1:=by
 unfold GG;repeat' split
 all_goals first|exact rX _ _|exact rY _ _|exact dB _
theorem Hw (b:Nat) (op:By) (x y:Vl):okV b (uz op x y).1:=by
 unfold uz;repeat' split
 all_goals first|exact rX _ _|exact dB _|exact CE _ _ _|exact E6 _ _ _ _|(rename_i h;exact l7 _ _ _ _ (by rw[List.length_append];omega))
def LG (B m:Nat) (r:Out):Prop:=r.2.2<=m/\okV (B-2*r.2.2) r.1/\(r.2.1=0->r.2.2<m)
def Gq (B m:Nat) (r:Out):Prop:=r.2.2<=m/\okV (B-2*r.2.2) r.1
def JK (B:Nat) (ev:Ev):Prop:=∀m env n,2*m<=B->vj (B-2*m) env->n.wt<=1000000->LG B m (ev m env n)
theorem de {k:Int}{t:By}{l:List Tr}(h:(Tr.mk k t l).wt<=1000000) (i:Nat):(l.getD i cP).wt<=1000000:=by
 rw[List.getD_eq_getElem?_getD];cases hi:l[i]? with
 |none=>decide
 |some x =>
  have:=wM (List.mem_of_getElem? hi);rw[Tr.wt] at h
  show x.wt<=_
  omega
theorem ie {m':Nat}{l:List Bd}(h:vj (B-2*m) l) (hm:m'<=m):vj (B-2*m') l:=h.le (by omega)
theorem kq {m':Nat}{l:List Bd}(h:vj (B-2*m) l) (hm:m'<m) (hB:2*m<=B){v:Vl}(hv:okV (B-2*m') v) (t:By):vj (B-2*m') (l++[(t,v)]):=by
 refine⟨?_,fun p hp=>?_⟩
 · rw[List.length_append];have:=h.1;simp;omega
 · rcases List.mem_append.1 hp with hp|hp
   · exact(h.2 p hp).le (by omega)
   · simp at hp;subst hp;exact hv
theorem uy {B:Nat}{ev:Ev}(hev:JK B ev):∀(l:List Tr) (m:Nat) (env:List Bd) (v:Vl),2*m<=B->vj (B-2*m) env->(∀x∈l,x.wt<=1000000)->okV (B-2*m) v->Gq B m (jT ev m env l v)
 | [],m,env,v,_,_,_,hv=>⟨Nat.le_refl _,hv⟩
 |n::r,m,env,v,hB,he,hl,hv=>by
  have h1:=hev m env n hB he (hl n (by simp));rw[jT];generalize ev m env n=o at h1;obtain⟨w,e,m'⟩:=o;obtain⟨a1,a2,a3⟩:=h1;dsimp only at a1 a2 a3 ⊢;have hr:∀x∈r,x.wt<=1000000:=fun x hx=>hl x (by simp[hx])
  split
  · exact⟨a1,dB _⟩
  · rename_i h0;have h0:e=0:=Classical.not_not.1 h0;have hlt:=a3 h0;split
    · have:=uy hev r m' _ (lZ w n.text) (by omega) (kq he hlt hB (mW a2 n.text) n.text) hr (mW a2 _);exact⟨Nat.le_trans this.1 a1,this.2⟩
    · have:=uy hev r m' env w (by omega) (ie he a1) hr a2;exact⟨Nat.le_trans this.1 a1,this.2⟩
theorem FQ {d:Nat}(hev:JK B (bE d)){env:List Bd}{n:Tr}(hB:2*(m+1)<=B) (he:vj (B-2*(m+1)) env) (hn:n.wt<=1000000):Gq B m (bE (d+1) (m+1) env n):=by
 obtain⟨k,t,l⟩:=n;have hB':2*m<=B:=by omega
 have he':=ie he (Nat.le_succ m);have wu:=de hn;have tt:t.length<=1000000:=by rw[Tr.wt] at hn;omega
 have k0:=hev m env (l.getD 0 cP) hB' he' (wu 0);rw[bE];split
 · split
   · exact⟨Nat.le_refl _,rY _ _⟩
   · exact⟨Nat.le_refl _,dB _⟩
 · split
   · split
     · exact⟨Nat.le_refl _,dB _⟩
     · exact⟨Nat.le_refl _,l7 _ _ _ _ tt⟩
   · split
     · exact⟨Nat.le_refl _,rX _ _⟩
     · split
       · exact⟨Nat.le_refl _,As t he'.2⟩
       · split
         · exact⟨Nat.le_refl _,Bl tt (wu 0) he'⟩
         · split
           · exact uy hev l m env iJ hB' he' (fun x hx=>by have:=wM hx;rw[Tr.wt] at hn;omega) (dB _)
           · split
             · unfold G1;generalize bE d m env (l.getD 0 cP)=o at k0;obtain⟨w,e,m'⟩:=o;obtain⟨a1,a2,a3⟩:=k0;dsimp only at a1 a2 a3 ⊢;split
               · exact⟨a1,a2⟩
               · rename_i h0;have hlt:=a3 (Classical.not_not.1 (fun q=>h0 (.inl q)));have:=hev m' _ (l.getD 1 cP) (by omega) (kq he' hlt hB' (mW a2 t) t) (wu 1);exact⟨Nat.le_trans this.1 a1,this.2.1⟩
             · split
               · unfold L7;generalize bE d m env (l.getD 0 cP)=o at k0;obtain⟨w,e,m'⟩:=o;obtain⟨a1,a2,a3⟩:=k0;dsimp only at a1 a2 a3 ⊢;split
                 · exact⟨a1,dB _⟩
                 · split
                   · exact⟨a1,dB _⟩
                   · split
                     · have:=hev m' env (l.getD 1 cP) (by omega) (ie he' a1) (wu 1);exact⟨Nat.le_trans this.1 a1,this.2.1⟩
                     · have:=hev m' env (l.getD 2 cP) (by omega) (ie he' a1) (wu 2);exact⟨Nat.le_trans this.1 a1,this.2.1⟩
               · split
                 · unfold CG;generalize bE d m env (l.getD 0 cP)=o at k0;obtain⟨f,e,m1⟩:=o;obtain⟨a1,a2,a3⟩:=k0;dsimp only at a1 a2 a3 ⊢;split
                   · exact⟨a1,dB _⟩
                   · rename_i h0;have hlt:=a3 (Classical.not_not.1 h0);have k1:=hev m1 env (l.getD 1 cP) (by omega) (ie he' a1) (wu 1);generalize bE d m1 env (l.getD 1 cP)=o at k1;obtain⟨x,e,m2⟩:=o;obtain⟨b1,b2,b3⟩:=k1;dsimp only at b1 b2 b3 ⊢;split
                     · exact⟨by dsimp only;omega,dB _⟩
                     · rename_i h1;have hlt2:=b3 (Classical.not_not.1 h1);split
                       · exact⟨by dsimp only;omega,dB _⟩
                       · split
                         · exact⟨by dsimp only;omega,dB _⟩
                         · obtain⟨_,f2,f3⟩:=a2.get
                           have hin:vj (B-2*m2) ((if f.self≠[] then f.env++[(f.self,f)] else f.env)++[(f.iu,x)]):=by
                            split
                            · refine⟨?_,fun p hp=>?_⟩
                              · rw[List.length_append,List.length_append];have:=f3.1;simp;omega
                              · rcases List.mem_append.1 hp with hp|hp
                                · rcases List.mem_append.1 hp with hp|hp
                                  · exact(f3.2 p hp).le (by omega)
                                  · simp at hp;subst hp;exact a2.le (by omega)
                                · simp at hp;subst hp;exact b2
                            · exact kq f3 hlt2 (by omega) b2 f.iu
                           have:=hev m2 _ f.body (by omega) hin f2;exact⟨Nat.le_trans this.1 (by omega),this.2.1⟩
                 · split
                   · unfold En;generalize bE d m env (l.getD 0 cP)=o at k0;obtain⟨w,e,m'⟩:=o;obtain⟨a1,a2,a3⟩:=k0;dsimp only at a1 a2 a3 ⊢;split
                     · exact⟨a1,dB _⟩
                     · exact⟨a1,IW _ _ _⟩
                   · unfold yZ;generalize bE d m env (l.getD 0 cP)=o at k0;obtain⟨a,e,m1⟩:=o;obtain⟨a1,a2,a3⟩:=k0;dsimp only at a1 a2 a3 ⊢;split
                     · exact⟨a1,dB _⟩
                     · have k1:=hev m1 env (l.getD 1 cP) (by omega) (ie he' a1) (wu 1);generalize bE d m1 env (l.getD 1 cP)=o at k1;obtain⟨x,e,m2⟩:=o;obtain⟨b1,b2,b3⟩:=k1;dsimp only at b1 b2 b3 ⊢;split
                       · split
                         · exact⟨a1,dB _⟩
                         · split
                           · exact⟨a1,a2⟩
                           · split
                             · exact⟨by dsimp only;omega,dB _⟩
                             · exact⟨by dsimp only;omega,b2⟩
                       · split
                         · exact⟨by dsimp only;omega,dB _⟩
                         · exact⟨by dsimp only;omega,Hw _ _ _ _⟩
theorem iL (B:Nat):∀d,JK B (bE d)
 | 0=>fun m env n hB he hn=>⟨Nat.le_refl _,dB _,fun k=>by cases k⟩
 |d+1=>fun m env n hB he hn=>by
  cases m with
  |zero=>obtain⟨k,t,l⟩:=n;rw[bE];exact⟨Nat.le_refl _,dB _,fun k=>by cases k⟩
  |succ m =>
   have h:=FQ (iL B d) hB he hn;exact⟨Nat.le_succ_of_le h.1,h.2,fun _=>Nat.lt_succ_of_le h.1⟩
end
end Go.Proofs.YtmehdcdbeafljaaGreatDoor
namespace Go.Proofs.YtmehdcdbeafljaaGreatDoor
open Go
abbrev V (W:By->Bool) (t:Tr):Prop:=cU W t=true
def E (W:By->Bool) (t:Tr):Prop:=V W t/\(t.kind≠7\/t.kids.length=2)
theorem Na {W:By->Bool}{k:Int}{t:By}{l:List Tr}:V W (.mk k t l)↔iV W k t l.length=true/\ir W k 0 l=true:=by
 show (iV W k t l.length && ir W k 0 l)=true↔_
 rw[Bool.and_eq_true]
end Go.Proofs.YtmehdcdbeafljaaGreatDoor
namespace Go.Proofs.YtmehdcdbeafljaaGreatDoor
open Go Go.Lw
section
variable (W:By->Bool) (U:By->Prop)
mutual
inductive RV:Vl->Vl->Prop
 |mk {k n:Int}{s f:By}{b:Tr}{e e':List Bd}:(cU cN b=true->V W b)->RE e e'->RV (.mk k n s f b e) (.mk k n s f b e')
inductive RE:List Bd->List Bd->Prop
 |nil:RE [] []
 |cons {t:By}{v w:Vl}{e f:List Bd}:RV v w->RE e f->RE ((t,v)::e) ((t,w)::f)
 |skip {t:By}{w:Vl}{e f:List Bd}:U t->RE e f->RE e ((t,w)::f)
end
end
variable {W:By->Bool}{U:By->Prop}
def Cl (W:By->Bool) (n:Tr):Prop:=V W n\/n=cP
theorem sx {k:Int}:∀{l:List Tr}{i:Nat},ir W k i l=true->∀x∈l,V W x
 | [],_,_,x,hx=>by cases hx
 |y::l,i,h,x,hx=>by
  have h:((cU W y && Cv k i y) && ir W k (i+1) l)=true:=h;rw[Bool.and_eq_true,Bool.and_eq_true] at h
  rcases List.mem_cons.1 hx with rfl|hx
  · exact h.1.1
  · exact sx h.2 x hx
theorem Cl.wu {k:Int}{t:By}{l:List Tr}(h:Cl W (.mk k t l)) (i:Nat):Cl W (l.getD i cP):=by
 rw[List.getD_eq_getElem?_getD];cases hi:l[i]? with
 |none=>exact .inr rfl
 |some x =>
  rcases h with h|h
  · exact .inl (sx (Na.1 h).2 x (List.mem_of_getElem? hi))
  · cases h;cases hi
end Go.Proofs.YtmehdcdbeafljaaGreatDoor

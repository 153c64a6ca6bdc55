/- What the proof of the statement leans on (part 26). -/
import Derived.Below
import Derived.Lib.TrimUEq
import Derived.Test.YtmehdcdbeafljaaGreatDoorQy

namespace Go.Proofs.YtmehdcdbeafljaaGreatDoor
open Go.Proofs.Tryz
open Go Go.Lw
set_option maxRecDepth 20000
section
variable {h:az}{p:Value}
def I0 (h:az):Prop:=(∀c,c<256->cellAt h ⟨5,c,none⟩=some (.int .u8 (Lib.firstT c))) /\
 (∀i,i<16->cellAt h ⟨6,2*i,none⟩=some (.int .u8 (Lib.accLo i))/\cellAt h ⟨6,2*i+1,none⟩=some (.int .u8 (Lib.accHi i)))
structure Bm (h:az):Prop where
 sg:∃lim,lim<=h.size/\Sg h lim
 tens:sy h
 rules:lF h
 utf:I0 h
 most:∃m,cellAt h ⟨9,0,none⟩=some (.int .i64 m)
theorem Bm.ay {h h':az}(k:Bm h) (e:aD h h'):Bm h':=by
 obtain⟨⟨lim,h1,h2⟩,h3,h4,h5,m,h6⟩:=k;have hz:=e.size;exact⟨⟨lim,by omega,h2.ext e (fun _ k=>k.elim)⟩,h3.ay e,h4.ay e,⟨fun c hc=>e.cell (fun k=>k) (h5.1 c hc),fun i hi=>⟨e.cell (fun k=>k) (h5.2 i hi).1,e.cell (fun k=>k) (h5.2 i hi).2⟩⟩,m,e.cell (fun k=>k) h6⟩
theorem yT (hg:Bm h) (l:By) (hl:l≠[]):ah Tryz.prog 111 #[.string (bs l)] h (cT fun r h'=>(∃x:Nat,r= .tuple #[.int .i32 (x:Nat),.int .i64 (cW l:Nat)])/\aD h h'):=by
 refine ah.yo fun w hw=>?_
 subst hw;have hT:Lib.Utf8Tabs 5 6 w:=⟨fun c hc=>by rw[dM];exact hg.utf.1 c hc,fun i hi=>⟨by rw[dM];exact(hg.utf.2 i hi).1,by rw[dM];exact(hg.utf.2 i hi).2⟩⟩
 refine(Tryz.utf8_DecodeRuneInString (bs l) w hT).mono ?_;rintro e w' ⟨rfl,hb⟩
 have hn:(Lib.decodeGo (bs l)).2=cW l:=by
  have h0:¬(bs l).size=0:=by rw[bu];have:=List.length_pos_iff.2 hl;omega
  unfold Lib.decodeGo;rw[if_neg h0,Lib.decode_N,gK];rfl
 refine⟨_,rfl,⟨⟨(Lib.decodeGo (bs l)).1,by rw[hn]⟩,⟨hb.size,fun b hlt _=>hb.block b hlt⟩⟩,hb.os,hb.tape,hb.output⟩
theorem mL (hg:Bm h) (s t:By) (hs:s.length<=1000000):ah Tryz.prog 113 #[.string (bs s),.string (bs t)] h (cT fun r h'=>r= .bool (Lib.contains s t)/\h'=h):=by
 obtain⟨m,hm⟩:=hg.most;refine ah.yo fun w hw=>?_
 subst hw;refine(Tryz.strings_Contains (bs s) (bs t) m w (by rw[bu];omega) (by rw[dM];exact hm)).mono ?_;rintro e w' ⟨rfl,rfl⟩;rw[gK,gK];exact⟨_,rfl,⟨rfl,rfl⟩,rfl,rfl,rfl⟩
theorem sX (hg:Bm h) (s:By) (hs:s.length<=1000000):ah Tryz.prog 67 #[.string (bs s)] h (cT fun r h'=>r= .bool (de s)/\h'=h):=by
 have hbs:=bu s
 have e1:((⟨#[32]⟩:ByteArray)++bs s)++⟨#[32]⟩=bs (32::(s++[32])):=by
  rw[show (⟨#[32]⟩:ByteArray)=bs [32] from rfl,cS,cS];rfl
 have w1:(⟨#[32]⟩:ByteArray).size=1:=rfl;refine ah.of func67 rfl rfl ?_;refine aY func67 1 [0,2] rfl ?_;refine av rfl ?_;refine G.bE [(2,.bool (de s))] [(0,_)] ⟨rfl,trivial⟩ func67 rfl ?_ ?_
 · refine ct 1 rfl rfl (aj.qA rfl rfl) ?_;refine bf 1 rfl ?_;refine aN (d:=5) rfl (fun hc=>?_) (fun hc=>?_)
   · have hc':decide (s≠[])=true:=decide_eq_true (fun e=>of_decide_eq_true hc (by rw[e];rfl));refine bf 1 rfl ?_;refine xo rfl (aq (vs:=[_,_]) func113 rfl H.IE rfl (ah.br (mL hg s [32] hs))) ?_;rintro _ h0 ⟨rfl,hh0⟩;subst hh0;refine bf 3 rfl ?_;refine aN (d:=10) rfl (fun hc2=>?_) (fun hc2=>?_)
     · refine ct 1 rfl rfl (aj.bR rfl rfl (by omega)) ?_;refine xp rfl (aj.bR rfl rfl (by rw[ByteArray.size_append];omega)) ?_;rw[e1];refine xo rfl (aq (vs:=[_,_]) func113 rfl H.IE rfl (ah.br (mL hg EO (32::(s++[32])) (by decide)))) ?_;rintro _ h1 ⟨rfl,hh1⟩;subst hh1;refine bf 2 rfl ?_;refine aE rfl ?_;exact⟨rfl,aF rfl (by rw[de,hc',hc2,Bool.true_and,Bool.true_and]),rfl,trivial⟩
     · refine bf 6 rfl ?_;refine aE rfl ?_;exact⟨rfl,aF rfl (by rw[de,hc',hc2,Bool.true_and,Bool.false_and]),rfl,trivial⟩
   · refine bf 11 rfl ?_;refine aE rfl ?_;exact⟨rfl,aF rfl (by rw[de,decide_eq_false (fun k=>of_decide_eq_false hc (fun e=>k (eK (m:=[]) e))),Bool.false_and]),rfl,trivial⟩
 · refine G.ret func67 rfl rfl ?_;exact⟨_,rfl,rfl,rfl⟩
theorem Ed {m:Nat}(hm:m<3){i:Nat}:(n5 m)[i]?.map (fun r=>(r.2.1,r.2.2))=(rI m)[i]? :=by
 have h:(n5 m).map (fun r=>(r.2.1,r.2.2))=rI m:=by
  match m,hm with
  | 0,_=>decide
  | 1,_=>decide
  | 2,_=>decide
 rw[<-h,List.getElem?_map]
theorem qE {m:Int}(h:m<0\/3<=m):rI m=[]:=by
 unfold rI;rw[if_neg (by omega),if_neg (by omega),if_neg (by omega)]
theorem El {α:Type}{l:List α}{kn:Nat}{n:Int}(hk:l.length=kn) (hn:¬n<0):decide ((kn:Int)<=n)= !(l[n.toNat]?).isSome:=by
 cases hq:l[n.toNat]? with
 |none=>have:=List.getElem?_eq_none_iff.1 hq;simp;omega
 |some v=>have:=(List.getElem?_eq_some_iff.1 hq).1;simp;omega
theorem uK (hg:Bm h) (m n:Int):ah Tryz.prog 112 #[.int .i64 m,.int .i64 n] h (cT fun r h'=>(∃x:By×Int×Int,r= .tuple #[.agg (fh x).toArray,.bool (eI m n).isSome]/\∀p,eI m n=some p->(x.2.1,x.2.2)=p)/\aD h h'):=by
 refine ah.of func112 rfl rfl ?_;refine xr func112 rfl ?_;refine xo rfl (aA.aX H.zw) ?_;rintro _ h1 ⟨rfl,k1,e1,z1⟩;have k1:bh h1 h.size 144 [.string ⟨#[]⟩,.int .i64 0,.int .i64 0]:=k1
 have hrow:∀mm:Nat,mm<3->∃oa kn kc,cellAt h1 ⟨0,0+mm*1,none⟩=some (.slice oa kn kc)/\Sl Jw h1 (fun _=>False) oa kn kc (n5 mm):=fun mm hmm=>by
  obtain⟨v,hv,hsl⟩:=(hg.rules.ay e1) mm hmm;obtain⟨oa,kn,kc,rfl,h2⟩:=hsl.open;exact⟨oa,kn,kc,by rw[Nat.mul_one,Nat.zero_add];exact hv,h2⟩
 have hlenT:∀mm:Nat,mm<3->(n5 mm).length=(rI mm).length:=fun mm hmm=>by
  match mm,hmm with
  | 0,_=>rfl
  | 1,_=>rfl
  | 2,_=>rfl
 refine aS 1 [0,1,4,5] rfl ?_;refine av rfl ?_;refine av rfl ?_;refine G.bE [(23,.bool (!(eI m n).isSome))] [(0,_),(1,_),(4,_),(5,_)] ⟨rfl,rfl,rfl,rfl,trivial⟩ func112 rfl ?_ ?_
 · refine bf 3 rfl ?_;refine aN (d:=8) rfl (fun c1=>?_) (fun c1=>?_)
   · have c1':=of_decide_eq_true c1;refine bf 15 rfl ?_;refine aE rfl ?_;exact⟨rfl,aF rfl (by rw[eI,qE (.inl c1')];simp),rfl,rfl,rfl,rfl,trivial⟩
   · have c1':=of_decide_eq_false c1;refine bf 4 rfl ?_;refine aN (d:=12) rfl (fun c2=>?_) (fun c2=>?_)
     · have c2':=of_decide_eq_true c2;refine bf 11 rfl ?_;refine aE rfl ?_;exact⟨rfl,aF rfl (by rw[eI,qE (.inr c2')];simp),rfl,rfl,rfl,rfl,trivial⟩
     · have c2':=of_decide_eq_false c2;refine bf 4 rfl ?_;refine aN (d:=16) rfl (fun c3=>?_) (fun c3=>?_)
       · have c3':=of_decide_eq_true c3;refine bf 7 rfl ?_;refine aE rfl ?_;exact⟨rfl,aF rfl (by rw[eI,if_pos c3'];rfl),rfl,rfl,rfl,rfl,trivial⟩
       · have c3':=of_decide_eq_false c3;obtain⟨mm,rfl⟩:=Int.eq_ofNat_of_zero_le (show 0<=m by omega);have hmm:mm<3:=by omega
         obtain⟨oa,kn,kc,hv,hsl⟩:=hrow mm hmm;have hkl:=hsl.len;rw[hlenT mm hmm] at hkl;refine ct 2 rfl rfl (aj.cK underlying145 H.E4 rfl rfl mm rfl (by omega)) ?_;refine xp rfl (ai H.Dp rfl hv) ?_;refine xp rfl (aj.aK underlying142 rfl) ?_;refine bf 2 rfl ?_;refine aE rfl ?_;exact⟨rfl,aF rfl (by rw[eI,if_neg c3'];exact El hkl c3'),rfl,rfl,rfl,rfl,trivial⟩
 · rcases hf:eI m n with _|p
   · refine aG rfl rfl (fun _=>?_) (fun hc=>absurd hc (by simp));refine xr func112 rfl ?_;refine xp rfl (aP (H.JB ) rfl) ?_;refine RW.b9 rfl rfl rfl (aA.aC H.jX rfl rfl k1 (by first|rfl|(simp;done)|(simp;omega)) (by first|decide|exact of_decide_eq_true rfl|(simp;done)|(simp;omega)) (by first|decide|simp[Value.oneCell'])) ?_;rintro _ h2 ⟨rfl,k2,x2,z2⟩;refine aS 1 [0,1,4,5,23] rfl ?_;have k2:bh h2 h.size 144 (fh ([],0,0)):=k2;refine G.cQ func112 rfl (.cons (bl.cI H.Bc H.jX rfl (k2.row) (by first|rfl|(simp;done)|(simp;omega))) (.cons (bl.tmp rfl) (.nil))) ?_;exact⟨_,rfl,⟨([],0,0),rfl,fun p hp=>by cases hp⟩,e1.only x2 (Nat.le_refl _)⟩
   · have hn0:0<=n:=by
      by_cases q:n<0
      · rw[eI,if_pos q] at hf;cases hf
      · omega
     have hm0:0<=m/\m<3:=by
      by_cases q:m<0\/3<=m
      · rw[eI,qE q] at hf;simp at hf
      · omega
     obtain⟨mm,rfl⟩:=Int.eq_ofNat_of_zero_le hm0.1;obtain⟨i,rfl⟩:=Int.eq_ofNat_of_zero_le hn0;have hmm:mm<3:=by omega
     obtain⟨oa,kn,kc,hv,hsl⟩:=hrow mm hmm;have hkl:=hsl.len;rw[eI,if_neg (by omega),Int.toNat_natCast,<-Ed hmm] at hf;obtain⟨r,hr,hrp⟩:=Option.map_eq_some_iff.1 hf;obtain⟨b3,o3,cs3,ha3,_,hrow3,rfl⟩:=hsl.get i r hr;have hil:=(List.getElem?_eq_some_iff.1 hr).1;refine aG rfl rfl (fun hc=>absurd hc (by simp)) (fun _=>?_);refine aB rfl ?_;refine bp func112 1 rfl ?_;refine xp rfl (aj.cK underlying145 H.E4 rfl rfl mm rfl (by omega)) ?_;refine xp rfl (ai H.Dp rfl hv) ?_;refine ct 1 rfl rfl (aj.ax underlying142 H.jX rfl rfl i rfl ha3 (by omega)) ?_;refine xp rfl (aj.aH H.Bc H.jX rfl hrow3 (by first|rfl|(simp;done)|(simp;omega))) ?_;refine RW.b9 rfl rfl rfl (aA.aC H.jX rfl rfl k1 (by first|rfl|(simp;done)|(simp;omega)) (by first|decide|exact of_decide_eq_true rfl|(simp;done)|(simp;omega)) (oX r)) ?_;rintro _ h2 ⟨rfl,k2,x2,z2⟩;refine aS 1 [0,1,4,5,23] rfl ?_;have k2:bh h2 h.size 144 (fh r):=k2;refine G.cQ func112 rfl (.cons (bl.cI H.Bc H.jX rfl (k2.row) (by first|rfl|(simp;done)|(simp;omega))) (.cons (bl.tmp rfl) (.nil))) ?_;exact⟨_,rfl,⟨r,rfl,fun p hp=>by cases hp;exact hrp⟩,e1.only x2 (Nat.le_refl _)⟩
theorem Ca (hg:Bm h) (m n:Int):ah Tryz.prog 66 #[.int .i64 m,.int .i64 n] h (cT fun r h'=>r= .int .i64 (eV m n)/\aD h h'):=by
 refine ah.of func66 rfl rfl ?_;refine aY func66 1 [0,1,4] rfl ?_;refine bp func66 2 rfl ?_;refine xo rfl (aq (vs:=[_,_]) func112 rfl H.IF rfl (ah.br (uK hg m n))) ?_;rintro _ h1 ⟨⟨x,rfl,hx⟩,e1⟩;refine bf 3 rfl ?_;refine xo rfl (aA.aX H.zw) ?_;rintro _ h2 ⟨rfl,k2,e2,z2⟩;refine RW.b9 rfl rfl rfl (aA.aC H.jX rfl rfl k2 (by first|rfl|(simp;done)|(simp;omega)) (by first|decide|exact of_decide_eq_true rfl|(simp;done)|(simp;omega)) (oX x)) ?_;rintro _ h3 ⟨rfl,k3,x3,z3⟩;have k3:bh h3 h1.size 144 (fh x):=k3;have e3:aD h1 h3:=e2.only x3 (Nat.le_refl _)
 rcases hf:eI m n with _|p
 · refine aS 1 [0,1,4,5,6] rfl ?_;refine av rfl ?_;refine aY func66 2 [0,1,4,5,6,14] rfl ?_;refine aG rfl rfl (fun _=>?_) (fun hc=>absurd hc (by simp));refine aY func66 1 [0,1,4,5,6,14] rfl ?_;refine G.ret func66 rfl rfl ?_;exact⟨_,rfl,by rw[eV,hf];rfl,e1.trans e3⟩
 · have hp:=hx p hf;refine aS 1 [0,1,4,5,6] rfl ?_;refine av rfl ?_;refine aY func66 2 [0,1,4,5,6,14] rfl ?_;refine aG rfl rfl (fun hc=>absurd hc (by simp)) (fun _=>?_);refine aB rfl ?_;refine xr func66 rfl ?_;refine xp rfl (af (off:=1) underlying144 rfl rfl H.bW rfl) ?_;refine xp rfl (ai H.cM rfl (k3.cell (i:=1) rfl)) ?_;refine aS 1 [0,1,4,5,6,14] rfl ?_;refine G.ret func66 rfl rfl ?_;exact⟨_,rfl,by rw[eV,hf,<-hp];rfl,e1.trans e3⟩
def cz (s:gC):List Value:=[.int .i64 s.1,.int .i64 s.2]
theorem fS (s:gC):∀v∈cz s,v.oneCell'=true:=fun v hv=>by simp[cz] at hv;rcases hv with rfl|rfl<;>rfl
def G7 (i:Int):Prop:= -9223372036854775808<=i/\i<=9223372036854775807
theorem rZ (hg:Bm h) (s:gC) (n:Int) (hs:G7 s.2):ah Tryz.prog 68 #[.agg (cz s).toArray,.int .i64 n] h (cT fun r h'=>r= .agg (cz (cN s n)).toArray/\aD h h'):=by
 obtain⟨m,d⟩:=s;obtain⟨hd1,hd2⟩:=hs;simp only at hd1 hd2;refine ah.of func68 rfl rfl ?_;refine xr func68 rfl ?_;refine xo rfl (aA.gu rfl) ?_;rintro _ h1 ⟨rfl,k1,e1,z1⟩;refine xo rfl (aA.aX H.xJ) ?_;rintro _ h2 ⟨rfl,k2,e2,z2⟩;have k1:bh h1 h.size 41 [.int .i64 m,.int .i64 d]:=k1;have k2:bh h2 h1.size 41 [.int .i64 0,.int .i64 0]:=k2;have e02:=e1.trans e2;have q1:=k1.ay e2;refine xd [0,1,2,4] rfl ?_;refine xr func68 rfl ?_;refine xp rfl (af (off:=0) underlying41 rfl rfl H.bW rfl) ?_;refine xp rfl (ai H.cM rfl (q1.cell (i:=0) rfl)) ?_;refine bf 1 rfl ?_;refine xo rfl (aq (vs:=[_,_]) func112 rfl H.IF rfl (ah.br (uK (hg.ay e02) m n))) ?_;rintro _ h3 ⟨⟨x,rfl,hx⟩,e3⟩;refine bf 3 rfl ?_;refine xo rfl (aA.aX H.zw) ?_;rintro _ h4 ⟨rfl,k4,e4,z4⟩;refine RW.b9 rfl rfl rfl (aA.aC H.jX rfl rfl k4 (by first|rfl|(simp;done)|(simp;omega)) (by first|decide|exact of_decide_eq_true rfl|(simp;done)|(simp;omega)) (oX x)) ?_;rintro _ h5 ⟨rfl,k5,x5,z5⟩;have k5:bh h5 h3.size 144 (fh x):=k5;have e45:aD h3 h5:=e4.only x5 (Nat.le_refl _);have e25:=e3.trans e45;have e05:=e02.trans e25;have s1:=q1.ay e25;have s2:=k2.ay e25;have hz1:=e1.size;have hz2:=e2.size;have hz5:=e25.size;have hne:¬h.size=h1.size:=by omega
 have hout:∀{g:az},Ext (fun b=>b=h1.size) h5 g->aD h g:=fun e=>aD.only e05 e hz1
 rcases hf:eI m n with _|p
 · have haf:cN (m,d) n=(m,d):=by unfold cN;rw[hf]
   refine aS 1 [0,1,2,4,5,6] rfl ?_;refine av rfl ?_;refine G.block rfl rfl ?_;refine av rfl ?_;refine aY func68 3 [0,1,2,4,5,6,14] rfl ?_;refine aG rfl rfl (fun _=>?_) (fun hc=>absurd hc (by simp));refine aB rfl ?_;refine aG rfl rfl (fun _=>?_) (fun hc=>absurd hc (by simp));refine xr func68 rfl ?_;refine xp rfl (aj.aH H.iE H.ey rfl s1.row (by first|rfl|(simp;done)|(simp;omega))) ?_;refine RW.b9 rfl rfl rfl (aA.aC H.ey rfl rfl s2 (by first|rfl|(simp;done)|(simp;omega)) (by first|decide|exact of_decide_eq_true rfl|(simp;done)|(simp;omega)) (by first|decide|simp[Value.oneCell'])) ?_;rintro _ h6 ⟨rfl,k6,x6,z6⟩;refine xd [0,1,2,4,5,6,14] rfl ?_;have k6:bh h6 h1.size 41 (cz (m,d)):=k6;refine G.cQ func68 rfl (.cons (bl.cI H.iE H.ey rfl (k6.row) (by first|rfl|(simp;done)|(simp;omega))) (.nil)) ?_;exact⟨_,rfl,by rw[haf];rfl,hout x6⟩
 · have hp:=hx p hf;obtain⟨hp1,hp2⟩:=Prod.mk.inj hp;have haf:cN (m,d) n=if x.2.2=0 then (m,d) else if x.2.2=1 then (1,0) else if x.2.2=3 then (2,min (max d 0) 16383+1) else if x.2.2=4/\1<d then (m,d-1) else (0,0):=by unfold cN;rw[hf,<-hp]
   refine aS 1 [0,1,2,4,5,6] rfl ?_;refine av rfl ?_;refine G.block rfl rfl ?_;refine av rfl ?_;refine aY func68 3 [0,1,2,4,5,6,14] rfl ?_;refine aG rfl rfl (fun hc=>absurd hc (by simp)) (fun _=>?_);refine G.cq func68 rfl ?_;refine xp rfl (af (off:=2) underlying144 rfl rfl H.bW rfl) ?_;refine xp rfl (ai H.cM rfl (k5.cell (i:=2) rfl)) ?_;refine aS 2 [0,1,2,4,5,6,14] rfl ?_;refine aO rfl rfl (fun h0=>?_) (fun h0=>?_)
   · rw[if_pos h0] at haf;refine xr func68 rfl ?_;refine xp rfl (aj.aH H.iE H.ey rfl s1.row (by first|rfl|(simp;done)|(simp;omega))) ?_;refine RW.b9 rfl rfl rfl (aA.aC H.ey rfl rfl s2 (by first|rfl|(simp;done)|(simp;omega)) (by first|decide|exact of_decide_eq_true rfl|(simp;done)|(simp;omega)) (by first|decide|simp[Value.oneCell'])) ?_;rintro _ h6 ⟨rfl,k6,x6,z6⟩;refine xd [0,1,2,4,5,6,14] rfl ?_;have k6:bh h6 h1.size 41 (cz (m,d)):=k6;refine G.cQ func68 rfl (.cons (bl.cI H.iE H.ey rfl (k6.row) (by first|rfl|(simp;done)|(simp;omega))) (.nil)) ?_;exact⟨_,rfl,by rw[haf];rfl,hout x6⟩
   · rw[if_neg h0] at haf;refine xr func68 rfl ?_;refine xp rfl (af (off:=2) underlying144 rfl rfl H.bW rfl) ?_;refine xp rfl (ai H.cM rfl (k5.cell (i:=2) rfl)) ?_;refine aS 2 [0,1,2,4,5,6,14,21] rfl ?_;refine aO rfl rfl (fun h1'=>?_) (fun h1'=>?_)
     · rw[if_pos h1'] at haf;refine xr func68 rfl ?_;refine xp rfl (aP (H.Jz _) rfl) ?_;refine RW.b9 rfl rfl rfl (aA.aC H.ey rfl rfl s2 (by first|rfl|(simp;done)|(simp;omega)) (by first|decide|exact of_decide_eq_true rfl|(simp;done)|(simp;omega)) (by first|decide|simp[Value.oneCell'])) ?_;rintro _ h6 ⟨rfl,k6,x6,z6⟩;refine xd [0,1,2,4,5,6,14,21] rfl ?_;have k6:bh h6 h1.size 41 (cz (1,0)):=k6;refine G.cQ func68 rfl (.cons (bl.cI H.iE H.ey rfl (k6.row) (by first|rfl|(simp;done)|(simp;omega))) (.nil)) ?_;exact⟨_,rfl,by rw[haf];rfl,hout x6⟩
     · rw[if_neg h1'] at haf;refine xr func68 rfl ?_;refine xp rfl (af (off:=2) underlying144 rfl rfl H.bW rfl) ?_;refine xp rfl (ai H.cM rfl (k5.cell (i:=2) rfl)) ?_;refine aS 2 [0,1,2,4,5,6,14,21,26] rfl ?_;refine aO rfl rfl (fun h3'=>?_) (fun h3'=>?_)
       · rw[if_pos h3'] at haf;refine xr func68 rfl ?_;refine xp rfl (af (off:=1) underlying41 rfl rfl H.bW rfl) ?_;refine xp rfl (ai H.cM rfl (s1.cell (i:=1) rfl)) ?_;refine xp rfl (aj.max2 rfl rfl) ?_;refine xp rfl (aj.min2 rfl rfl) ?_;refine xp rfl (aj.bC rfl rfl ⟨by omega,by omega⟩) ?_;refine xp rfl (aP (H.GG _ _) rfl) ?_;refine RW.b9 rfl rfl rfl (aA.aC H.ey rfl rfl s2 (by first|rfl|(simp;done)|(simp;omega)) (by first|decide|exact of_decide_eq_true rfl|(simp;done)|(simp;omega)) (by first|decide|simp[Value.oneCell'])) ?_;rintro _ h6 ⟨rfl,k6,x6,z6⟩;refine xd [0,1,2,4,5,6,14,21,26] rfl ?_;have hmm:(if (16383:Int)<if d<0 then 0 else d then 16383 else if d<0 then 0 else d)=min (max d 0) 16383:=by split<;>split<;>omega
         have k6:bh h6 h1.size 41 (cz (2,min (max d 0) 16383+1)):=by rw[<-hmm];exact k6
         refine G.cQ func68 rfl (.cons (bl.cI H.iE H.ey rfl (k6.row) (by first|rfl|(simp;done)|(simp;omega))) (.nil)) ?_;exact⟨_,rfl,by rw[haf];rfl,hout x6⟩
       · rw[if_neg h3'] at haf;refine av rfl ?_;refine G.bE [(36,.bool (decide (x.2.2=4/\1<d)))] [(0,_),(1,_),(2,_),(4,_),(5,_),(6,_),(14,_),(21,_),(26,_)] ⟨rfl,rfl,rfl,rfl,rfl,rfl,rfl,rfl,rfl,trivial⟩ func68 rfl ?_ ?_
         · refine xp rfl (af (off:=2) underlying144 rfl rfl H.bW rfl) ?_;refine xp rfl (ai H.cM rfl (k5.cell (i:=2) rfl)) ?_;refine bf 2 rfl ?_;refine aN (d:=40) rfl (fun hc=>?_) (fun hc=>?_)
           · have hc':=of_decide_eq_true hc;refine xp rfl (af (off:=1) underlying41 rfl rfl H.bW rfl) ?_;refine xp rfl (ai H.cM rfl (s1.cell (i:=1) rfl)) ?_;refine bf 3 rfl ?_;refine aE rfl ?_;exact⟨rfl,aF rfl (by simp[hc']),rfl,rfl,rfl,rfl,rfl,rfl,rfl,rfl,rfl,trivial⟩
           · have hc':=of_decide_eq_false hc;refine bf 5 rfl ?_;refine aE rfl ?_;exact⟨rfl,aF rfl (by simp[hc']),rfl,rfl,rfl,rfl,rfl,rfl,rfl,rfl,rfl,trivial⟩
         · refine aO rfl rfl (fun h4'=>?_) (fun h4'=>?_)
           · rw[if_pos h4'] at haf;refine xr func68 rfl ?_;refine xp rfl (af (off:=1) underlying41 rfl rfl H.bW rfl) ?_;refine xp rfl (ai H.cM rfl (s1.cell (i:=1) rfl)) ?_;refine xp rfl (aj.jy rfl rfl ⟨by omega,by omega⟩) ?_;refine xp rfl (af (off:=1) underlying41 rfl rfl H.bW rfl) ?_;refine RW.b9 rfl rfl rfl (cF H.bW rfl rfl rfl (s1.cell (i:=1) rfl) s1.nf) ?_;rintro _ h6 ⟨rfl,hg6⟩;have s6:=s1.set 1 (.int .i64 (d-1));have x6:Ext (fun b=>b=h.size) h5 h6:=by rw[hg6];exact Ext.eB _ _ _ rfl
             have s6:bh h6 h.size 41 (cz (m,d-1)):=by rw[hg6];exact s6
             refine xd [0,1,2,4,5,6,14,21,26,36] rfl ?_;refine xr func68 rfl ?_;refine xp rfl (aj.aH H.iE H.ey rfl s6.row (by first|rfl|(simp;done)|(simp;omega))) ?_;refine RW.b9 rfl rfl rfl (aA.aC H.ey rfl rfl (s2.ext x6 (fun k=>by omega)) (by first|rfl|(simp;done)|(simp;omega)) (by first|decide|exact of_decide_eq_true rfl|(simp;done)|(simp;omega)) (fS _)) ?_;rintro _ h7 ⟨rfl,k7,x7,z7⟩;refine xd [0,1,2,4,5,6,14,21,26,36] rfl ?_;have k7:bh h7 h1.size 41 (cz (m,d-1)):=k7;refine G.cQ func68 rfl (.cons (bl.cI H.iE H.ey rfl (k7.row) (by first|rfl|(simp;done)|(simp;omega))) (.nil)) ?_;have hz6:=x6.size;exact⟨_,rfl,by rw[haf];rfl,aD.only (aD.only e05 x6 (Nat.le_refl _)) x7 hz1⟩
           · rw[if_neg h4'] at haf;refine aB rfl ?_;refine G.aQ ?_;refine xr func68 rfl ?_;refine xp rfl (aP (H.K0 ) rfl) ?_;refine RW.b9 rfl rfl rfl (aA.aC H.ey rfl rfl s2 (by first|rfl|(simp;done)|(simp;omega)) (by first|decide|exact of_decide_eq_true rfl|(simp;done)|(simp;omega)) (by first|decide|simp[Value.oneCell'])) ?_;rintro _ h6 ⟨rfl,k6,x6,z6⟩;refine xd [0,1,2,4,5,6,14,21,26,36] rfl ?_;have k6:bh h6 h1.size 41 (cz (0,0)):=k6;refine G.cQ func68 rfl (.cons (bl.cI H.iE H.ey rfl (k6.row) (by first|rfl|(simp;done)|(simp;omega))) (.nil)) ?_;exact⟨_,rfl,by rw[haf];rfl,hout x6⟩
theorem A3 (hg:Bm h) (s:By) (k:Nat) (hk:k<s.length) (hs:s.length<=1000000):ah Tryz.prog 65 #[.string (bs s),.int .i64 (k:Nat)] h (cT fun r h'=>(∃(x:Nat) (ok:Bool),r= .tuple #[.int .i32 (x:Nat),.int .i64 (cW (s.drop k):Nat),.bool ok])/\aD h h'):=by
 have hbs:=bu s;have hne:s.drop k≠[]:=fun e=>by have:=congrArg List.length e;rw[List.length_drop] at this;simp at this;omega
 refine ah.of func65 rfl rfl ?_;refine aY func65 3 [0,1,4,5,6] rfl ?_;refine av rfl ?_;refine av rfl ?_;refine G.bE [(14,.bool false)] [(0,_),(1,_),(4,_),(5,_),(6,_)] ⟨rfl,rfl,rfl,rfl,rfl,trivial⟩ func65 rfl ?_ ?_
 · refine bf 3 rfl ?_;refine RW.dn (d:=9) (b':=false) rfl ((by simp)) ?_;refine ct 2 rfl rfl (aj.bI underlying9 rfl) ?_;refine bf 2 rfl ?_;refine aE rfl ?_;exact⟨rfl,aF rfl (by simp;omega),rfl,rfl,rfl,rfl,rfl,trivial⟩
 · refine aG rfl rfl (fun hc=>absurd hc (by decide)) (fun _=>?_);refine aB rfl ?_;refine bp func65 2 rfl ?_;refine xp rfl (aj.gU underlying9 rfl rfl k rfl (by omega)) ?_;rw[ny];refine xo rfl (aq (vs:=[_]) func111 rfl H.Kz rfl (ah.br (yT hg (s.drop k) hne))) ?_;rintro _ h1 ⟨⟨x,rfl⟩,e1⟩;generalize hn:cW (s.drop k)=n;refine aS 5 [0,1,4,5,6,14] rfl ?_;refine av rfl ?_;refine G.bE [(4,.int .i32 (x:Nat)),(5,.int .i64 (n:Nat)),(6,.bool (decide (¬(x:Int)=65533\/(1:Int)<n)))] [(0,_),(1,_),(14,_)] ⟨rfl,rfl,rfl,trivial⟩ func65 rfl ?_ ?_
   · refine bf 5 rfl ?_;refine aN (d:=26) rfl (fun hc=>?_) (fun hc=>?_)
     · have hc':=of_decide_eq_true hc;refine bf 6 rfl ?_;refine aE rfl ?_;exact⟨rfl,rfl,rfl,aF rfl (by rw[decide_eq_true (Or.inl hc')]),rfl,rfl,rfl,trivial⟩
     · have hc':=of_decide_eq_false hc;refine bf 6 rfl ?_;refine aE rfl ?_;exact⟨rfl,rfl,rfl,aF rfl (by simp only[decide_eq_decide];exact⟨fun q=>.inr q,fun q=>q.resolve_left hc'⟩),rfl,rfl,rfl,trivial⟩
   · refine G.ret func65 rfl rfl ?_;exact⟨_,rfl,⟨x,_,rfl⟩,e1⟩
theorem AI (k:mY h p):ah Tryz.prog 63 #[p] h (cT fun r h'=>r= .bool false/\h'=h):=by
 obtain⟨lb,vm,rfl,hk,⟨oa,n,c,rfl,hl,_⟩⟩:=k;have hl:n=3:=by rw[<-hl];rfl
 subst hl;refine ah.of func63 rfl rfl ?_;refine aY func63 1 [0,2] rfl ?_;refine av rfl ?_;refine G.bE [(2,.bool false)] [(0,_)] ⟨rfl,trivial⟩ func63 rfl ?_ ?_
 · refine ct 1 rfl rfl (aj.qJ underlying29 rfl rfl) ?_;refine bf 1 rfl ?_;refine RW.dn (d:=5) (b':=false) rfl (rfl) ?_;refine ct 2 rfl rfl (af (off:=0) underlying83 rfl rfl H.DB rfl) ?_;refine xp rfl (ai H.HX rfl (hk.cell (i:=0) rfl)) ?_;refine xp rfl (aj.aK underlying81 rfl) ?_;refine bf 3 rfl ?_;refine aE rfl ?_;exact⟨rfl,aF rfl (rfl),rfl,trivial⟩
 · refine G.ret func63 rfl rfl ?_;exact⟨_,rfl,rfl,rfl⟩
def B5 (m:Int) (l:By):Int:=if 0<=m/\m<3 then (bq (kX (nG m)) l 0 0 (0,-1)).2.2 else 0
theorem D9 (m:Nat) (hm:m<3) (s:By) (k:Nat) (hk:k<=s.length):dK (kX (nG m)) s k=((cV m (s.drop k)).1,(cV m (s.drop k)).2,B5 m (s.drop k)):=by
 obtain⟨ss,st,h1,h2,h3,h4,h5⟩:=uk m hm;have hok:=nw h2;have hsp:=wU hok.1 hok.2;have htl:=BB hok.1 hsp.1 hsp.2.2.2.2 hok.2 hsp.2.1 (fun w=>(hsp.2.2.2.1 w).symm) s k;have htm:=zL h2 s k;have hst:=(gk h1).stl
 have hM:yu (gW m) s k=cV m (s.drop k):=by
  unfold yu B1;rw[h1];simp only;rw[if_neg (by omega),Int.toNat_natCast,h4]
 rw[hM] at htm
 have hA:(dK (kX (nG m)) s k).2.2=B5 m (s.drop k):=by
  rw[B5,if_pos (show (0:Int)<=m/\(m:Int)<3 by omega),dK,if_neg (by have:=hsp.2.1;omega),Int.toNat_natCast]
 rw[<-hA];refine Prod.ext ?_ (Prod.ext ?_ rfl)
 · rw[<-htl.1];exact(Prod.mk.inj htm).1
 · rw[<-htl.2.1];exact(Prod.mk.inj htm).2
theorem FX {m:Int}(h:m<0\/3<=m) (l:By):cV m l=(0,-1):=by
 unfold cV;rw[if_neg (by omega),if_neg (by omega),if_neg (by omega)]
theorem yw (k:mY h p) (s:By) (i:Nat) (hi:i<=s.length) (hs:s.length<=1000000) (m:Int) :
 ah Tryz.prog 64 #[p,.string (bs s),.int .i64 (i:Nat),.int .i64 m] h (cT fun r h'=>r= .tuple #[.int .i64 (cV m (s.drop i)).1,.int .i64 (cV m (s.drop i)).2,.int .i64 (B5 m (s.drop i))]/\h'=h):=by
 obtain⟨lb,vm,rfl,hk,hv⟩:=k;obtain⟨oa,n,c,rfl,hsl⟩:=hv.open;have hl:n=3:=by rw[<-hsl.len];rfl
 subst hl;refine ah.of func64 rfl rfl ?_;refine aY func64 3 [0,1,2,3,8,9,10] rfl ?_;refine av rfl ?_;refine av rfl ?_;refine G.bE [(21,.bool (decide (m<0\/3<=m)))] [(0,_),(1,_),(2,_),(3,_),(8,_),(9,_),(10,_)] ⟨rfl,rfl,rfl,rfl,rfl,rfl,rfl,trivial⟩ func64 rfl ?_ ?_
 · refine bf 3 rfl ?_;refine aN (d:=13) rfl (fun hc=>?_) (fun hc=>?_)
   · have hc':=of_decide_eq_true hc;refine bf 8 rfl ?_;refine aE rfl ?_;exact⟨rfl,aF rfl (by simp[hc']),rfl,rfl,rfl,rfl,rfl,rfl,rfl,trivial⟩
   · have hc':=of_decide_eq_false hc;refine ct 3 rfl rfl (af (off:=0) underlying83 rfl rfl H.DB rfl) ?_;refine xp rfl (ai H.HX rfl (hk.cell (i:=0) rfl)) ?_;refine xp rfl (aj.aK underlying81 rfl) ?_;refine bf 2 rfl ?_;refine aE rfl ?_;exact⟨rfl,aF rfl (by simp only[decide_eq_decide];omega),rfl,rfl,rfl,rfl,rfl,rfl,rfl,trivial⟩
 · refine aO rfl rfl (fun hout=>?_) (fun hout=>?_)
   · rw[FX hout];refine aY func64 3 [0,1,2,3,8,9,10,21] rfl ?_;refine G.ret func64 rfl rfl ?_;exact⟨_,rfl,by rw[B5,if_neg (by omega)];rfl,rfl⟩
   · obtain⟨mm,rfl⟩:=Int.eq_ofNat_of_zero_le (show 0<=m by omega);have hmm:mm<3:=by omega
     have hx:(um 3)[mm]? =some (kX (nG mm)):=by
      match mm,hmm with
      | 0,_=>rfl
      | 1,_=>rfl
      | 2,_=>rfl
     obtain⟨b3,o3,cs3,ha3,_,hrow3,db,rfl,htab⟩:=hsl.get mm _ hx;obtain⟨ss,st,h1,h2,h3,h4,h5⟩:=uk mm hmm;have hok:=nw h2;have hsp:=wU hok.1 hok.2;refine aB rfl ?_;refine bp func64 2 rfl ?_;refine xp rfl (af (off:=0) underlying83 rfl rfl H.DB rfl) ?_;refine xp rfl (ai H.HX rfl (hk.cell (i:=0) rfl)) ?_;refine ct 1 rfl rfl (aj.ax underlying81 H.LC rfl rfl mm rfl ha3 (by omega)) ?_;refine xp rfl (ai H.Mj rfl (hrow3 0 _ rfl)) ?_;refine bf 2 rfl ?_;refine xo rfl (aq (vs:=[_,_,_]) func110 rfl H.KA rfl (ah.br (yP (s:=s) (a:=(i:Int)) (.inr ⟨db,rfl,htab.rd⟩) hsp.1 hs))) ?_;rintro _ h0 ⟨rfl,hh0⟩;subst hh0;rw[D9 mm hmm s i hi];refine aS 6 [0,1,2,3,8,9,10,21] rfl ?_;refine G.ret func64 rfl rfl ?_;exact⟨_,rfl,rfl,rfl⟩
def fC (t:Tk):List Value:=[.int .i64 t.1,.int .i64 t.2.1,.int .i64 t.2.2]
theorem nZ (t:Tk):∀v∈fC t,v.oneCell'=true:=fun v hv=>by simp[fC] at hv;rcases hv with rfl|rfl|rfl<;>rfl
theorem EB {s:gC}(h:G7 s.2) (n:Int):G7 (cN s n).2:=by
 unfold G7 at *;unfold cN;split
 · exact h
 · split
   · exact h
   · split
     · simp only;omega
     · split
       · simp only;omega
       · split
         · simp only;omega
         · simp only;omega
theorem Hr {s:gC}(h:G7 s.2) (l:By):G7 (cR l s).2:=by
 unfold cR;split
 · exact h
 · exact EB h _
theorem j9 {h':az}{b:Nat}{t:TypeId}{cs:List Value}(k:bh h b t cs) (k':bh h' b t cs) (e:Ext (fun x=>x=b) h h'):aD h h':=⟨e.size,fun x hx _=>by
 by_cases q:x=b
 · subst q;exact k'.trans k.symm
 · exact e.block x hx q⟩
def Ji (s:By) (i:Nat) (st:gC):Value:=.tuple #[.agg (fC (dB (s.drop i) st.1,(i:Int),((i+bT (s.drop i) st.1:Nat):Int))).toArray,.agg (cz (cR (s.drop i) st)).toArray,.int .i64 (B5 st.1 (s.drop i))]
theorem DW (hg:Bm h) (k:mY h p) (s:By) (i:Nat) (hi:i<s.length) (hs:s.length<=1000000) (st:gC) (hst:G7 st.2) :
 ah Tryz.prog 34 #[p,.string (bs s),.int .i64 (i:Nat),.agg (cz st).toArray] h (cT fun r h'=>r=Ji s i st/\aD h h'):=by
 have hbs:=bu s;unfold Ji;have hne:s.drop i≠[]:=fun e=>by have:=congrArg List.length e;rw[List.length_drop] at this;simp at this;omega
 have hll:=pI st.1 (s.drop i);have hrl:=o8 hne;rw[List.length_drop] at hll hrl;refine ah.of func34 rfl rfl ?_;refine xr func34 rfl ?_;refine xo rfl (aA.gu rfl) ?_;rintro _ h1 ⟨rfl,k7,e1,z1⟩;refine xo rfl (aA.aX H.EK) ?_;rintro _ h2 ⟨rfl,k8,e2,z2⟩;refine xo rfl (aA.aX H.xJ) ?_;rintro _ h3 ⟨rfl,k9,e3,z3⟩;have k7:bh h1 h.size 41 (cz st):=k7;have k8:bh h2 h1.size 46 (fC (0,0,0)):=k8;have k9:bh h3 h2.size 41 (cz (0,0)):=k9;have e03:=(e1.trans e2).trans e3;have q7:=(k7.ay e2).ay e3;have q8:=k8.ay e3;have y1:=e1.size;have y2:=e2.size;have hout:∀{g g2 g3:az},aD h3 g->Ext (fun b=>b=h1.size) g g2->Ext (fun b=>b=h2.size) g2 g3->aD h g3:=fun ea eb ec=>aD.only (aD.only (e03.trans ea) eb (by omega)) ec (by omega)
 refine aS 1 [0,1,2,3,7,8,9,10] rfl ?_;refine av rfl ?_;refine av rfl ?_;refine G.bE [(27,.bool false)] [(0,_),(1,_),(2,_),(3,_),(7,_),(8,_),(9,_),(10,_)] ⟨rfl,rfl,rfl,rfl,rfl,rfl,rfl,rfl,trivial⟩ func34 rfl ?_ ?_
 · refine bf 1 rfl ?_;refine xo rfl (aq (vs:=[_]) func63 rfl H.J9 rfl (ah.br (AI (k.ay e03)))) ?_;rintro _ h4 ⟨rfl,hh4⟩;subst hh4;refine bf 1 rfl ?_;refine RW.dn (d:=18) (b':=false) rfl (rfl) ?_;refine bf 4 rfl ?_;refine RW.dn (d:=22) (b':=false) rfl ((by simp)) ?_;refine ct 2 rfl rfl (aj.bI underlying9 rfl) ?_;refine bf 2 rfl ?_;refine aE rfl ?_;exact⟨rfl,aF rfl (by simp;omega),rfl,rfl,rfl,rfl,rfl,rfl,rfl,rfl,trivial⟩
 · refine aG rfl rfl (fun hc=>absurd hc (by decide)) (fun _=>?_);refine aB rfl ?_;refine bp func34 3 rfl ?_;refine xp rfl (af (off:=0) underlying41 rfl rfl H.bW rfl) ?_;refine xp rfl (ai H.cM rfl (q7.cell (i:=0) rfl)) ?_;refine xo rfl (aq (vs:=[_,_,_,_]) func64 rfl H.LP rfl (ah.br (yw (k.ay e03) s i (by omega) hs st.1))) ?_;rintro _ h4 ⟨rfl,hh4⟩;subst hh4;refine aS 7 [0,1,2,3,7,8,9,10,11,12,27] rfl ?_;refine av rfl ?_;refine aY func34 2 [0,1,2,3,7,8,9,10,11,12,27,41] rfl ?_;refine aO rfl rfl (fun hz=>?_) (fun hz=>?_)
   · have hlen:bT (s.drop i) st.1=cW (s.drop i):=by rw[bT,if_pos hz]
     have hknd:dB (s.drop i) st.1=0:=by rw[dB,if_pos hz]
     have hnxt:cR (s.drop i) st=st:=by rw[cR,if_pos hz]
     rw[hlen,hknd,hnxt];refine bp func34 2 rfl ?_;refine xo rfl (aq (vs:=[_,_]) func65 rfl H.LO rfl (ah.br (A3 (hg.ay e03) s i hi hs))) ?_;rintro _ h5 ⟨⟨x,ok,rfl⟩,e5⟩;have r7:=q7.ay e5;have r8:=q8.ay e5;have r9:=k9.ay e5;have y5:=e5.size;have hM7:¬(h.size=h1.size\/h.size=h2.size\/Array.size h5<=h.size):=by have:=e03.size;omega
     refine aS 7 [0,1,2,3,7,8,9,10,11,12,14,27,41] rfl ?_;refine av rfl ?_;refine bU (fun b=>b=Array.size h1\/b=Array.size h2\/Array.size h5<=b) (fun i=>Nat.blt i 9) (sz:=10) (listed:= #[false,false,false,false,false,false,false,false,false,false]) func34 H.mixed rfl rfl rfl ?_;refine cJ 0 1 (by kernel_rfl) rfl ?_;refine cJ 1 3 (by kernel_rfl) rfl ?_;refine cJ 2 7 (by kernel_rfl) rfl ?_;refine bM 3 15 (by kernel_rfl) rfl (fun h' e=>aj.bC rfl rfl ⟨by omega,by omega⟩) ?_;refine bM 4 31 (by kernel_rfl) rfl (fun h' e=>aP (H.u9 _ _ _) rfl) ?_;refine bM 5 63 (by kernel_rfl) rfl (fun h' e=>aj.aH H.iE H.ey rfl (e.rowAt hM7 r7.row) (by first|rfl|(simp;done)|(simp;omega))) ?_;refine cJ 6 127 (by kernel_rfl) rfl ?_;refine lW 7 255 (by kernel_rfl) rfl (aA.aC H.ir rfl rfl r8 (by first|rfl|(simp;done)|(simp;omega)) (by first|decide|exact of_decide_eq_true rfl|(simp;done)|(simp;omega)) (by first|decide|simp[Value.oneCell'])) ?_;rintro _ h6 ⟨rfl,w8,x6,z6⟩;refine⟨fun _=>x6.mono (fun _ _ k=>.inl k),?_⟩;refine lW 8 511 (by kernel_rfl) rfl (aA.aC H.ey rfl rfl (r9.ext x6 (fun k=>by omega)) (by first|rfl|(simp;done)|(simp;omega)) (by first|decide|exact of_decide_eq_true rfl|(simp;done)|(simp;omega)) (fS st)) ?_;rintro _ h7 ⟨rfl,w9,x7,z7⟩;refine⟨fun _=>x7.mono (fun _ _ k=>.inr (.inl k)),?_⟩;have w8:bh h6 h1.size 46 (fC (0,(i:Int),((i+cW (s.drop i):Nat):Int))):=by rw[Int.natCast_add];exact w8
     have w8:=w8.ext x7 (show ¬h1.size=h2.size by omega);have w9:bh h7 h2.size 41 (cz st):=w9;refine cJ 9 1023 (by kernel_rfl) rfl ?_;refine bB (by kernel_rfl) ?_;refine xu [0,1,2,3,7,8,9,10,11,12,14,27,41] rfl ?_;refine G.cQ func34 rfl (.cons (bl.cI H.zf H.ir rfl (w8.row) (by first|rfl|(simp;done)|(simp;omega))) (.cons (bl.cI H.iE H.ey rfl (w9.row) (by first|rfl|(simp;done)|(simp;omega))) (.cons (bl.tmp rfl) (.nil)))) ?_;exact⟨_,rfl,rfl,hout e5 x6 x7⟩
   · obtain⟨L,hL⟩:=Int.eq_ofNat_of_zero_le hll.1;have hL0:0<L:=by omega
     have hlen:bT (s.drop i) st.1=L:=by rw[bT,if_neg hz,hL];rfl
     have hknd:dB (s.drop i) st.1=if eV st.1 (cV st.1 (s.drop i)).2=3/\de ((s.drop i).take L)=true then 4 else eV st.1 (cV st.1 (s.drop i)).2:=by rw[dB,if_neg hz,hL];rfl
     have hnxt:cR (s.drop i) st=cN st (cV st.1 (s.drop i)).2:=by rw[cR,if_neg hz]
     rw[hlen,hknd,hnxt,hL];generalize (cV st.1 (s.drop i)).2=rl at *;rw[hL] at hll;refine aB rfl ?_;refine xr func34 rfl ?_;refine xp rfl (af (off:=0) underlying41 rfl rfl H.bW rfl) ?_;refine xp rfl (ai H.cM rfl (q7.cell (i:=0) rfl)) ?_;refine bf 1 rfl ?_;refine xo rfl (aq (vs:=[_,_]) func66 rfl H.LN rfl (ah.br (Ca (hg.ay e03) st.1 rl))) ?_;rintro _ h5 ⟨rfl,e5⟩;refine ct 3 rfl rfl (aj.bC rfl rfl ⟨by omega,by omega⟩) ?_;refine xp rfl (aP (H.u9 _ _ _) rfl) ?_;refine RW.b9 rfl rfl rfl (aA.aC H.ir rfl rfl (q8.ay e5) (by first|rfl|(simp;done)|(simp;omega)) (by first|decide|exact of_decide_eq_true rfl|(simp;done)|(simp;omega)) (by first|decide|simp[Value.oneCell'])) ?_;rintro _ h6 ⟨rfl,w8,x6,z6⟩;have w8:bh h6 h1.size 46 (fC (eV st.1 rl,(i:Int),((i+L:Nat):Int))):=by rw[Int.natCast_add];exact w8
     generalize eV st.1 rl=kd at *;have hcut:(bs s).extract i (i+L)=bs ((s.drop i).take L):=by rw[sO s i (i+L) (by omega),List.drop_take,Nat.add_sub_cancel_left]
     have y6:=x6.size;have e06:aD h h6:=aD.only (e03.trans e5) x6 (by omega);have r7:=(q7.ay e5).ext x6 (show ¬h.size=h1.size by omega);have r9:=(k9.ay e5).ext x6 (show ¬h2.size=h1.size by omega);refine xd [0,1,2,3,7,8,9,10,11,12,27,41] rfl ?_;refine av rfl ?_;refine av rfl ?_;refine G.bE [(76,.bool (decide (kd=3/\de ((s.drop i).take L)=true)))] [(0,_),(1,_),(2,_),(3,_),(7,_),(8,_),(9,_),(10,_),(11,_),(12,_),(27,_),(41,_)] ⟨rfl,rfl,rfl,rfl,rfl,rfl,rfl,rfl,rfl,rfl,rfl,rfl,trivial⟩ func34 rfl ?_ ?_
     · refine xp rfl (af (off:=0) underlying46 rfl rfl H.bW rfl) ?_;refine xp rfl (ai H.cM rfl (w8.cell (i:=0) rfl)) ?_;refine bf 2 rfl ?_;refine aN (d:=68) rfl (fun hc=>?_) (fun hc=>?_)
       · have hc':kd=3:=of_decide_eq_true hc;refine ct 1 rfl rfl (af (off:=1) underlying46 rfl rfl H.bW rfl) ?_;refine xp rfl (ai H.cM rfl (w8.cell (i:=1) rfl)) ?_;refine xp rfl (af (off:=2) underlying46 rfl rfl H.bW rfl) ?_;refine xp rfl (ai H.cM rfl (w8.cell (i:=2) rfl)) ?_;refine xp rfl (aj.tA underlying9 rfl rfl i rfl rfl (i+L) rfl (by omega) (by omega)) ?_;rw[hcut];refine xo rfl (aq (vs:=[_]) func67 rfl H.J8 rfl (ah.br (sX (hg.ay e06) ((s.drop i).take L) (by rw[List.length_take,List.length_drop];omega)))) ?_;rintro _ h7 ⟨rfl,hh7⟩;subst hh7;refine bf 1 rfl ?_;refine aE rfl ?_;exact⟨rfl,aF rfl (by simp[hc']),rfl,rfl,rfl,rfl,rfl,rfl,rfl,rfl,rfl,rfl,rfl,rfl,trivial⟩
       · have hc':¬kd=3:=of_decide_eq_false hc;refine bf 8 rfl ?_;refine aE rfl ?_;exact⟨rfl,aF rfl (by simp[hc']),rfl,rfl,rfl,rfl,rfl,rfl,rfl,rfl,rfl,rfl,rfl,rfl,trivial⟩
     · refine aO rfl rfl (fun hw=>?_) (fun hw=>?_)
       · refine G.cq func34 rfl ?_;refine xp rfl (af (off:=0) underlying46 rfl rfl H.bW rfl) ?_;refine RW.b9 rfl rfl rfl (cF H.bW rfl rfl rfl (w8.cell (i:=0) rfl) w8.nf) ?_;rintro _ h7 ⟨rfl,hg7⟩;have w7:=w8.set 0 (.int .i64 4);have x7:Ext (fun b=>b=h1.size) h6 h7:=by rw[hg7];exact Ext.eB _ _ _ rfl
         have w7:bh h7 h1.size 46 (fC (4,(i:Int),((i+L:Nat):Int))):=by rw[hg7];exact w7
         have y7:=x7.size;have e07:aD h h7:=aD.only e06 x7 (by omega);have p7:=r7.ext x7 (show ¬h.size=h1.size by omega);have p9:=r9.ext x7 (show ¬h2.size=h1.size by omega);have hMa:¬(h1.size=h2.size\/Array.size h7<=h1.size):=by have:=e03.size;have:=e5.size;omega
         have hMb:¬(h.size=h2.size\/Array.size h7<=h.size):=by have:=e03.size;have:=e5.size;omega
         refine xd [0,1,2,3,7,8,9,10,11,12,27,41,76] rfl ?_;refine av rfl ?_;refine bU (fun b=>b=Array.size h2\/Array.size h7<=b) (fun i=>Nat.blt i 7) (sz:=8) (listed:= #[false,false,false,false,false,false,false,false]) func34 H.mixed rfl rfl rfl ?_;refine bM 0 1 (by kernel_rfl) rfl (fun h' e=>aj.aH H.zf H.ir rfl (e.rowAt hMa w7.row) (by first|rfl|(simp;done)|(simp;omega))) ?_;refine bM 1 3 (by kernel_rfl) rfl (fun h' e=>aj.aH H.iE H.ey rfl (e.rowAt hMb p7.row) (by first|rfl|(simp;done)|(simp;omega))) ?_;refine cJ 2 7 (by kernel_rfl) rfl ?_;refine cJ 4 23 (by kernel_rfl) rfl ?_;refine eP 3 31 (by kernel_rfl) rfl (aq (vs:=[_,_]) func68 rfl H.J7 rfl (ah.br (rZ (hg.ay e07) st rl hst))) ?_;rintro _ h8 ⟨rfl,e8⟩;refine⟨fun _=>e8.mono (fun _ _ k=>k.elim),?_⟩;have w8':=w7.ay e8;refine lW 5 63 (by kernel_rfl) rfl (aA.aC H.ir rfl rfl w8' (by first|rfl|(simp;done)|(simp;omega)) (by first|decide|exact of_decide_eq_true rfl|(simp;done)|(simp;omega)) (nZ _)) ?_;rintro _ h9 ⟨rfl,w9',x9,z9⟩;refine⟨fun _=>(j9 w8' w9' x9).mono (fun _ _ k=>k.elim),?_⟩;have w9':bh h9 h1.size 46 (fC (4,(i:Int),((i+L:Nat):Int))):=w9';have e9:=j9 w8' w9' x9;have p9':=(p9.ay e8).ay e9;refine lW 6 127 (by kernel_rfl) rfl (aA.aC H.ey rfl rfl p9' (by first|rfl|(simp;done)|(simp;omega)) (by first|decide|exact of_decide_eq_true rfl|(simp;done)|(simp;omega)) (fS _)) ?_;rintro _ h10 ⟨rfl,w10,x10,z10⟩;refine⟨fun _=>x10.mono (fun _ _ k=>.inl k),?_⟩;have w10:bh h10 h2.size 41 (cz (cN st rl)):=w10;have w11:=w9'.ext x10 (show ¬h1.size=h2.size by omega);refine cJ 7 255 (by kernel_rfl) rfl ?_;refine bB (by kernel_rfl) ?_;refine xu [0,1,2,3,7,8,9,10,11,12,27,41,76] rfl ?_;refine G.cQ func34 rfl (.cons (bl.cI H.zf H.ir rfl (w11.row) (by first|rfl|(simp;done)|(simp;omega))) (.cons (bl.cI H.iE H.ey rfl (w10.row) (by first|rfl|(simp;done)|(simp;omega))) (.cons (bl.tmp rfl) (.nil)))) ?_;have y10:=x10.size;exact⟨_,rfl,by rw[if_pos hw];rfl,aD.only ((e07.trans e8).trans e9) x10 (by omega)⟩
       · have hMa:¬(h1.size=h2.size\/Array.size h6<=h1.size):=by have:=e03.size;have:=e5.size;omega
         have hMb:¬(h.size=h2.size\/Array.size h6<=h.size):=by have:=e03.size;have:=e5.size;omega
         refine aB rfl ?_;refine av rfl ?_;refine bU (fun b=>b=Array.size h2\/Array.size h6<=b) (fun i=>Nat.blt i 7) (sz:=8) (listed:= #[false,false,false,false,false,false,false,false]) func34 H.mixed rfl rfl rfl ?_;refine bM 0 1 (by kernel_rfl) rfl (fun h' e=>aj.aH H.zf H.ir rfl (e.rowAt hMa w8.row) (by first|rfl|(simp;done)|(simp;omega))) ?_;refine bM 1 3 (by kernel_rfl) rfl (fun h' e=>aj.aH H.iE H.ey rfl (e.rowAt hMb r7.row) (by first|rfl|(simp;done)|(simp;omega))) ?_;refine cJ 2 7 (by kernel_rfl) rfl ?_;refine cJ 4 23 (by kernel_rfl) rfl ?_;refine eP 3 31 (by kernel_rfl) rfl (aq (vs:=[_,_]) func68 rfl H.J7 rfl (ah.br (rZ (hg.ay e06) st rl hst))) ?_;rintro _ h8 ⟨rfl,e8⟩;refine⟨fun _=>e8.mono (fun _ _ k=>k.elim),?_⟩;have w8':=w8.ay e8;refine lW 5 63 (by kernel_rfl) rfl (aA.aC H.ir rfl rfl w8' (by first|rfl|(simp;done)|(simp;omega)) (by first|decide|exact of_decide_eq_true rfl|(simp;done)|(simp;omega)) (nZ _)) ?_;rintro _ h9 ⟨rfl,w9',x9,z9⟩;refine⟨fun _=>(j9 w8' w9' x9).mono (fun _ _ k=>k.elim),?_⟩;have w9':bh h9 h1.size 46 (fC (kd,(i:Int),((i+L:Nat):Int))):=w9';have e9:=j9 w8' w9' x9;have p9':=(r9.ay e8).ay e9;refine lW 6 127 (by kernel_rfl) rfl (aA.aC H.ey rfl rfl p9' (by first|rfl|(simp;done)|(simp;omega)) (by first|decide|exact of_decide_eq_true rfl|(simp;done)|(simp;omega)) (fS _)) ?_;rintro _ h10 ⟨rfl,w10,x10,z10⟩;refine⟨fun _=>x10.mono (fun _ _ k=>.inl k),?_⟩;have w10:bh h10 h2.size 41 (cz (cN st rl)):=w10;have w11:=w9'.ext x10 (show ¬h1.size=h2.size by omega);refine cJ 7 255 (by kernel_rfl) rfl ?_;refine bB (by kernel_rfl) ?_;refine xu [0,1,2,3,7,8,9,10,11,12,27,41,76] rfl ?_;refine G.cQ func34 rfl (.cons (bl.cI H.zf H.ir rfl (w11.row) (by first|rfl|(simp;done)|(simp;omega))) (.cons (bl.cI H.iE H.ey rfl (w10.row) (by first|rfl|(simp;done)|(simp;omega))) (.cons (bl.tmp rfl) (.nil)))) ?_;have y10:=x10.size;exact⟨_,rfl,by rw[if_neg hw];rfl,aD.only ((e06.trans e8).trans e9) x10 (by omega)⟩
end
end Go.Proofs.YtmehdcdbeafljaaGreatDoor
namespace Go.Proofs.YtmehdcdbeafljaaGreatDoor
open Go
theorem qd (n a:Nat) (st:gC):fL n [] a st=([],st):=by cases n<;>simp[fL]
theorem nB {n:Nat}{l:By}(hl:l≠[]) (hn:l.length<=n) (a:Nat) (st:gC) :
 fL n l a st=((dB l st.1,(a:Int),((a+bT l st.1:Nat):Int))::(fL n (l.drop (bT l st.1)) (a+bT l st.1) (cR l st)).1,(fL n (l.drop (bT l st.1)) (a+bT l st.1) (cR l st)).2):=by
 have hp:=List.length_pos_iff.2 hl;have hk:=eT hl st.1;obtain⟨m,rfl⟩:∃m,n=m+1:=⟨n-1,by omega⟩
 rw[qT (m+1) (m+1) (l.drop (bT l st.1)) _ _ (by rw[List.length_drop];omega) (by rw[List.length_drop];omega),<-qT m (m+1) (l.drop (bT l st.1)) (a+bT l st.1) (cR l st) (by rw[List.length_drop];omega) (by rw[List.length_drop];omega)];rw[fL,if_neg hl]
def qo:Nat->By->gC->List gC
 | 0,_,st=>[st]
 |n+1,l,st=>if l=[] then [st] else st::qo n (l.drop (bT l st.1)) (cR l st)
theorem wA:∀(n k:Nat) (l:By) (st:gC),l.length<=n->l.length<=k->qo n l st=qo k l st
 | 0,0,_,_,_,_=>rfl
 | 0,k+1,l,st,h,_=>by
  have:l=[]:=List.length_eq_zero_iff.1 (by omega);rw[qo,qo,if_pos this]
 |n+1,0,l,st,_,h=>by
  have:l=[]:=List.length_eq_zero_iff.1 (by omega);rw[qo,qo,if_pos this]
 |n+1,k+1,l,st,h1,h2=>by
  rw[qo,qo]
  by_cases hl:l=[]
  · rw[if_pos hl,if_pos hl]
  · have:=eT hl st.1;rw[if_neg hl,if_neg hl,wA n k _ _ (by rw[List.length_drop];omega) (by rw[List.length_drop];omega)]
theorem wz {n:Nat}{l:By}(hl:l≠[]) (hn:l.length<=n) (st:gC):qo n l st=st::qo n (l.drop (bT l st.1)) (cR l st):=by
 have hp:=List.length_pos_iff.2 hl;have hk:=eT hl st.1;obtain⟨m,rfl⟩:∃m,n=m+1:=⟨n-1,by omega⟩
 rw[wA (m+1) m (l.drop (bT l st.1)) _ (by rw[List.length_drop];omega) (by rw[List.length_drop];omega),qo,if_neg hl]
theorem vj:∀(n:Nat) (l:By) (a:Nat) (st:gC),(fL n l a st).1.length<=l.length
 | 0,l,a,st=>by simp[fL]
 |n+1,l,a,st=>by
  rw[fL];split
  · simp
  · rename_i h;have h1:=eT h st.1;have h2:=vj n (l.drop (bT l st.1)) (a+bT l st.1) (cR l st);rw[List.length_drop] at h2;simp only[List.length_cons];omega
def lX:Nat->By->Nat->gC->Nat×gC
 | 0,_,a,st=>(a,st)
 |j+1,l,a,st=>if l=[] then (a,st) else lX j (l.drop (bT l st.1)) (a+bT l st.1) (cR l st)
theorem Cg:∀(j:Nat) (l:By) (a:Nat) (st:gC),a<=(lX j l a st).1/\(lX j l a st).1<=a+l.length
 | 0,l,a,st=>⟨Nat.le_refl _,by simp[lX]⟩
 |j+1,l,a,st=>by
  rw[lX];split
  · simp
  · rename_i h;have h1:=eT h st.1;have h2:=Cg j (l.drop (bT l st.1)) (a+bT l st.1) (cR l st);rw[List.length_drop] at h2;omega
theorem I7:∀(j n:Nat) (l:By) (a:Nat) (st:gC),l.length<=n->j<(fL n l a st).1.length->(lX j l a st).1<a+l.length /\
 (fL n l a st).1[j]? =some (dB (l.drop ((lX j l a st).1-a)) (lX j l a st).2.1,((lX j l a st).1:Int),(((lX j l a st).1+bT (l.drop ((lX j l a st).1-a)) (lX j l a st).2.1:Nat):Int))/\(qo n l st)[j]? =some (lX j l a st).2 /\
 (lX (j+1) l a st).1=(lX j l a st).1+bT (l.drop ((lX j l a st).1-a)) (lX j l a st).2.1/\(lX (j+1) l a st).2=cR (l.drop ((lX j l a st).1-a)) (lX j l a st).2:=fun j n l a st hn hj=>by
 induction j generalizing l a st with
 |zero =>
  by_cases h0:l=[]
  · subst h0;rw[qd] at hj;simp at hj
  · have:=List.length_pos_iff.2 h0;rw[nB h0 hn,wz h0 hn];simp[lX,h0];omega
 |succ j ih =>
  by_cases h0:l=[]
  · subst h0;rw[qd] at hj;simp at hj
  · have h1:=eT h0 st.1;rw[nB h0 hn] at hj ⊢;rw[wz h0 hn];have hih:=ih (l.drop (bT l st.1)) (a+bT l st.1) (cR l st) (by rw[List.length_drop];omega) (by simpa using hj);have hg:=Cg j (l.drop (bT l st.1)) (a+bT l st.1) (cR l st);have e1:lX (j+1) l a st=lX j (l.drop (bT l st.1)) (a+bT l st.1) (cR l st):=by rw[lX,if_neg h0]
    have e2:lX (j+1+1) l a st=lX (j+1) (l.drop (bT l st.1)) (a+bT l st.1) (cR l st):=by rw[lX,if_neg h0]
    rw[e2,e1];generalize lX (j+1) (l.drop (bT l st.1)) (a+bT l st.1) (cR l st)=q2 at *;generalize lX j (l.drop (bT l st.1)) (a+bT l st.1) (cR l st)=q at *;rw[List.drop_drop,List.length_drop,show bT l st.1+(q.1-(a+bT l st.1))=q.1-a by omega] at hih;refine⟨by omega,?_,?_,hih.2.2.2⟩
    · simpa using hih.2.1
    · simpa using hih.2.2.1
end Go.Proofs.YtmehdcdbeafljaaGreatDoor
namespace Go.Proofs.YtmehdcdbeafljaaGreatDoor
open Go.Proofs.Tryz
open Go Go.Lw
set_option maxRecDepth 20000
section
variable {h:az}{b i:Nat}{α:Type}{s:By}{v:Value}{ts:List Tok}{t:Tok}{a e:Int}
theorem Hp {p:Value}{b:Bool}(hn:∀g,aD h g->ah Tryz.prog 63 #[p] g (cT fun r h'=>r= .bool b/\h'=g)) (s:By) (i:Int) (hs:s.length<=1000000) (st:gC) (hb:b=true\/i<0\/(s.length:Int)<=i) :
 ah Tryz.prog 34 #[p,.string (bs s),.int .i64 i,.agg (cz st).toArray] h (cT fun r h'=>r= .tuple #[.agg (fC (0,0,0)).toArray,.agg (cz st).toArray,.int .i64 0]/\aD h h'):=by
 have hbs:=bu s;refine ah.of func34 rfl rfl ?_;refine xr func34 rfl ?_;refine xo rfl (aA.gu rfl) ?_;rintro _ h1 ⟨rfl,k7,e1,z1⟩;refine xo rfl (aA.aX H.EK) ?_;rintro _ h2 ⟨rfl,k8,e2,z2⟩;refine xo rfl (aA.aX H.xJ) ?_;rintro _ h3 ⟨rfl,k9,e3,z3⟩;have k7:bh h1 h.size 41 (cz st):=k7;have k8:bh h2 h1.size 46 (fC (0,0,0)):=k8;have k9:bh h3 h2.size 41 (cz (0,0)):=k9;have e03:=(e1.trans e2).trans e3;have q7:=(k7.ay e2).ay e3;have q8:=k8.ay e3;have y1:=e1.size;have y2:=e2.size;refine aS 1 [0,1,2,3,7,8,9,10] rfl ?_;refine av rfl ?_;refine av rfl ?_;refine G.bE [(27,.bool true)] [(0,_),(1,_),(2,_),(3,_),(7,_),(8,_),(9,_),(10,_)] ⟨rfl,rfl,rfl,rfl,rfl,rfl,rfl,rfl,trivial⟩ func34 rfl ?_ ?_
 · refine bf 1 rfl ?_;refine xo rfl (aq (vs:=[_]) func63 rfl H.J9 rfl (ah.br (hn _ e03))) ?_;rintro _ h4 ⟨rfl,hh4⟩;subst hh4;refine bf 1 rfl ?_;refine aN (d:=18) rfl (fun c1=>?_) (fun c1=>?_)
   · refine bf 9 rfl ?_;refine aE rfl ?_;exact⟨rfl,aF rfl (rfl),rfl,rfl,rfl,rfl,rfl,rfl,rfl,rfl,trivial⟩
   · refine bf 4 rfl ?_;refine aN (d:=22) rfl (fun c2=>?_) (fun c2=>?_)
     · refine bf 5 rfl ?_;refine aE rfl ?_;exact⟨rfl,aF rfl (rfl),rfl,rfl,rfl,rfl,rfl,rfl,rfl,rfl,trivial⟩
     · have c2':=of_decide_eq_false c2;refine ct 2 rfl rfl (aj.bI underlying9 rfl) ?_;refine bf 2 rfl ?_;refine aE rfl ?_;exact⟨rfl,aF rfl (by rw[decide_eq_true_iff];rcases hb with k|k|k;rw[c1] at k;cases k;exact absurd k c2';omega),rfl,rfl,rfl,rfl,rfl,rfl,rfl,rfl,trivial⟩
 · refine aG rfl rfl (fun _=>?_) (fun hc=>absurd hc (by decide));have hM:¬(h.size=h1.size\/Array.size h3<=h.size):=by have:=e03.size;omega
   refine av rfl ?_;refine bU (fun b=>b=Array.size h1\/Array.size h3<=b) (fun i=>Nat.blt i 3) (sz:=5) (listed:= #[false,false,false,false,false]) func34 H.mixed rfl rfl rfl ?_;refine bM 0 1 (by kernel_rfl) rfl (fun h' e=>aP (H.KZ ) rfl) ?_;refine bM 1 3 (by kernel_rfl) rfl (fun h' e=>aj.aH H.iE H.ey rfl (e.rowAt hM q7.row) (by first|rfl|(simp;done)|(simp;omega))) ?_;refine lW 2 7 (by kernel_rfl) rfl (aA.aC H.ir rfl rfl q8 (by first|rfl|(simp;done)|(simp;omega)) (by first|decide|exact of_decide_eq_true rfl|(simp;done)|(simp;omega)) (by first|decide|simp[Value.oneCell'])) ?_;rintro _ h4 ⟨rfl,w8,x4,zz4⟩;refine⟨fun _=>x4.mono (fun _ _ k=>.inl k),?_⟩;have w8:bh h4 h1.size 46 (fC (0,0,0)):=w8;refine lW 3 15 (by kernel_rfl) rfl (aA.aC H.ey rfl rfl (k9.ext x4 (show ¬h2.size=h1.size by omega)) (by first|rfl|(simp;done)|(simp;omega)) (by first|decide|exact of_decide_eq_true rfl|(simp;done)|(simp;omega)) (fS st)) ?_;rintro _ h5 ⟨rfl,w9,x5,z5⟩;refine⟨fun hk=>(nomatch hk),?_⟩;refine cJ 4 31 (by kernel_rfl) rfl ?_;refine bB (by kernel_rfl) ?_;refine xu [0,1,2,3,7,8,9,10,27] rfl ?_;have w9:bh h5 h2.size 41 (cz st):=w9;have w8:=w8.ext x5 (show ¬h1.size=h2.size by omega);refine G.cQ func34 rfl (.cons (bl.cI H.zf H.ir rfl (w8.row) (by first|rfl|(simp;done)|(simp;omega))) (.cons (bl.cI H.iE H.ey rfl (w9.row) (by first|rfl|(simp;done)|(simp;omega))) (.cons (bl.tmp rfl) (.nil)))) ?_;exact⟨_,rfl,rfl,aD.only (aD.only e03 x4 (by omega)) x5 (by omega)⟩
def IM:gQ Tk:=.record 3 (by decide) fC (fun _=>rfl) nZ
def kC (p:UInt8×UInt8):List Value:=[.int .u8 p.1.toNat,.int .u8 p.2.toNat]
def HM:List Value:=iB.flatMap kC
def nY (h:az):Prop:=Lw.rowAt h 1 0 HM
theorem nY.ay {h':az}(k:nY h) (e:aD h h'):nY h':=e.rowAt (fun k=>k) k
theorem Jv (i:Nat) (hi:i<6):HM.toArray.extract (i*2) (i*2+2)=(kC (iB.getD i (0,0))).toArray:=by
 match i,hi with
 | 0,_=>rfl
 | 1,_=>rfl
 | 2,_=>rfl
 | 3,_=>rfl
 | 4,_=>rfl
 | 5,_=>rfl
theorem Fw (p:UInt8×UInt8):∀v∈kC p,v.oneCell'=true:=fun v hv=>by simp[kC] at hv;rcases hv with rfl|rfl<;>rfl
theorem I4 (a b:UInt8):((a.toNat:Int)=(b.toNat:Int))↔a=b:=⟨fun h=>UInt8.toNat_inj.1 (Int.ofNat.inj h),fun h=>by rw[h]⟩
theorem mI {p:α->Bool}{l:List α}(h:∀a∈l.take i,p a=false) (hi:i=l.length):l.find? p=none:=by
 subst hi;rw[List.take_length] at h;rw[List.find?_eq_none];intro a ha;rw[h a ha];simp
theorem De {p:α->Bool}{l:List α}{a:α}(h:∀a∈l.take i,p a=false) (ha:l[i]? =some a) (hp:p a=true):l.find? p=some a:=by
 induction l generalizing i with
 |nil=>simp at ha
 |cons b l ih =>
  cases i with
  |zero=>simp at ha;subst ha;rw[List.find?_cons_of_pos hp]
  |succ i =>
   rw[List.find?_cons_of_neg (by rw[h b (by simp)];simp)];exact ih (i:=i) (fun a ha=>h a (by simp[ha])) (by simpa using ha)
theorem vN (hg:nY h) (s:By):ah Tryz.prog 87 #[.string (bs s)] h (cT fun r h'=>r= .int .u8 (oF s).toNat/\aD h h'):=by
 have hbs:=bu s;refine ah.of func87 rfl rfl ?_;refine aY func87 1 [0,2] rfl ?_;refine av rfl ?_;refine bp func87 1 rfl ?_;refine xp rfl (aj.bI underlying9 rfl) ?_;refine aS 1 [0,2,7] rfl ?_;refine aO rfl rfl (fun hlt=>?_) (fun hlt=>?_)
 · refine aY func87 1 [0,2,7] rfl ?_;refine G.ret func87 rfl rfl ?_;have h1:s[1]? =none:=List.getElem?_eq_none (by omega);exact⟨_,rfl,by unfold oF;rw[h1];rfl,Ext.refl _ _⟩
 · obtain⟨c,hc⟩:∃c,s[1]? =some c:=⟨_,List.getElem?_eq_getElem (show 1<s.length by omega)⟩
   have hE:oF s=HN c:=by unfold oF;rw[hc]
   rw[hE];refine aB rfl ?_;refine av rfl ?_;refine xr func87 rfl ?_;refine xp rfl (aj.aH H.K5 H.JR rfl hg (by first|rfl|(simp;done)|(simp;omega))) ?_;refine aS 1 [0,2,7,8,9] rfl ?_;refine G.block rfl rfl ?_;refine bD (σ:=Nat) (fun i=>[(0,.string (bs s)),(8,.agg HM.toArray),(9,.int .i64 (i:Nat))]) (fun i h'=>aD h h'/\i<=6/\∀p∈iB.take i,(p.1 ==c)=false) (fun i=>6-i) (0) rfl ⟨rfl,rfl,rfl,trivial⟩ ⟨Ext.refl _ _,by omega,by simp⟩ ?_;rintro i g ⟨eg,hi,hin⟩ ih;refine aY func87 1 [0,8,9,10] rfl ?_;refine av rfl ?_;refine aO rfl rfl (fun hi6=>?_) (fun hi6=>?_)
   · have hil:i<6:=by omega
     obtain⟨p,hp⟩:∃p,iB[i]? =some p:=⟨_,List.getElem?_eq_getElem (show i<iB.length from hil)⟩
     have hpd:iB.getD i (0,0)=p:=by rw[List.getD_eq_getElem?_getD,hp];rfl
     have hcut:=Jv i hil;rw[hpd] at hcut;refine aB rfl ?_;refine av rfl ?_;refine G.block rfl rfl ?_;refine xr func87 rfl ?_;refine xp rfl (aj.Eh underlying215 H.wv H.IY rfl rfl i rfl hil hcut) ?_;refine xo rfl (aA.aX H.JM) ?_;rintro _ g1 ⟨rfl,k1,e1,z1⟩;refine RW.b9 rfl rfl rfl (aA.aC H.wv rfl rfl k1 (by first|rfl|(simp;done)|(simp;omega)) (by first|decide|exact of_decide_eq_true rfl|(simp;done)|(simp;omega)) (Fw p)) ?_;rintro _ g2 ⟨rfl,k2,x2,z2⟩;have k2:bh g2 g.size 214 (kC p):=k2;have e02:aD h g2:=aD.only (eg.trans e1) x2 (by have:=eg.size;omega);refine xd [0,4,8,9,10] rfl ?_;refine av rfl ?_;refine bU (fun b=>Array.size g2<=b) (fun i=>Nat.blt i 5) (sz:=5) (listed:= #[false,false,false,false,false]) func87 H.mixed rfl rfl rfl ?_;refine bM 0 1 (by kernel_rfl) rfl (fun h' e=>aj.cK underlying214 H.JI rfl rfl 0 rfl (by decide)) ?_;refine bM 1 3 (by kernel_rfl) rfl (fun h' e=>ai H.K4 rfl (e.old (k2.cell (i:=0) rfl))) ?_;refine cJ 2 7 (by kernel_rfl) rfl ?_;refine bM 3 15 (by kernel_rfl) rfl (fun h' e=>aj.dw underlying9 rfl rfl 1 rfl (gP hc)) ?_;refine cJ 4 31 (by kernel_rfl) rfl ?_;refine bB (by kernel_rfl) ?_;refine xu [0,4,8,9,10,16] rfl ?_;refine aO rfl rfl (fun he=>?_) (fun he=>?_)
     · have he:p.1=c:=(I4 _ _).1 (by omega);refine xr func87 rfl ?_;refine xp rfl (aj.cK underlying214 H.JI rfl rfl 1 rfl (by decide)) ?_;refine xp rfl (ai H.K4 rfl (k2.cell (i:=1) rfl)) ?_;refine aS 1 [0,2,4,8,9,10,16] rfl ?_;refine G.ret func87 rfl rfl ?_;refine⟨_,rfl,?_,e02⟩;unfold HN;rw[De hin hp (by rw[he];simp)];rfl
     · have he:¬p.1=c:=fun q=>he (by rw[q])
       refine aB rfl ?_;refine G.aQ ?_;refine G.cq func87 rfl ?_;refine xp rfl (aj.bC rfl rfl ⟨by omega,by omega⟩) ?_;refine aS 1 [0,4,8,9,10,16] rfl ?_;exact ih (i+1) _ _ ⟨rfl,rfl,rfl,trivial⟩ ⟨e02,by omega,fun q hq=>by rw[List.take_add_one,hp,List.mem_append] at hq;rcases hq with hq|hq;exact hin q hq;simp at hq;subst hq;simpa using he⟩ (by omega)
   · obtain rfl:i=6:=by omega
     refine bw rfl rfl ?_;refine bp func87 1 rfl ?_;refine xp rfl (aj.dw underlying9 rfl rfl 1 rfl (gP hc)) ?_;refine aS 1 [0,2,8,9,10] rfl ?_;refine G.ret func87 rfl rfl ?_;refine⟨_,rfl,?_,eg⟩;unfold HN;rw[mI hin rfl];rfl
theorem vP {tb:Nat}(hb:bh h tb 9 [.string (bs s)]) (t:Tok):ah Tryz.prog 126 #[.agg (fC t).toArray,ptr tb] h (cT fun r h'=>r= .bool (!yI s t)/\aD h h'):=by
 have hbs:=bu s;refine ah.of func126 rfl rfl ?_;refine xr func126 rfl ?_;refine xo rfl (aA.gu rfl) ?_;rintro _ h1 ⟨rfl,k1,e1,z1⟩;have k1:bh h1 h.size 46 (fC t):=k1;have hb1:=hb.ay e1;refine aS 1 [0,1,2,3] rfl ?_;refine av rfl ?_;refine G.bE [(3,.bool (!yI s t))] [(0,_),(1,_),(2,_)] ⟨rfl,rfl,rfl,trivial⟩ func126 rfl ?_ ?_
 · refine xp rfl (af (off:=1) underlying46 rfl rfl H.bW rfl) ?_;refine xp rfl (ai H.cM rfl (k1.cell (i:=1) rfl)) ?_;refine bf 2 rfl ?_;refine aN (d:=7) rfl (fun g=>?_) (fun g=>?_)
   · have g:=of_decide_eq_true g;refine bf 14 rfl ?_;refine aE rfl ?_;exact⟨rfl,aF rfl (by unfold yI;rw[decide_eq_false (by omega)];rfl),rfl,rfl,rfl,trivial⟩
   · have g:=of_decide_eq_false g;refine xp rfl (af (off:=2) underlying46 rfl rfl H.bW rfl) ?_;refine xp rfl (ai H.cM rfl (k1.cell (i:=2) rfl)) ?_;refine xp rfl (ai H.fM rfl (hb1.cell (i:=0) rfl)) ?_;refine xp rfl (aj.bI underlying9 rfl) ?_;refine bf 3 rfl ?_;refine aN (d:=14) rfl (fun g2=>?_) (fun g2=>?_)
     · have g2:=of_decide_eq_true g2;refine bf 7 rfl ?_;refine aE rfl ?_;exact⟨rfl,aF rfl (by unfold yI;rw[decide_eq_true (show 0<=t.2.1 by omega),decide_eq_false (by omega)];rfl),rfl,rfl,rfl,trivial⟩
     · have g2:=of_decide_eq_false g2;refine xp rfl (af (off:=1) underlying46 rfl rfl H.bW rfl) ?_;refine xp rfl (ai H.cM rfl (k1.cell (i:=1) rfl)) ?_;refine xp rfl (af (off:=2) underlying46 rfl rfl H.bW rfl) ?_;refine xp rfl (ai H.cM rfl (k1.cell (i:=2) rfl)) ?_;refine bf 3 rfl ?_;refine aE rfl ?_;exact⟨rfl,aF rfl (by unfold yI;rw[decide_eq_true (show 0<=t.2.1 by omega),decide_eq_true (show t.2.2<=s.length by omega),Bool.true_and,Bool.true_and,<-decide_not,decide_eq_decide];omega),rfl,rfl,rfl,trivial⟩
 · refine G.ret func126 rfl rfl ?_;exact⟨_,rfl,rfl,e1⟩
theorem yG {gf:FuncId}{caps:List Value}(hf:Ik Tryz.prog gf) (hv:bS IM h (fun _=>False) v ts) (p:Tok->Bool)
 (hp:∀t g,aD h g->ah Tryz.prog gf ([Value.agg (fC t).toArray]++caps).toArray g (cT fun r h'=>r= .bool (p t)/\aD g h')) :
 ah Tryz.prog 160 #[v,.func (.func gf) #[] caps.toArray] h (cT fun r h'=>(∃i:Int,r= .int .i64 i/\decide (0<=i)=ts.any p)/\aD h h'):=by
 obtain⟨va,vn,vc,rfl,hvs⟩:=hv.open;have hvl:ts.length=vn:=hvs.len;subst hvl;have hvm:=hvs.cap;have hvc:=hvs.le;simp only[maxLen] at hvm;refine ah.of func160 rfl rfl ?_;refine aY func160 1 [0,1,4] rfl ?_;refine av rfl ?_;refine bp func160 1 rfl ?_;refine xp rfl (aj.aK underlying39 rfl) ?_;refine aS 1 [0,1,4,7,8] rfl ?_;refine G.block rfl rfl ?_;refine bD (σ:=Nat) (fun i=>[(0,.slice va ts.length vc),(1,.func (.func gf) #[] caps.toArray),(7,.int .i64 (ts.length:Nat)),(8,.int .i64 (i:Nat))]) (fun i h'=>aD h h'/\i<=ts.length/\(ts.take i).any p=false) (fun i=>ts.length-i) (0) rfl ⟨rfl,rfl,rfl,rfl,trivial⟩ ⟨Ext.refl _ _,Nat.zero_le _,by simp⟩ ?_;rintro i g ⟨eg,hi,hin⟩ ih;refine aY func160 1 [0,1,7,8,9] rfl ?_;refine av rfl ?_;refine aO rfl rfl (fun hlt=>?_) (fun hlt=>?_)
 · have hil:i<ts.length:=by omega
   have hvg:=hvs.mv (Mv.ay eg);obtain⟨b,o,t,ha,_,ht,hrow⟩:=hvg.vS hil;have hpt:=hp t g eg;refine aB rfl ?_;refine av rfl ?_;refine G.block rfl rfl ?_;refine aY func160 2 [0,1,5,7,8,9] rfl ?_;refine bp func160 3 rfl ?_;refine xp rfl (aj.ax underlying39 H.ir rfl rfl i rfl ha (by omega)) ?_;refine xp rfl (aj.aH H.zf H.ir rfl hrow (by first|rfl|(simp;done)|(simp;omega))) ?_;refine xo rfl (aA.Gy (vs:=[_]) rfl hf rfl (ah.br (hpt))) ?_;rintro _ g1 ⟨rfl,e1⟩;refine xd [0,1,5,7,8,9,16] rfl ?_;refine aG rfl rfl (fun hb=>?_) (fun hb=>?_)
   · have hb:p t=true:=hb;refine aY func160 2 [0,1,4,5,7,8,9,16] rfl ?_;refine G.ret func160 rfl rfl ?_;refine⟨_,rfl,⟨i,rfl,?_⟩,eg.trans e1⟩;rw[decide_eq_true (by omega)];exact(List.any_eq_true.2 ⟨t,List.mem_of_getElem? ht,hb⟩).symm
   · have hb:p t=false:=hb;refine aB rfl ?_;refine G.aQ ?_;refine G.cq func160 rfl ?_;refine xp rfl (aj.bC rfl rfl ⟨by omega,by omega⟩) ?_;refine aS 1 [0,1,5,7,8,9,16] rfl ?_;exact ih (i+1) _ _ ⟨rfl,rfl,rfl,rfl,trivial⟩ ⟨eg.trans e1,by omega,by rw[List.take_add_one,ht,List.any_append,hin];simp[hb]⟩ (by omega)
 · obtain rfl:i=ts.length:=by omega
   rw[List.take_length] at hin;refine bw rfl rfl ?_;refine aY func160 1 [0,1,4,7,8,9] rfl ?_;refine G.ret func160 rfl rfl ?_;exact⟨_,rfl,⟨-1,rfl,by rw[hin];rfl⟩,eg⟩
theorem su {h1:az}(hv:bS IM h1 (fun _=>False) v ts) (k1:bh h1 h.size 9 [.string (bs s)]):ah Tryz.prog 125 #[v,.func (.func 126) #[] #[ptr h.size]] h1 (cT fun r h'=>r= .bool (ts.any fun t=> !yI s t)/\aD h1 h'):=by
 have hi:=yG (h:=h1) (gf:=126) (caps:=[ptr h.size]) ⟨_,func126,rfl,by kernel_rfl⟩ hv (fun t=> !yI s t) (fun t g eg=>vP (k1.ay eg) t);refine ah.of func125 rfl rfl ?_;refine aY func125 1 [0,1,4] rfl ?_;refine bp func125 2 rfl ?_;refine xo rfl (aq (vs:=[_,_]) func160 rfl H.Kq rfl (ah.br (hi))) ?_;rintro _ h2 ⟨⟨i,rfl,hi2⟩,e2⟩;refine aS 2 [0,1,4] rfl ?_;refine G.ret func125 rfl rfl ?_;exact⟨_,rfl,by rw[<-hi2];rfl,e2⟩
theorem vL (hv:bS IM h (fun _=>False) v ts) (s:By):ah Tryz.prog 86 #[.string (bs s),v] h (cT fun r h'=>r= .bool (ts.all (yI s))/\aD h h'):=by
 refine ah.of func86 rfl rfl ?_;refine xr func86 rfl ?_;refine xo rfl (aA.gu rfl) ?_;rintro _ h1 ⟨rfl,k1,e1,z1⟩;have hc:=su (hv.ay e1) (show bh h1 h.size 9 [.string (bs s)] from k1);refine aS 1 [0,1,2,4] rfl ?_;refine bp func86 1 rfl ?_;refine xp rfl (aj.makeFunc (vs:=[_]) rfl) ?_;refine xo rfl (aq (vs:=[_,_]) func125 rfl H.Kx rfl (ah.br (hc))) ?_;rintro _ h2 ⟨rfl,e2⟩;refine aS 2 [0,1,2,4] rfl ?_;refine G.ret func86 rfl rfl ?_;refine⟨_,rfl,?_,e1.trans e2⟩;rw[List.all_eq_not_any_not];rfl
theorem Ga (h:yI s t=true):∃f q:Nat,t.2.1=f/\t.2.2=q/\f<=q/\q<=s.length/\dF s t=(s.take q).drop f:=by
 unfold yI at h;simp only[Bool.and_eq_true,decide_eq_true_eq] at h;obtain⟨⟨h1,h2⟩,h3⟩:=h;refine⟨t.2.1.toNat,t.2.2.toNat,by omega,by omega,by omega,by omega,?_⟩;unfold dF;rw[List.drop_take]
theorem DA (s:By) (t:Tok):(dF s t).length<=s.length:=by
 unfold dF;rw[List.length_take,List.length_drop];omega
theorem Bx (h:ts[i]? =some t) (out:List Un) (op:Bool) :
 iq s (ts.drop i) out op=match jT s out op t with|.er a e=>.er a e|.go out op=>iq s (ts.drop (i+1)) out op:=by
 obtain⟨hi,rfl⟩:=List.getElem?_eq_some_iff.1 h;rw[List.drop_eq_getElem_cons hi];rfl
theorem E9 (pre:List α) (u y:α):(pre++[u]).set pre.length y=pre++[y]:=by
 rw[List.set_append_right _ _ (Nat.le_refl _),Nat.sub_self];rfl
theorem Eu {T:TypeId}(c:UInt8):bS .byte (h.push (.cells #[.int .u8 c.toNat] T)) (fun _=>False) (.slice (some ⟨h.size,0,none⟩) 1 1) [c] :=
 CD.read (jo so h T [c] 1 rfl (by decide) 0 (Nat.zero_le _) rfl) (fun _ _ k=>k)
def MW (h':az) (r:Value):(Int×Int) ⊕ List Un->Prop
 |.inl p=>r=packed [.slice none 0 0,.int .i64 p.1,.int .i64 p.2]
 |.inr us=>us.length<=500/\∃uv,r=packed [uv,.int .i64 0,.int .i64 0]/\bS Mz h' (fun _=>False) uv us
theorem xK (hg:nY h) (hv:bS IM h (fun _=>False) v ts) (s:By) (st:gC) (hb:ts.length*(s.length+2)<=1000000000000) (hsl:s.length<=1000000000000) :
 ah Tryz.prog 41 #[.string (bs s),v,.agg (cz st).toArray] h (cT fun r h'=>aD h h'/\MW h' r (fH s ts st.1)):=by
 obtain⟨va,vn,vc,rfl,hvs⟩:=id hv.open;have hvl:ts.length=vn:=hvs.len;subst hvl;have hvm:=hvs.cap;have hvc:=hvs.le;simp only[maxLen] at hvm;refine ah.of func41 rfl rfl ?_;refine xr func41 rfl ?_;refine xo rfl (aA.gu rfl) ?_;rintro _ h1 ⟨rfl,k1,e1,z1⟩;refine aS 3 [0,1,2,5,6,7,8] rfl ?_;refine av rfl ?_;refine bp func41 2 rfl ?_;refine xo rfl (aq (vs:=[_,_]) func86 rfl H.LM rfl (ah.br (vL (hv.ay e1) s))) ?_;rintro _ h2 ⟨rfl,e2⟩;have k1:bh h2 h.size 41 (cz st):=k1.ay e2;have e02:=e1.trans e2;refine aS 1 [0,1,2,5,6,7,8,16] rfl ?_;refine aG rfl rfl (fun hw=>?_) (fun hw=>?_)
 · have hw:ts.all (yI s)=false:=by simpa using hw
   refine aY func41 3 [0,1,2,5,6,7,8,16] rfl ?_;refine G.ret func41 rfl rfl ?_;refine⟨_,rfl,e02,?_⟩;unfold fH;rw[if_neg (by rw[hw];simp)];rfl
 · have hw:ts.all (yI s)=true:=by simpa using hw
   have hU:fH s ts st.1=match iq s ts [] false with|.er a e=>.inl (a,e)|.go out op=>if op=true\/st.1≠0 then .inl (s.length,10) else .inr out:=by
    unfold fH;rw[if_pos hw];rfl
   rw[hU];generalize htg0:iq s ts [] false=tgt;refine aB rfl ?_;refine aY func41 1 [0,1,2,5,6,7,8,9,16] rfl ?_;refine av rfl ?_;refine bp func41 1 rfl ?_;refine xp rfl (aj.aK underlying39 rfl) ?_;refine aS 1 [0,1,2,5,6,7,8,9,16,17,18,19] rfl ?_;refine G.block rfl rfl ?_;refine bD (σ:=Nat×List Un×Bool×Value) (fun w=>[(0,.string (bs s)),(5,ptr h.size),(6,w.2.2.2),(9,.bool w.2.2.1),(17,.slice va ts.length vc),(18,.int .i64 (ts.length:Nat)),(19,.int .i64 (w.1:Nat))]) (fun w g=>w.1<=ts.length/\aD h2 g/\h2.size<=g.size/\kK 3 qK g h2.size 188 w.2.2.2 w.2.1/\iq s (ts.drop w.1) w.2.1 w.2.2.1=tgt/\w.2.1.length<=500/\(w.2.2.1=true->w.2.1≠[])/\(∀u∈w.2.1,u.2.1.length<=w.1*(s.length+2))) (fun w=>ts.length-w.1) ((0,[],false,.slice none 0 0)) rfl ⟨rfl,rfl,rfl,rfl,rfl,rfl,rfl,trivial⟩ ⟨Nat.zero_le _,Ext.refl _ _,Nat.le_refl _,kK.nil _ _ _ _ _,htg0,by simp,(fun k=>by cases k),by simp⟩ ?_;rintro⟨i,out,op,ov⟩ g ⟨hi,eg,hz,how,htg,hol,hop,hut⟩ ih
   try dsimp only
   dsimp only at hi how htg hol hop hut;have hho:aR g h2.size 188 3 ov out.length (out.flatMap qK):=how;obtain⟨oa,oc,rfl,_⟩:=hho.open;refine aY func41 1 [0,5,6,9,17,18,19,20] rfl ?_;refine av rfl ?_;refine aO rfl rfl (fun hlt=>?_) (fun hlt=>?_)
   · have hil:i<ts.length:=by omega
     have hmul:(i+1)*(s.length+2)<=ts.length*(s.length+2):=Nat.mul_le_mul_right _ hil;have hsuc:(i+1)*(s.length+2)=i*(s.length+2)+(s.length+2):=Nat.succ_mul _ _;have hbig:∀n,n<=i*(s.length+2)->n<=(i+1)*(s.length+2):=fun n hn=>by omega
     have hvg:=hvs.mv (Mv.ay (e02.trans eg));obtain⟨b,o,t,ha,_,ht,hrow⟩:=hvg.vS hil;have hint:yI s t=true:=List.all_eq_true.1 hw t (List.mem_of_getElem? ht);obtain⟨f,q,hf,hq,hfq,hqs,htx⟩:=Ga hint;have htl:=DA s t;have hstep:=Bx (s:=s) ht out op;have hbz:=bu s;refine aB rfl ?_;refine av rfl ?_;refine G.block rfl rfl ?_;refine xr func41 rfl ?_;refine xp rfl (aj.ax underlying39 H.ir rfl rfl i rfl ha (by omega)) ?_;refine xp rfl (aj.aH H.zf H.ir rfl hrow (by first|rfl|(simp;done)|(simp;omega))) ?_;refine xo rfl (aA.aX H.EK) ?_;rintro _ g1 ⟨rfl,k2,e3,z3⟩;refine RW.b9 rfl rfl rfl (aA.aC H.ir rfl rfl k2 (by first|rfl|(simp;done)|(simp;omega)) (by first|decide|exact of_decide_eq_true rfl|(simp;done)|(simp;omega)) (nZ t)) ?_;rintro _ g2 ⟨rfl,kt,x2,z2⟩;have kt:bh g2 g.size 46 (fC t):=kt;have eg2:aD g g2:=aD.only e3 x2 (Nat.le_refl _);have how2:=how.ay eg2;have hho2:aR g2 h2.size 188 3 (.slice oa out.length oc) out.length (out.flatMap qK):=how2;have egg:=eg.trans eg2;refine xd [0,5,6,9,11,17,18,19,20] rfl ?_;refine bp func41 1 rfl ?_;refine xp rfl (af (off:=1) underlying46 rfl rfl H.bW rfl) ?_;refine xp rfl (ai H.cM rfl (kt.cell (i:=1) rfl)) ?_;refine xp rfl (af (off:=2) underlying46 rfl rfl H.bW rfl) ?_;refine xp rfl (ai H.cM rfl (kt.cell (i:=2) rfl)) ?_;refine xp rfl (aj.tA underlying9 rfl rfl f hf rfl q hq hfq (by omega)) ?_;rw[sO _ _ _ hfq,<-htx];refine aS 1 [0,5,6,9,11,12,17,18,19,20] rfl ?_;refine av rfl ?_;refine G.block rfl rfl ?_;refine xr func41 rfl ?_;refine xp rfl (af (off:=0) underlying46 rfl rfl H.bW rfl) ?_;refine xp rfl (ai H.cM rfl (kt.cell (i:=0) rfl)) ?_;refine aS 2 [0,5,6,9,11,12,17,18,19,20,29] rfl ?_;refine aO rfl rfl (fun h0=>?_) (fun h0=>?_)
     · have hu:jT s out op t= .er t.2.1 10:=by unfold jT;rw[if_pos h0]
       rw[hstep,hu] at htg;refine av rfl ?_;refine G.ew func41 H.mixed rfl (by kernel_rfl) ?_;refine RQ.au rfl rfl rfl rfl (af (off:=1) underlying46 rfl rfl H.bW rfl) ?_;refine RQ.au rfl rfl rfl rfl (ai H.cM rfl (kt.cell (i:=1) rfl)) ?_;refine RQ.au rfl rfl rfl rfl (aj.assign rfl) ?_;refine RQ.au rfl rfl rfl rfl (aj.assign rfl) ?_;refine RQ.au rfl rfl rfl rfl (aj.assign rfl) ?_;refine cB rfl ?_;refine xu [0,5,6,7,8,9,11,12,17,18,19,20,29] rfl ?_;refine G.ret func41 rfl rfl ?_;exact⟨_,rfl,e02.trans egg,by rw[<-htg];rfl⟩
     · rcases op with _|_
       · refine av rfl ?_;refine G.bE [(35,.bool false)] [(0,_),(5,_),(6,_),(9,_),(11,_),(12,_),(17,_),(18,_),(19,_),(20,_),(29,_)] ⟨rfl,rfl,rfl,rfl,rfl,rfl,rfl,rfl,rfl,rfl,rfl,trivial⟩ func41 rfl ?_ ?_
         · refine bf 2 rfl ?_;refine RW.dn (d:=37) (b':=false) rfl (rfl) ?_;refine bf 9 rfl ?_;refine aE rfl ?_;exact⟨rfl,aF rfl (rfl),rfl,rfl,rfl,rfl,rfl,rfl,rfl,rfl,rfl,rfl,rfl,trivial⟩
         · refine aG rfl rfl (fun hc=>absurd hc (by simp)) (fun _=>?_);refine av rfl ?_;refine G.bE [(46,.bool false)] [(0,_),(5,_),(6,_),(9,_),(11,_),(12,_),(17,_),(18,_),(19,_),(20,_),(29,_),(35,_)] ⟨rfl,rfl,rfl,rfl,rfl,rfl,rfl,rfl,rfl,rfl,rfl,rfl,trivial⟩ func41 rfl ?_ ?_
           · refine bf 2 rfl ?_;refine RW.dn (d:=48) (b':=false) rfl (rfl) ?_;refine bf 5 rfl ?_;refine aE rfl ?_;exact⟨rfl,aF rfl (rfl),rfl,rfl,rfl,rfl,rfl,rfl,rfl,rfl,rfl,rfl,rfl,rfl,trivial⟩
           · refine aG rfl rfl (fun hc=>absurd hc (by simp)) (fun _=>?_);refine aY func41 2 [0,5,6,9,11,12,17,18,19,20,29,35,46,67] rfl ?_;refine aG rfl rfl (fun hc=>absurd hc (by simp)) (fun _=>?_)
             have hu0:jT s out false t=(if t.1=1\/t.1=2\/t.1=11 then .go out false else if out.length=500 then .er t.2.1 3 else .go (out++[(t.1,if t.1=9 then [] else dF s t,t.2.1)]) (decide (t.1=9))):=by
              unfold jT;rw[if_neg h0];rfl
             refine av rfl ?_;refine xr func41 rfl ?_;refine xp rfl (af (off:=0) underlying46 rfl rfl H.bW rfl) ?_;refine xp rfl (ai H.cM rfl (kt.cell (i:=0) rfl)) ?_;refine aS 2 [0,5,6,9,11,12,17,18,19,20,29,35,46,67,80] rfl ?_;refine aO rfl rfl (fun c1=>?_) (fun c1=>?_)
             · refine aB rfl ?_;refine aG rfl rfl (fun _=>?_) (fun hc=>absurd hc (by simp[c1]));refine bw rfl rfl ?_;refine G.cq func41 rfl ?_;refine xp rfl (aj.bC rfl rfl ⟨by omega,by omega⟩) ?_;refine aS 1 [0,5,6,9,11,12,17,18,19,20,29,35,46,67,80] rfl ?_;exact ih (i+1,out,false,(.slice oa out.length oc)) _ _ ⟨rfl,rfl,rfl,rfl,rfl,rfl,rfl,trivial⟩ ⟨by show i+1<=ts.length;omega,egg,by have:=(egg).size;omega,how2,by rw[hstep,(hu0.trans (if_pos (.inl c1)))] at htg;exact htg,hol,(fun k=>by cases k),(fun u hu=>hbig _ (hut u hu))⟩ (by show ts.length-(i+1)<ts.length-i;omega)
             · refine xr func41 rfl ?_;refine xp rfl (af (off:=0) underlying46 rfl rfl H.bW rfl) ?_;refine xp rfl (ai H.cM rfl (kt.cell (i:=0) rfl)) ?_;refine aS 2 [0,5,6,9,11,12,17,18,19,20,29,35,46,67,80] rfl ?_;refine aO rfl rfl (fun c2=>?_) (fun c2=>?_)
               · refine aB rfl ?_;refine aG rfl rfl (fun _=>?_) (fun hc=>absurd hc (by simp[c2]));refine bw rfl rfl ?_;refine G.cq func41 rfl ?_;refine xp rfl (aj.bC rfl rfl ⟨by omega,by omega⟩) ?_;refine aS 1 [0,5,6,9,11,12,17,18,19,20,29,35,46,67,80] rfl ?_;exact ih (i+1,out,false,(.slice oa out.length oc)) _ _ ⟨rfl,rfl,rfl,rfl,rfl,rfl,rfl,trivial⟩ ⟨by show i+1<=ts.length;omega,egg,by have:=(egg).size;omega,how2,by rw[hstep,(hu0.trans (if_pos (.inr (.inl c2))))] at htg;exact htg,hol,(fun k=>by cases k),(fun u hu=>hbig _ (hut u hu))⟩ (by show ts.length-(i+1)<ts.length-i;omega)
               · refine G.cq func41 rfl ?_;refine xp rfl (af (off:=0) underlying46 rfl rfl H.bW rfl) ?_;refine xp rfl (ai H.cM rfl (kt.cell (i:=0) rfl)) ?_;refine aS 2 [0,5,6,9,11,12,17,18,19,20,29,35,46,67,80] rfl ?_;refine aO rfl rfl (fun c3=>?_) (fun c3=>?_)
                 · refine bw rfl rfl ?_;refine G.cq func41 rfl ?_;refine xp rfl (aj.bC rfl rfl ⟨by omega,by omega⟩) ?_;refine aS 1 [0,5,6,9,11,12,17,18,19,20,29,35,46,67,80] rfl ?_;exact ih (i+1,out,false,(.slice oa out.length oc)) _ _ ⟨rfl,rfl,rfl,rfl,rfl,rfl,rfl,trivial⟩ ⟨by show i+1<=ts.length;omega,egg,by have:=(egg).size;omega,how2,by rw[hstep,(hu0.trans (if_pos (.inr (.inr c3))))] at htg;exact htg,hol,(fun k=>by cases k),(fun u hu=>hbig _ (hut u hu))⟩ (by show ts.length-(i+1)<ts.length-i;omega)
                 · rw[if_neg (fun q=>by omega)] at hu0;refine xr func41 rfl ?_;refine xp rfl (af (off:=0) underlying46 rfl rfl H.bW rfl) ?_;refine xp rfl (ai H.cM rfl (kt.cell (i:=0) rfl)) ?_;refine aS 2 [0,5,6,9,11,12,17,18,19,20,29,35,46,67,80,90] rfl ?_;refine aO rfl rfl (fun c9=>?_) (fun c9=>?_)
                   · refine G.cq func41 rfl ?_;refine aS 2 [0,5,6,9,11,12,17,18,19,20,29,35,46,67,80,90] rfl ?_;refine G.aQ ?_;refine av rfl ?_;refine bp func41 1 rfl ?_;refine xp rfl (aj.aK underlying111 rfl) ?_;refine aS 1 [0,5,6,9,11,12,17,18,19,20,29,35,46,67,80,90,96] rfl ?_;refine aO rfl rfl (fun c500=>?_) (fun c500=>?_)
                     · have c500:out.length=500:=by omega
                       rw[if_pos c500] at hu0;rw[hstep,hu0] at htg;refine av rfl ?_;refine G.ew func41 H.mixed rfl (by kernel_rfl) ?_;refine RQ.au rfl rfl rfl rfl (af (off:=1) underlying46 rfl rfl H.bW rfl) ?_;refine RQ.au rfl rfl rfl rfl (ai H.cM rfl (kt.cell (i:=1) rfl)) ?_;refine RQ.au rfl rfl rfl rfl (aj.assign rfl) ?_;refine RQ.au rfl rfl rfl rfl (aj.assign rfl) ?_;refine RQ.au rfl rfl rfl rfl (aj.assign rfl) ?_;refine cB rfl ?_;refine xu [0,5,6,7,8,9,11,12,17,18,19,20,29,35,46,67,80,90,96] rfl ?_;refine G.ret func41 rfl rfl ?_;exact⟨_,rfl,e02.trans egg,by rw[<-htg];rfl⟩
                     · have c500:¬out.length=500:=by omega
                       rw[if_neg c500] at hu0;refine aB rfl ?_;refine G.cq func41 rfl ?_;refine ct 1 rfl rfl (af (off:=0) underlying46 rfl rfl H.bW rfl) ?_;refine xp rfl (ai H.cM rfl (kt.cell (i:=0) rfl)) ?_;refine ct 1 rfl rfl (af (off:=1) underlying46 rfl rfl H.bW rfl) ?_;refine xp rfl (ai H.cM rfl (kt.cell (i:=1) rfl)) ?_;refine xp rfl (aP (H.rX _ _ _) rfl) ?_;refine xo rfl (aA.cL (cs:=[_,_,_]) underlying111 H.Df rfl rfl (by decide)) ?_;rintro _ _ ⟨rfl,rfl⟩;refine xo rfl (aA.bN underlying111 H.Df rfl rfl (hho2) rfl rfl (xQ (t.1,([]:By),t.2.1)) (by omega) (by decide) (by omega)) ?_;rintro v2 g4 ⟨ho4,hx4,hx4',hv4⟩;have ho5:kK 3 qK g4 h2.size 188 v2 (out++[(t.1,([]:By),t.2.1)]):=kK.of ho4 rfl rfl;have e24:aD h2 g4:=Ext.own egg hho2 (Nat.le_refl _) hx4;have hu1:jT s out false t= .go (out++[(t.1,([]:By),t.2.1)]) true:=hu0.trans (by simp[c9]);refine aS 1 [0,5,6,9,11,12,17,18,19,20,29,35,46,67,80,90,96] rfl ?_;refine G.aQ ?_;refine G.cq func41 rfl ?_;refine xp rfl (aj.bC rfl rfl ⟨by omega,by omega⟩) ?_;refine aS 1 [0,5,6,9,11,12,17,18,19,20,29,35,46,67,80,90,96] rfl ?_;exact ih (i+1,(out++[(t.1,([]:By),t.2.1)]),true,v2) _ _ ⟨rfl,rfl,rfl,rfl,rfl,rfl,rfl,trivial⟩ ⟨by show i+1<=ts.length;omega,e24,by have:=(e24).size;omega,ho5,by rw[hstep,hu1] at htg;exact htg,(by rw[List.length_append];simp only[List.length_singleton];omega),(fun _=>by simp),(fun u hu=>(List.mem_append.1 hu).elim (fun hu=>hbig _ (hut u hu)) (fun hu=>by simp only[List.mem_singleton] at hu;subst hu;show List.length (([]:By))<=(i+1)*(s.length+2);have hz0:List.length ([]:By)=0:=rfl;omega))⟩ (by show ts.length-(i+1)<ts.length-i;omega)
                   · refine aB rfl ?_;refine G.aQ ?_;refine av rfl ?_;refine bp func41 1 rfl ?_;refine xp rfl (aj.aK underlying111 rfl) ?_;refine aS 1 [0,5,6,9,11,12,17,18,19,20,29,35,46,67,80,90,96] rfl ?_;refine aO rfl rfl (fun c500=>?_) (fun c500=>?_)
                     · have c500:out.length=500:=by omega
                       rw[if_pos c500] at hu0;rw[hstep,hu0] at htg;refine av rfl ?_;refine G.ew func41 H.mixed rfl (by kernel_rfl) ?_;refine RQ.au rfl rfl rfl rfl (af (off:=1) underlying46 rfl rfl H.bW rfl) ?_;refine RQ.au rfl rfl rfl rfl (ai H.cM rfl (kt.cell (i:=1) rfl)) ?_;refine RQ.au rfl rfl rfl rfl (aj.assign rfl) ?_;refine RQ.au rfl rfl rfl rfl (aj.assign rfl) ?_;refine RQ.au rfl rfl rfl rfl (aj.assign rfl) ?_;refine cB rfl ?_;refine xu [0,5,6,7,8,9,11,12,17,18,19,20,29,35,46,67,80,90,96] rfl ?_;refine G.ret func41 rfl rfl ?_;exact⟨_,rfl,e02.trans egg,by rw[<-htg];rfl⟩
                     · have c500:¬out.length=500:=by omega
                       rw[if_neg c500] at hu0;refine aB rfl ?_;refine G.cq func41 rfl ?_;refine ct 1 rfl rfl (af (off:=0) underlying46 rfl rfl H.bW rfl) ?_;refine xp rfl (ai H.cM rfl (kt.cell (i:=0) rfl)) ?_;refine ct 1 rfl rfl (af (off:=1) underlying46 rfl rfl H.bW rfl) ?_;refine xp rfl (ai H.cM rfl (kt.cell (i:=1) rfl)) ?_;refine xp rfl (aP (H.rX _ _ _) rfl) ?_;refine xo rfl (aA.cL (cs:=[_,_,_]) underlying111 H.Df rfl rfl (by decide)) ?_;rintro _ _ ⟨rfl,rfl⟩;refine xo rfl (aA.bN underlying111 H.Df rfl rfl (hho2) rfl rfl (xQ (t.1,(dF s t),t.2.1)) (by omega) (by decide) (by omega)) ?_;rintro v2 g4 ⟨ho4,hx4,hx4',hv4⟩;have ho5:kK 3 qK g4 h2.size 188 v2 (out++[(t.1,(dF s t),t.2.1)]):=kK.of ho4 rfl rfl;have e24:aD h2 g4:=Ext.own egg hho2 (Nat.le_refl _) hx4;have hu1:jT s out false t= .go (out++[(t.1,(dF s t),t.2.1)]) false:=hu0.trans (by simp[c9]);refine aS 1 [0,5,6,9,11,12,17,18,19,20,29,35,46,67,80,90,96] rfl ?_;refine G.aQ ?_;refine G.cq func41 rfl ?_;refine xp rfl (aj.bC rfl rfl ⟨by omega,by omega⟩) ?_;refine aS 1 [0,5,6,9,11,12,17,18,19,20,29,35,46,67,80,90,96] rfl ?_;exact ih (i+1,(out++[(t.1,(dF s t),t.2.1)]),false,v2) _ _ ⟨rfl,rfl,rfl,rfl,rfl,rfl,rfl,trivial⟩ ⟨by show i+1<=ts.length;omega,e24,by have:=(e24).size;omega,ho5,by rw[hstep,hu1] at htg;exact htg,(by rw[List.length_append];simp only[List.length_singleton];omega),(fun _=>by simp),(fun u hu=>(List.mem_append.1 hu).elim (fun hu=>hbig _ (hut u hu)) (fun hu=>by simp only[List.mem_singleton] at hu;subst hu;show List.length ((dF s t))<=(i+1)*(s.length+2);have hz0:List.length ([]:By)=0:=rfl;omega))⟩ (by show ts.length-(i+1)<ts.length-i;omega)
       · have hne:=hop rfl
         obtain⟨pre,u,hpre⟩:∃pre u,out=pre++[u]:=by
          rcases List.eq_nil_or_concat out with q|⟨p,u,q⟩
          · exact absurd q hne
          · exact⟨p,u,by simpa using q⟩
         have hlen:out.length=pre.length+1:=by rw[hpre];simp
         have hgu:out[pre.length]? =some u:=by rw[hpre];simp
         have hul:=hut u (by rw[hpre];simp);obtain⟨gb,gc,hgv,hgb,hgl,hgr,hgf,hgs⟩:=kK.put (enc:=qK) (fun _=>rfl) how2 hgu;have hga:oa=some ⟨gb,0,none⟩:=by cases hgv;rfl
         have hu0:jT s out true t=(if t.1=9/\dF s t=[34] then .go out false else if t.1=10 then .go (iP [oF (dF s t)] out) true else .go (iP (dF s t) out) true):=by
          unfold jT;rw[if_neg h0];rfl
         have hadd:∀x,iP x out=pre++[(u.1,u.2.1++x,u.2.2)]:=fun x=>by rw[hpre];exact xE x pre u
         have hset:∀x,out.set pre.length (u.1,u.2.1++x,u.2.2)=iP x out:=fun x=>by rw[hadd,hpre];exact E9 _ _ _
         have hadl:∀x,x.length<=s.length+1->∀u∈iP x out,u.2.1.length<=(i+1)*(s.length+2):=fun x hx u' hu'=>by
          rw[hadd,List.mem_append] at hu'
          rcases hu' with hu'|hu'
          · exact hbig _ (hut u' (by rw[hpre];simp[hu']))
          · simp only[List.mem_singleton] at hu';subst hu';simp only[List.length_append];omega
         have hown:∀x g',g'=eB g2 ⟨gb,0+pre.length*3+1,none⟩ x->aD h2 g':=fun x g' hg'=>by rw[hg'];exact aD.set egg hgb x
         refine av rfl ?_;refine G.bE [(35,.bool (decide (t.1=9/\dF s t=[34])))] [(0,_),(5,_),(6,_),(9,_),(11,_),(12,_),(17,_),(18,_),(19,_),(20,_),(29,_)] ⟨rfl,rfl,rfl,rfl,rfl,rfl,rfl,rfl,rfl,rfl,rfl,trivial⟩ func41 rfl ?_ ?_
         · refine bf 2 rfl ?_;refine RW.dn (d:=37) (b':=true) rfl (rfl) ?_;refine xp rfl (af (off:=0) underlying46 rfl rfl H.bW rfl) ?_;refine xp rfl (ai H.cM rfl (kt.cell (i:=0) rfl)) ?_;refine bf 3 rfl ?_;refine aN (d:=42) rfl (fun g9=>?_) (fun g9=>?_)
           · have g9:=of_decide_eq_true g9;refine ct 1 rfl rfl (aj.dV rfl rfl) ?_;refine bf 2 rfl ?_;refine aE rfl ?_;exact⟨rfl,aF rfl (by rw[Bool.eq_iff_iff,decide_eq_true_iff,decide_eq_true_iff];exact⟨fun q=>⟨g9,eK q⟩,fun q=>congrArg bs q.2⟩),rfl,rfl,rfl,rfl,rfl,rfl,rfl,rfl,rfl,rfl,rfl,trivial⟩
           · have g9:=of_decide_eq_false g9;refine bf 4 rfl ?_;refine aE rfl ?_;exact⟨rfl,aF rfl (by rw[decide_eq_false (fun q=>g9 q.1)]),rfl,rfl,rfl,rfl,rfl,rfl,rfl,rfl,rfl,rfl,rfl,trivial⟩
         · refine aO rfl rfl (fun c9=>?_) (fun c9=>?_)
           · rw[if_pos c9] at hu0;refine aY func41 1 [0,5,6,9,11,12,17,18,19,20,29,35] rfl ?_;refine bw rfl rfl ?_;refine G.cq func41 rfl ?_;refine xp rfl (aj.bC rfl rfl ⟨by omega,by omega⟩) ?_;refine aS 1 [0,5,6,9,11,12,17,18,19,20,29,35] rfl ?_;exact ih (i+1,out,false,(.slice oa out.length oc)) _ _ ⟨rfl,rfl,rfl,rfl,rfl,rfl,rfl,trivial⟩ ⟨by show i+1<=ts.length;omega,egg,by have:=(egg).size;omega,how2,by rw[hstep,hu0] at htg;exact htg,hol,(fun k=>by cases k),(fun u hu=>hbig _ (hut u hu))⟩ (by show ts.length-(i+1)<ts.length-i;omega)
           · rw[if_neg c9] at hu0;refine av rfl ?_;refine G.bE [(46,.bool (decide (t.1=10)))] [(0,_),(5,_),(6,_),(9,_),(11,_),(12,_),(17,_),(18,_),(19,_),(20,_),(29,_),(35,_)] ⟨rfl,rfl,rfl,rfl,rfl,rfl,rfl,rfl,rfl,rfl,rfl,rfl,trivial⟩ func41 rfl ?_ ?_
             · refine bf 2 rfl ?_;refine RW.dn (d:=48) (b':=true) rfl (rfl) ?_;refine xp rfl (af (off:=0) underlying46 rfl rfl H.bW rfl) ?_;refine xp rfl (ai H.cM rfl (kt.cell (i:=0) rfl)) ?_;refine bf 3 rfl ?_;refine aE rfl ?_;exact⟨rfl,aF rfl (rfl),rfl,rfl,rfl,rfl,rfl,rfl,rfl,rfl,rfl,rfl,rfl,rfl,trivial⟩
             · refine aO rfl rfl (fun c10=>?_) (fun c10=>?_)
               · rw[if_pos c10] at hu0;refine av rfl ?_;refine bU (fun _=>False) (fun i=>Nat.blt i 14) (sz:=15) (listed:= #[false,false,false,false,false,false,false,false,false,false,false,false,false,false,false]) func41 H.mixed rfl rfl rfl ?_;refine cJ 0 1 (by kernel_rfl) rfl ?_;refine cJ 1 3 (by kernel_rfl) rfl ?_;refine bM 2 7 (by kernel_rfl) rfl (fun h' e=>aj.aK underlying111 rfl) ?_;refine bM 3 15 (by kernel_rfl) rfl (fun h' e=>aj.jy rfl rfl ⟨by omega,by omega⟩) ?_;refine bM 4 31 (by kernel_rfl) rfl (fun h' e=>aj.ax underlying111 H.jU rfl rfl pre.length (by omega) hga (by omega)) ?_;refine bM 5 63 (by kernel_rfl) rfl (fun h' e=>af (off:=1) underlying188 rfl rfl H.fq rfl) ?_;refine bM 6 127 (by kernel_rfl) rfl (fun h' e=>ai H.fM rfl (e.cell (fun k=>k) (hgr 1 _ rfl))) ?_;refine cJ 7 255 (by kernel_rfl) rfl ?_;refine eP 8 511 (by kernel_rfl) rfl (aq (vs:=[_]) func87 rfl H.LL rfl (ah.br (vN (hg.ay (e02.trans egg)) (dF s t)))) ?_;rintro _ g3 ⟨rfl,e3'⟩;refine⟨fun _=>e3',?_⟩;refine eP 9 1023 (by kernel_rfl) rfl (aA.aW (us:=[_]) underlying38 H.Lj rfl rfl (by decide) (by simp[Value.oneCell'])) ?_;rintro _ g4 ⟨rfl,hg4⟩;refine⟨fun _=>(by rw[hg4];exact Ext.push _ _ _),?_⟩;have e34:aD g3 g4:=by rw[hg4];exact Ext.push _ _ _
                 have e24:aD g2 g4:=e3'.trans e34;have hby:bS .byte g4 (fun _=>False) (.slice (some ⟨g3.size,0,none⟩) 1 1) [oF (dF s t)]:=by rw[hg4];exact Eu _
                 obtain⟨gb',gc',hgv',hgb',hgl',hgr',hgf',hgs'⟩:=kK.put (enc:=qK) (fun _=>rfl) (how2.ay e24) hgu;obtain rfl:gb=gb':=by rw[hga] at hgv';cases hgv';rfl
                 have hbu:=bu u.2.1;refine bM 10 2047 (by kernel_rfl) rfl (fun h' e=>aj.xA underlying38 underlying5 underlying9 rfl (hby.ay e)) ?_;refine bM 11 4095 (by kernel_rfl) rfl (fun h' e=>aj.bR rfl rfl (by show (bs u.2.1).size+1<=_;omega)) ?_;refine eP 12 8191 (by kernel_rfl) rfl (aj.br (aj.ax underlying111 H.jU rfl rfl pre.length (by omega) hga (by omega))) ?_;rintro _ hq_ ⟨rfl,hqe_⟩;replace hqe_:=hqe_.symm;subst hqe_;refine⟨fun _=>Ext.refl _ _,?_⟩;refine bM 13 16383 (by kernel_rfl) rfl (fun h' e=>af (off:=1) underlying188 rfl rfl H.fq rfl) ?_;refine lW 14 32767 (by kernel_rfl) rfl (cF H.fq rfl rfl rfl (hgr' 1 _ rfl) (hgf' _)) ?_;rintro _ g5 ⟨rfl,hg5⟩;refine⟨fun hk=>(nomatch hk),?_⟩
                 have hfin:kK 3 qK g5 h2.size 188 (.slice oa out.length oc) (iP [oF (dF s t)] out):=by
                  rw[hg5,<-hset];exact hgs' 1 _ _ (by decide) (by show [Value.int .i64 u.1,Value.string (bs u.2.1++⟨[oF (dF s t)].toArray⟩),Value.int .i64 u.2.2]=_;rw[show (⟨[oF (dF s t)].toArray⟩:ByteArray)=bs [oF (dF s t)] from rfl,cS];rfl)
                 have e25:aD h2 g5:=by rw[hg5];exact aD.set (egg.trans e24) hgb _
                 have hlena:(iP [oF (dF s t)] out).length=out.length:=vv _ _;refine bB (by kernel_rfl) ?_;refine xu [0,5,6,9,11,12,17,18,19,20,29,35,46] rfl ?_;refine bw rfl rfl ?_;refine G.cq func41 rfl ?_;refine xp rfl (aj.bC rfl rfl ⟨by omega,by omega⟩) ?_;refine aS 1 [0,5,6,9,11,12,17,18,19,20,29,35,46] rfl ?_;exact ih (i+1,iP [oF (dF s t)] out,true,.slice oa out.length oc) _ _ ⟨rfl,rfl,rfl,rfl,rfl,rfl,rfl,trivial⟩ ⟨by show i+1<=ts.length;omega,e25,by have:=e25.size;omega,hfin,by rw[hstep,hu0] at htg;exact htg,by show (iP _ out).length<=500;omega,fun _ q=>hne (List.eq_nil_of_length_eq_zero (hlena.symm.trans (congrArg List.length q))),hadl _ (by simp)⟩ (by show ts.length-(i+1)<ts.length-i;omega)
               · rw[if_neg c10] at hu0;refine aY func41 2 [0,5,6,9,11,12,17,18,19,20,29,35,46,67] rfl ?_;refine aG rfl rfl (fun _=>?_) (fun hc=>absurd hc (by simp));have hbu:=bu u.2.1;have hbt:=bu (dF s t);refine bp func41 2 rfl ?_;refine xp rfl (aj.aK underlying111 rfl) ?_;refine xp rfl (aj.jy rfl rfl ⟨by omega,by omega⟩) ?_;refine xp rfl (aj.ax underlying111 H.jU rfl rfl pre.length (by omega) hga (by omega)) ?_;refine xp rfl (af (off:=1) underlying188 rfl rfl H.fq rfl) ?_;refine xp rfl (ai H.fM rfl (hgr 1 _ rfl)) ?_;refine ct 1 rfl rfl (aj.bR rfl rfl (by omega)) ?_;refine xp rfl (aj.ax underlying111 H.jU rfl rfl pre.length (by omega) hga (by omega)) ?_;refine xp rfl (af (off:=1) underlying188 rfl rfl H.fq rfl) ?_;refine RW.b9 rfl rfl rfl (cF H.fq rfl rfl rfl (hgr 1 _ rfl) (hgf _)) ?_;rintro _ g5 ⟨rfl,hg5⟩
                 have hfin:kK 3 qK g5 h2.size 188 (.slice oa out.length oc) (iP (dF s t) out):=by
                  rw[hg5,<-hset];exact hgs 1 _ _ (by decide) (by show [Value.int .i64 u.1,Value.string (bs u.2.1++bs (dF s t)),Value.int .i64 u.2.2]=_;rw[cS];rfl)
                 have e25:aD h2 g5:=hown _ _ hg5;have hlena:(iP (dF s t) out).length=out.length:=vv _ _;refine xd [0,5,6,9,11,12,17,18,19,20,29,35,46,67] rfl ?_;refine bw rfl rfl ?_;refine G.cq func41 rfl ?_;refine xp rfl (aj.bC rfl rfl ⟨by omega,by omega⟩) ?_;refine aS 1 [0,5,6,9,11,12,17,18,19,20,29,35,46,67] rfl ?_;exact ih (i+1,iP (dF s t) out,true,.slice oa out.length oc) _ _ ⟨rfl,rfl,rfl,rfl,rfl,rfl,rfl,trivial⟩ ⟨by show i+1<=ts.length;omega,e25,by have:=e25.size;omega,hfin,by rw[hstep,hu0] at htg;exact htg,by show (iP _ out).length<=500;omega,fun _ q=>hne (List.eq_nil_of_length_eq_zero (hlena.symm.trans (congrArg List.length q))),hadl (dF s t) (by omega)⟩ (by show ts.length-(i+1)<ts.length-i;omega)
   · obtain rfl:i=ts.length:=by omega
     rw[List.drop_length] at htg;have htg:UR.go out op=tgt:=htg;rw[<-htg];dsimp only;refine bw rfl rfl ?_;refine av rfl ?_;refine av rfl ?_;refine G.bE [(114,.bool (decide (op=true\/st.1≠0)))] [(0,_),(5,_),(6,_),(9,_),(17,_),(18,_),(19,_),(20,_)] ⟨rfl,rfl,rfl,rfl,rfl,rfl,rfl,rfl,trivial⟩ func41 rfl ?_ ?_
     · rcases op with _|_
       · refine bf 2 rfl ?_;refine RW.dn (d:=110) (b':=false) rfl (rfl) ?_;refine xp rfl (af (off:=0) underlying41 rfl rfl H.bW rfl) ?_;refine xp rfl (ai H.cM rfl ((k1.ay eg).cell (i:=0) rfl)) ?_;refine bf 2 rfl ?_;refine aE rfl ?_;exact⟨rfl,aF rfl (by simp),rfl,rfl,rfl,rfl,rfl,rfl,rfl,rfl,trivial⟩
       · refine bf 2 rfl ?_;refine RW.dn (d:=110) (b':=true) rfl (rfl) ?_;refine bf 4 rfl ?_;refine aE rfl ?_;exact⟨rfl,aF rfl (by simp),rfl,rfl,rfl,rfl,rfl,rfl,rfl,rfl,trivial⟩
     · refine aO rfl rfl (fun co=>?_) (fun co=>?_)
       · rw[if_pos co];refine bp func41 1 rfl ?_;refine xp rfl (aj.bI underlying9 rfl) ?_;refine aS 3 [0,5,6,7,8,9,17,18,19,20,114] rfl ?_;refine G.ret func41 rfl rfl ?_;have hbz:=bu s;exact⟨_,rfl,e02.trans eg,by rw[<-hbz];rfl⟩
       · rw[if_neg co];refine aB rfl ?_;refine aY func41 4 [0,5,6,7,8,9,17,18,19,20,114] rfl ?_;refine G.ret func41 rfl rfl ?_;exact⟨_,rfl,e02.trans eg,hol,_,rfl,kK.read how (fun _ _ k=>k)⟩
theorem ER {out:List Un}{op:Bool}(h:jT s out op t= .er a e):e≠0:=by
 unfold jT at h;split at h
 · cases h;decide
 · split at h
   · split at h
     · cases h
     · split at h<;>cases h
   · split at h
     · cases h
     · split at h
       · cases h;decide
       · cases h
theorem zH {s:By}{a e:Int}:∀(l:List Tok) (out:List Un) (op:Bool),iq s l out op= .er a e->e≠0
 | [],_,_,h=>by cases h
 |t::l,out,op,h=>by
  rw[iq] at h;split at h
  · rename_i q;cases h;exact ER q
  · exact zH l _ _ h
theorem Dy {l:List Tok}{m:Int}(h:fH s l m= .inl (a,e)):e≠0:=by
 unfold fH at h;split at h
 · split at h
   · rename_i q;cases h;exact zH _ _ _ q
   · split at h
     · cases h;decide
     · cases h
 · cases h;decide
theorem Fp {us:List Un}{b:Bool}{m:Int}{s:PS}(h:MD us i b m s):(b=false->s.len=us.length-i)/\(b=true->s= .bad m)/\s.cZ=b:=by
 cases s with
 |ok r=>obtain⟨rfl,rfl⟩:=h;exact⟨fun _=>by simp[PS.len],fun k=>(by cases k),rfl⟩
 |bad k=>obtain⟨rfl,rfl⟩:=h;exact⟨fun k=>(by cases k),fun _=>rfl,rfl⟩
theorem ze {s:PS}(h:s.cZ=true):s.len=0/\∀e,dx e s=s:=by cases s with|ok r=>cases h|bad m=>exact⟨rfl,fun _=>rfl⟩
theorem rA {n:Nat}{l:List Tr}{s:PS} {y} (h:dy e n l s=some y) (h0:s.len=0):y=(l,s):=by
 cases n with
 |zero=>cases h
 |succ n=>rw[dy,if_pos h0] at h;exact(Option.some.inj h).symm
def MC (c:PC) (hb g:az) (kv:Value) (l:List Tr) (s:PS):Prop :=
 qj c g s/\Ext (fun b=>b=c.pb) hb g/\dU eN (fun b=>b<hb.size) g hb.size 25 kv l
theorem dU.lower {α:Type}{e:gQ α}{O:Nat->Prop}{h:az}{base base':Nat}{t:TypeId}{v:Value}{xs:List α}(k:dU e O h base t v xs) (hb:base'<=base):dU e O h base' t v xs:=by
 obtain⟨css,h1,h2,h3⟩:=k;exact⟨css,h1,h2.lower hb,h3⟩
theorem Bp (hg:nY h) (hv:bS IM h (fun _=>False) v ts) (s:By) (st:gC) (hb:ts.length*(s.length+2)<=1000000000000) (hsl:s.length<=1000000000000)
 {k:List Tr}(hP:cj s ts st.1 k a e) :
 ah Tryz.prog 23 #[.string (bs s),v,.agg (cz st).toArray] h (cT fun r h'=>aD h h'/\∃lv,r=packed [lv,.int .i64 a,.int .i64 e]/\dU eN (fun b=>b<h.size) h' h.size 25 lv k):=by
 have hbz:=bu s;refine ah.of func23 rfl rfl ?_;refine xr func23 rfl ?_;refine xo rfl (aA.gu rfl) ?_;rintro _ h1 ⟨rfl,k1,e1,z1⟩;have k1:bh h1 h.size 41 (cz st):=k1;have hun:=xK (hg.ay e1) (hv.ay e1) s st hb hsl
 rcases hU:fH s ts st.1 with ⟨a1,c1⟩|us
 · rw[hU] at hun;have hce:=Dy hU
   obtain⟨rfl,rfl,rfl⟩:k=[]/\a=a1/\e=c1:=by
    cases hP with
    |units h=>rw[hU] at h;cases h;exact⟨rfl,rfl,rfl⟩
    |bad h _=>rw[hU] at h;cases h
    |ok h _=>rw[hU] at h;cases h
   refine aS 3 [0,1,2,5,6,7,8] rfl ?_;refine bp func23 2 rfl ?_;refine xp rfl (aj.aH H.iE H.ey rfl k1.row (by first|rfl|(simp;done)|(simp;omega))) ?_;refine xo rfl (aq (vs:=[_,_,_]) func41 rfl H.Ke rfl (ah.br (hun))) ?_;rintro _ h2 ⟨e2,rfl⟩;refine aS 7 [0,1,2,5,6,7,8,9] rfl ?_;refine av rfl ?_;refine aY func23 2 [0,1,2,5,6,7,8,9,22] rfl ?_;refine aG rfl rfl (fun _=>?_) (fun hc=>absurd hc (by simpa using hce));refine aY func23 5 [0,1,2,5,6,7,8,9,22] rfl ?_;refine G.ret func23 rfl rfl ?_;exact⟨_,rfl,e1.trans e2,_,rfl,dU.nil _ _ _ _ _⟩
 · rw[hU] at hun
   obtain⟨n,K,F,hm,hend⟩:∃n K F,dy s.length n [] (.ok us)=some (K,F)/\(∀m,F= .bad m->k=[]/\a=m/\e=10)/\(F.cZ=false->k=K/\a=0/\e=0):=by
    cases hP with
    |units h=>rw[hU] at h;cases h
    |bad h h2=>rw[hU] at h;cases h;exact⟨_,_,_,h2,fun m q=>by cases q;exact⟨rfl,rfl,rfl⟩,fun q=>by cases q⟩
    |ok h h2=>rw[hU] at h;cases h;exact⟨_,_,_,h2,fun m q=>(by cases q),fun _=>⟨rfl,rfl,rfl⟩⟩
   refine aS 3 [0,1,2,5,6,7,8] rfl ?_;refine bp func23 2 rfl ?_;refine xp rfl (aj.aH H.iE H.ey rfl k1.row (by first|rfl|(simp;done)|(simp;omega))) ?_;refine xo rfl (aq (vs:=[_,_,_]) func41 rfl H.Ke rfl (ah.br (hun))) ?_;rintro _ h2 ⟨e2,hu500,uv,rfl,huv⟩;refine aS 7 [0,1,2,5,6,7,8,9] rfl ?_;refine av rfl ?_;refine aY func23 2 [0,1,2,5,6,7,8,9,22] rfl ?_;refine aG rfl rfl (fun hc=>absurd hc (by simp)) (fun _=>?_);obtain⟨ua,un,uc,rfl,huvs⟩:=huv.open;refine aB rfl ?_;refine bp func23 2 rfl ?_;refine xp rfl (aj.bI underlying9 rfl) ?_;refine xp rfl (aP (H.Ew _ _ _ _) rfl) ?_;refine xo rfl (aA.gu rfl) ?_;rintro _ h3 ⟨rfl,kp,e3,z3⟩;have kp:bh h3 h2.size 116 [.slice ua un uc,.int .i64 (0:Nat),.int .i64 (s.length:Nat),.bool false,.int .i64 0]:=by rw[hbz] at kp;exact kp
   have e13:aD h h3:=(e1.trans e2).trans e3;obtain⟨c,hc⟩:∃c:PC,c=⟨h2.size,.slice ua un uc,h3.size,us,s.length⟩:=⟨_,rfl⟩
   have hz13:=e13.size;have hz2:=e2.size;have hz1:=e1.size;have hpb:c.pb=h2.size:=by rw[hc]
   have hce:c.e=s.length:=by rw[hc]
   have hcu:c.us=us:=by rw[hc]
   have hst3:qj c h3 (.ok us):=by
    rw[hc];exact⟨0,false,0,kp,huv.mv (Mv.dQ e3 fun b hb _=>⟨fun k=>k,fun q=>by have:=e3.size;dsimp only at q;omega⟩),Nat.zero_le _,⟨rfl,rfl⟩,by show h2.size<h3.size;omega,Nat.le_refl _,by show us.length<=1000;omega⟩
   rw[<-hce] at hm;have hI3:MC c h3 h3 (.slice none 0 0) [] (.ok us):=⟨hst3,Ext.refl _ _,dU.nil _ _ _ _ _⟩
   rw[<-hpb];refine aS 1 [0,1,2,5,6,7,8,9,10,22] rfl ?_;refine av rfl ?_;refine G.block rfl rfl ?_;refine bD (σ:=Nat×List Tr×Value×PS) (fun w=>[(6,w.2.2.1),(10,ptr c.pb)]) (fun w g=>MC c h3 g w.2.2.1 w.2.1 w.2.2.2/\(w.2.2.2.cZ=true->w.2.2.2=F)/\(w.2.2.2.cZ=false->dy c.e w.1 w.2.1 w.2.2.2=some (K,F)/\w.2.1.length+w.2.2.2.len<=us.length)) (fun w=>w.1) ((n,[],.slice none 0 0,.ok us)) rfl ⟨rfl,rfl,trivial⟩ ⟨hI3,fun q=>(by cases q),fun _=>⟨hm,by simp[PS.len]⟩⟩ ?_;rintro⟨m,l,kv,sI⟩ g ⟨⟨hst,xg,how⟩,hbad,hok⟩ ih
   try dsimp only
   dsimp only at hst how hbad hok;obtain⟨pi,pbb,pm,pk,psl,pil,ps,_⟩:=id hst;obtain⟨pl1,pl2,pl3⟩:=Fp ps;rw[hcu] at pl1;have hpil:pi<=us.length:=by rw[<-hcu];exact pil
   have hlv:c.lv= .slice ua us.length uc:=by rw[hc];have:=huvs.len;subst this;rfl
   rw[hlv] at pk;have hsize:c.pb<h3.size:=by rw[hpb];omega
   have how0:aR g h3.size 25 3 kv l.length _:=(how.own).choose_spec;obtain⟨ka,kc,rfl,_⟩:=how0.open;have kown:∀b,(Value.slice ka l.length kc).ownBlock=some b->h3.size<=b/\b<g.size:=fun b q=>how0.lt q
   refine av rfl ?_;refine av rfl ?_;refine G.yO [(46,.bool (decide (sI.len≠0)))] [(6,_),(10,_)] ⟨rfl,rfl,trivial⟩ (fun b=>Array.size g<=b) (fun i=>Nat.blt i 17) (sz:=17) (listed:= #[false,false,false,false,false,false,false,false,false,false,false,false,false,false,false,false,false]) func23 H.mixed rfl rfl rfl ?_ ?_
   · refine cJ 0 1 (by kernel_rfl) rfl ?_;refine cJ 1 3 (by kernel_rfl) rfl ?_;refine bM 2 7 (by kernel_rfl) rfl (fun h' e=>af (off:=1) underlying116 rfl rfl H.bW rfl) ?_;refine bM 3 15 (by kernel_rfl) rfl (fun h' e=>ai H.cM rfl (e.old (pk.cell (i:=1) rfl))) ?_;refine cJ 4 31 (by kernel_rfl) rfl ?_;refine cJ 5 63 (by kernel_rfl) rfl ?_;refine bM 6 127 (by kernel_rfl) rfl (fun h' e=>af (off:=0) underlying116 rfl rfl H.iG rfl) ?_;refine bM 7 255 (by kernel_rfl) rfl (fun h' e=>ai H.iK rfl (e.old (pk.cell (i:=0) rfl))) ?_;refine bM 8 511 (by kernel_rfl) rfl (fun h' e=>aj.aK underlying111 rfl) ?_;refine cJ 9 1023 (by kernel_rfl) rfl ?_;refine cJ 10 2047 (by kernel_rfl) rfl ?_;refine Bh (d:=40) rfl (fun g1=>?_) (fun g1=>?_)
     · have g1:=of_decide_eq_true g1;refine cJ 11 4095 (by kernel_rfl) rfl ?_;refine cJ 12 8191 (by kernel_rfl) rfl ?_;refine bM 13 16383 (by kernel_rfl) rfl (fun h' e=>af (off:=3) underlying116 rfl rfl H.lT rfl) ?_;refine bM 14 32767 (by kernel_rfl) rfl (fun h' e=>ai H.vk rfl (e.old (pk.cell (i:=3) rfl))) ?_;refine cJ 15 65535 (by kernel_rfl) rfl ?_;refine cJ 16 131071 (by kernel_rfl) rfl ?_;refine bB (by kernel_rfl) ?_;exact⟨rfl,aF rfl (by cases pbb with|true=>rw[pl2 rfl];rfl|false=>rw[pl1 rfl,decide_eq_true (by omega)];rfl),rfl,rfl,trivial⟩
     · have g1:=of_decide_eq_false g1;refine Bn 11 4095 (by kernel_rfl) rfl ?_;refine Bn 12 8191 (by kernel_rfl) rfl ?_;refine Bn 13 16383 (by kernel_rfl) rfl ?_;refine Bn 14 32767 (by kernel_rfl) rfl ?_;refine Bn 15 65535 (by kernel_rfl) rfl ?_;refine cJ 16 131071 (by kernel_rfl) rfl ?_;refine bB (by kernel_rfl) ?_;exact⟨rfl,aF rfl (by cases pbb with|true=>rw[pl2 rfl];rfl|false=>rw[pl1 rfl,decide_eq_false (by omega)]),rfl,rfl,trivial⟩
   · refine aO rfl rfl (fun hgo=>?_) (fun hgo=>?_)
     · obtain⟨r,hr⟩:∃r,sI= .ok r:=by cases sI with|ok r=>exact⟨r,rfl⟩|bad q=>exact absurd rfl hgo
       obtain⟨hm,hll⟩:=hok (by rw[hr];rfl);obtain⟨m,rfl⟩:∃m',m=m'+1:=by cases m with|zero=>cases hm|succ m=>exact⟨m,rfl⟩
       rw[dy,if_neg hgo] at hm
       rcases hv1:pM c.e m .stmt sI with _|⟨tv,s2⟩
       rw[hv1] at hm;cases hm;rw[hv1] at hm;simp only[Option.bind_some] at hm;have hvl:=yl hv1;refine aB rfl ?_;refine G.block rfl rfl ?_;refine bp func23 2 rfl ?_;refine xo rfl (aq (vs:=[_]) func42 rfl H.Kc rfl (ah.br ((Ho m).stmt _ _ _ _ _ hst hv1))) ?_;rintro r6 h6 ⟨y6,hp6,t6,hn6,ht6⟩;have z6:=y6.size;obtain⟨mk,mt,ma,mn,mc,rfl,hr6⟩:=hn6.get;have ho6:=how.pF y6 (fun b q q2=>by have:=kown b q;omega) (fun b hb q=>by omega) (fun _ _ q=>q);obtain⟨css,hc1,hc2,hc3⟩:=id ho6;refine xo rfl (aA.cL (cs:=[_,_,_]) underlying23 H.lz rfl rfl (by decide)) ?_;rintro _ _ ⟨rfl,rfl⟩;refine xo rfl (aA.bN underlying23 H.lz rfl rfl (hc2) rfl rfl (by first|decide|simp[Value.oneCell']) (by omega) (by decide) (by omega)) ?_;rintro v7 h7 ⟨ho7,hx7,hx7',hv7⟩;have z7:=hx7.size
       have hr6':eN.R h6 (fun b=>dz (Value.slice ka l.length kc).ownBlock b\/b<h3.size) [.int .i64 mk,.string (bs mt),.slice ma mn mc] t6:=cx hr6 (Ext.refl (fun _=>False) _) (fun b hb q=>⟨fun k=>k,fun q2=>by
        rcases q2 with q2|q2
        · have:=kown _ q2.symm;omega
        · have:=xg.size;omega⟩)
       have ho7x:dU eN (fun b=>b<h3.size) h7 h3.size 25 v7 (l++[t6]):=dU.iA hc1 hc3 ho7 hx7 hv7 hr6';have hst7:qj c h7 s2:=hp6.ext hx7 (fun b hb q=>by have:=kown _ q.symm;rw[hc] at hb;dsimp only at hb;omega);have x7:Ext (fun b=>b=c.pb) h3 h7:=(xg.trans y6).fo hx7 (fun i hi q=>by have:=kown _ q.symm;omega);refine aS 1 [6,10,46] rfl ?_;refine bp func23 1 rfl ?_;refine xo rfl (aA.aW (us:=[_]) underlying87 H.qL rfl rfl (by decide) (by simp[Value.oneCell'])) ?_;rintro _ w9 ⟨rfl,hw9⟩;have y9:aD h7 w9:=by rw[hw9];exact Ext.push _ _ _
       have ts9:bS mK w9 (fun _=>False) (.slice (some ⟨Array.size h7,0,none⟩) 1 1) [[59]]:=by rw[hw9];exact bY _ [[59]] _ rfl (by simp[maxLen]) rfl
       refine xo rfl (aq (vs:=[_,_,_]) func43 rfl H.je rfl (ah.br (bX ((hst7).ay y9) 6 ts9))) ?_;rintro _ h9 ⟨rfl,hp9,x9⟩;have x9:=y9.of.trans x9
       rcases hq9:cU 6 [[59]] s2 with ⟨o9,s9⟩
       rw[hq9] at hp9 hm;have hp9:qj c h9 s9:=hp9;have how9:=ho7x.pF x9 (fun b q q2=>by have:=ho7.lt q;omega) (fun b hb q=>by omega) (fun _ _ q=>q);have x39:=x7.trans x9;have hgood:∀sN:PS,(sN.cZ=false->s9.cZ=false)->sN.cZ=false->t6=tv:=fun sN q1 q2=>ht6 (cw hq9 (q1 q2))
       have hfinB:∀sN:PS,dy c.e m (l++[tv]) sN=some (K,F)->sN.cZ=true->sN=F:=fun sN q1 q2=>by have:=rA q1 (ze q2).1;cases this;rfl
       rcases o9 with _|w9
       · simp only at hm;have e9:=cv hq9;obtain⟨qi,qbb,qm,qk,qsl,qil,qs,_⟩:=(show qj c h9 s9 from hp9)
         obtain⟨ql1,ql2,ql3⟩:=Fp qs;rw[hcu] at ql1;rw[hlv] at qk;refine aS 5 [6,10,12,46] rfl ?_;refine av rfl ?_;refine G.yO [(71,.bool (decide (qi<us.length)))] [(6,_),(10,_),(12,_),(46,_)] ⟨rfl,rfl,rfl,rfl,trivial⟩ (fun b=>Array.size h9<=b) (fun i=>Nat.blt i 14) (sz:=14) (listed:= #[false,false,false,false,false,false,false,false,false,false,false,false,false,false]) func23 H.mixed rfl rfl rfl ?_ ?_
         · refine cJ 0 1 (by kernel_rfl) rfl ?_;refine cJ 1 3 (by kernel_rfl) rfl ?_;refine cJ 2 7 (by kernel_rfl) rfl ?_;refine RD.dn (d:=60) (b':=true) rfl (rfl) ?_;refine cJ 3 15 (by kernel_rfl) rfl ?_;refine cJ 4 31 (by kernel_rfl) rfl ?_;refine bM 5 63 (by kernel_rfl) rfl (fun h' e=>af (off:=1) underlying116 rfl rfl H.bW rfl) ?_;refine bM 6 127 (by kernel_rfl) rfl (fun h' e=>ai H.cM rfl (e.old (qk.cell (i:=1) rfl))) ?_;refine cJ 7 255 (by kernel_rfl) rfl ?_;refine cJ 8 511 (by kernel_rfl) rfl ?_;refine bM 9 1023 (by kernel_rfl) rfl (fun h' e=>af (off:=0) underlying116 rfl rfl H.iG rfl) ?_;refine bM 10 2047 (by kernel_rfl) rfl (fun h' e=>ai H.iK rfl (e.old (qk.cell (i:=0) rfl))) ?_;refine bM 11 4095 (by kernel_rfl) rfl (fun h' e=>aj.aK underlying111 rfl) ?_;refine cJ 12 8191 (by kernel_rfl) rfl ?_;refine cJ 13 16383 (by kernel_rfl) rfl ?_;refine bB (by kernel_rfl) ?_;exact⟨rfl,aF rfl (by rw[decide_eq_decide];omega),rfl,rfl,rfl,rfl,trivial⟩
         · refine aO rfl rfl (fun hgo2=>?_) (fun hgo2=>?_)
           · have hsN:(if s9.len=0 then s9 else dx c.e s9)=dx c.e s9:=by
              split
              · rename_i q;cases qbb with
                |true=>exact((ze ql3).2 _).symm
                |false=>have:=ql1 rfl;omega
              · rfl
             rw[hsN] at hm;have hfb:(dx c.e s9).cZ=true:=by obtain⟨q,hq⟩:=xy c.e s9;rw[hq];rfl
             refine G.cq func23 rfl ?_;refine bf 1 rfl ?_;refine xo rfl (aq (vs:=[_]) func44 rfl H.vT rfl (ah.br (eH hp9))) ?_;rintro _ h10 ⟨rfl,hp10,x10⟩;have how10:=how9.pF x10 (fun b q q2=>by have:=ho7.lt q;omega) (fun b hb q=>by omega) (fun _ _ q=>q);refine xd [6,10,12,46,71] rfl ?_;refine G.aQ ?_;exact ih (m,l++[t6],v7,dx c.e s9) _ _ ⟨rfl,rfl,trivial⟩ ⟨⟨hp10,x39.trans x10,how10⟩,fun q=>hfinB _ hm q,fun q=>(by have q:(dx c.e s9).cZ=false:=q;rw[hfb] at q;cases q)⟩ (Nat.lt_succ_self _)
           · have hs0:s9.len=0:=by
              cases qbb with
              |true=>exact(ze ql3).1
              |false=>have:=ql1 rfl;omega
             rw[if_pos hs0] at hm;refine aB rfl ?_;refine G.aQ ?_;exact ih (m,l++[t6],v7,s9) _ _ ⟨rfl,rfl,trivial⟩ ⟨⟨hp9,x39,how9⟩,fun q=>hfinB _ hm q,fun q=>⟨by dsimp only;rw[hgood s9 id q];exact hm,by dsimp only;rw[List.length_append,List.length_singleton,hs0];omega⟩⟩ (Nat.lt_succ_self _)
       · simp only at hm;have hl9:=dJ hq9;refine aS 5 [6,10,12,46] rfl ?_;refine av rfl ?_;refine G.yO [(71,.bool false)] [(6,_),(10,_),(12,_),(46,_)] ⟨rfl,rfl,rfl,rfl,trivial⟩ (fun b=>Array.size h9<=b) (fun i=>Nat.blt i 14) (sz:=14) (listed:= #[false,false,false,false,false,false,false,false,false,false,false,false,false,false]) func23 H.mixed rfl rfl rfl ?_ ?_
         · refine cJ 0 1 (by kernel_rfl) rfl ?_;refine cJ 1 3 (by kernel_rfl) rfl ?_;refine cJ 2 7 (by kernel_rfl) rfl ?_;refine RD.dn (d:=60) (b':=false) rfl (rfl) ?_;refine Bn 3 15 (by kernel_rfl) rfl ?_;refine Bn 4 31 (by kernel_rfl) rfl ?_;refine Bn 5 63 (by kernel_rfl) rfl ?_;refine Bn 6 127 (by kernel_rfl) rfl ?_;refine Bn 7 255 (by kernel_rfl) rfl ?_;refine Bn 8 511 (by kernel_rfl) rfl ?_;refine Bn 9 1023 (by kernel_rfl) rfl ?_;refine Bn 10 2047 (by kernel_rfl) rfl ?_;refine Bn 11 4095 (by kernel_rfl) rfl ?_;refine Bn 12 8191 (by kernel_rfl) rfl ?_;refine cJ 13 16383 (by kernel_rfl) rfl ?_;refine bB (by kernel_rfl) ?_;exact⟨rfl,aF rfl (rfl),rfl,rfl,rfl,rfl,trivial⟩
         · refine aG rfl rfl (fun hc=>absurd hc (by simp)) (fun _=>?_);refine aB rfl ?_;refine G.aQ ?_;exact ih (m,l++[t6],v7,s9) _ _ ⟨rfl,rfl,trivial⟩ ⟨⟨hp9,x39,how9⟩,fun q=>hfinB _ hm q,fun q=>⟨by dsimp only;rw[hgood s9 id q];exact hm,by dsimp only;rw[List.length_append,List.length_singleton];omega⟩⟩ (Nat.lt_succ_self _)
     · have h0:sI.len=0:=by simpa using hgo
       refine bw rfl rfl ?_;refine av rfl ?_;refine bp func23 2 rfl ?_;refine xp rfl (af (off:=3) underlying116 rfl rfl H.lT rfl) ?_;refine xp rfl (ai H.vk rfl (pk.cell (i:=3) rfl)) ?_;refine xd [6,10,46,77] rfl ?_
       rcases pbb with _|_
       · refine aG rfl rfl (fun hc=>absurd hc (by simp)) (fun _=>?_);obtain⟨r,hr⟩:∃r,sI= .ok r:=by cases sI with|ok r=>exact⟨r,rfl⟩|bad q=>cases pl3
         obtain⟨hm,hll⟩:=hok (by rw[hr];rfl);have hz:=rA hm h0;obtain⟨rfl,rfl,rfl⟩:=hend.2 (by cases hz;rw[hr];rfl);have hKl:k=l:=by cases hz;rfl
         refine aB rfl ?_;refine aY func23 4 [6,7,8,10,46,77] rfl ?_;refine G.ret func23 rfl rfl ?_;exact⟨_,rfl,aD.only e13 xg (by omega),_,rfl,by rw[hKl];exact(dU.lower how (by omega)).pF (Ext.refl (fun _=>False) _) (fun _ _ q=>q) (fun _ _ q=>q.elim) (fun b hb q=>by omega)⟩
       · have hF:F= .bad pm:=by rw[<-hbad pl3];exact pl2 rfl
         obtain⟨rfl,rfl,rfl⟩:=hend.1 pm hF;refine aG rfl rfl (fun _=>?_) (fun hc=>absurd hc (by simp));refine av rfl ?_;refine G.ew func23 H.mixed rfl (by kernel_rfl) ?_;refine RQ.au rfl rfl rfl rfl (aI rfl) ?_;refine RQ.au rfl rfl rfl rfl (aM rfl) ?_;refine RQ.au rfl rfl rfl rfl (af (off:=4) underlying116 rfl rfl H.bW rfl) ?_;refine RQ.au rfl rfl rfl rfl (ai H.cM rfl (pk.cell (i:=4) rfl)) ?_;refine RQ.au rfl rfl rfl rfl (aj.assign rfl) ?_;refine RQ.au rfl rfl rfl rfl (aj.assign rfl) ?_;refine RQ.au rfl rfl rfl rfl (aj.assign rfl) ?_;refine cB rfl ?_;refine xu [6,7,8,10,46,77] rfl ?_;refine G.ret func23 rfl rfl ?_;exact⟨_,rfl,aD.only e13 xg (by omega),_,rfl,dU.nil _ _ _ _ _⟩
theorem Dv:(Tryz.prog.info? 5).map (·.size)=some 1:=by kernel_rfl
theorem Cf {p:Value}(hk:bh h b 205 [p,.slice none 0 0]) (n:Nat) (hn:n<=1000000000) :
 ah Tryz.prog 143 #[.pointer (some ⟨b,0,none⟩),.int .i64 (n:Nat)] h (cT fun _ h'=>(∃v,bh h' b 205 [p,v]/\CD h' (b+1) 5 v [])/\Ext (fun x=>x=b) h h'/\h.size<=h'.size):=by
 have hkl:=hk.lt;have hc1:=hk.cell (i:=1) rfl;refine ah.of func143 rfl rfl ?_;refine av rfl ?_;refine bU (fun x=>Array.size h<=x) (fun i=>Nat.blt i 16) (sz:=16) (listed:= #[false,false,false,false,false,false,false,false,false,false,false,false,false,false,false,false]) func143 H.mixed rfl rfl rfl ?_;refine cJ 0 1 (by kernel_rfl) rfl ?_;refine cJ 1 3 (by kernel_rfl) rfl ?_;refine bM 2 7 (by kernel_rfl) rfl (fun h' e=>af (off:=1) underlying205 rfl rfl H.n8 rfl) ?_;refine bM 3 15 (by kernel_rfl) rfl (fun h' e=>ai H.zg rfl (e.cell (show ¬Array.size h<=b by omega) hc1)) ?_;refine bM 4 31 (by kernel_rfl) rfl (fun h' e=>aj.A7 underlying38 rfl) ?_;refine bM 5 63 (by kernel_rfl) rfl (fun h' e=>aj.IG rfl rfl ⟨by omega,by omega⟩) ?_;refine cJ 6 127 (by kernel_rfl) rfl ?_;refine bM 7 255 (by kernel_rfl) rfl (fun h' e=>aj.bC rfl rfl ⟨by omega,by omega⟩) ?_;refine cJ 9 767 (by kernel_rfl) rfl ?_;refine cJ 10 1791 (by kernel_rfl) rfl ?_;refine bM 11 3839 (by kernel_rfl) rfl (fun h' e=>af (off:=1) underlying205 rfl rfl H.n8 rfl) ?_;refine bM 12 7935 (by kernel_rfl) rfl (fun h' e=>ai H.zg rfl (e.cell (show ¬Array.size h<=b by omega) hc1)) ?_;refine bM 13 16127 (by kernel_rfl) rfl (fun h' e=>aj.aK underlying38 rfl) ?_;refine eP 8 16383 (by kernel_rfl) rfl (aA.makeNoZero (ps:=_) (t:=38) func171 (by decide +kernel) (by kernel_rfl) (by kernel_rfl) rfl underlying38 rfl n (by omega) hn) ?_;rintro _ h1 ⟨cs,rfl,hh1,hn1,hn2⟩;refine⟨fun _=>by rw[hh1];exact Ext.push _ _ _,?_⟩;refine bM 14 32767 (by kernel_rfl) rfl (fun h' e=>aj.oW underlying38 H.JI rfl rfl 0 rfl (Nat.zero_le _)) ?_;refine cJ 15 65535 (by kernel_rfl) rfl ?_;refine bB (by kernel_rfl) ?_;refine xu [0,1,4] rfl ?_;refine bp func143 3 rfl ?_;refine xp rfl (af (off:=1) underlying205 rfl rfl H.n8 rfl) ?_;have e1:aD h h1:=by rw[hh1];exact Ext.push _ _ _
 have k1:=hk.ay e1
 have ho:CD h1 (b+1) 5 (.slice (dm (some ⟨h.size,0,none⟩) 0 1 cs.size) 0 cs.size) []:=by
  have hp:dm (some ⟨h.size,0,none⟩) 0 1 cs.size=some ⟨h.size,0,none⟩:=by
   unfold dm;split
   · rfl
   · rfl
  rw[hp];exact⟨rfl,.inr ⟨h.size,cs.size,cs,rfl,hkl,by rw[hh1];simp,Nat.zero_le _,hn2,by simp,by simp⟩⟩
 refine xp rfl (ai H.zg rfl (k1.cell (i:=1) rfl)) ?_;refine xp rfl (aj.Gw underlying38 Dv rfl rfl rfl) ?_;refine xd [0,1,4] rfl ?_;refine G.cq func143 rfl ?_;refine ct 3 rfl rfl (af (off:=1) underlying205 rfl rfl H.n8 rfl) ?_;refine RW.b9 rfl rfl rfl (aA.bz H.n8 rfl rfl k1 (by first|decide|exact of_decide_eq_true rfl|(simp;done)|(simp;omega)) rfl) ?_;rintro _ h2 ⟨rfl,k2,x2,z2⟩;refine xd [0,1,4] rfl ?_;refine G.uQ func143 rfl ?_;have z1:=e1.size;refine⟨_,rfl,⟨_,k2,aR.ext x2 ho (fun g hg=>?_)⟩,?_,by omega⟩
 · have:=(aR.lt ho hg).1;omega
 · exact(e1.mono (fun _ _ k=>k.elim)).trans x2
theorem CH (hk:bh h b 205 [.pointer none,.slice none 0 0]) (n:Nat) (hn:n<=1000000000) :
 ah Tryz.prog 106 #[.pointer (some ⟨b,0,none⟩),.int .i64 (n:Nat)] h (cT fun _ h'=>jR h' b 205 5 []/\Ext (fun x=>x=b) h h'):=by
 refine ah.of func106 rfl rfl ?_;refine bp func106 1 rfl ?_;refine xo rfl (aq (vs:=[_]) func141 rfl H.FL rfl (ah.br (iD hk (.inl rfl)))) ?_;rintro _ h1 ⟨k1,x1,z1⟩;refine xd [0,1] rfl ?_;refine av rfl ?_;refine aY func106 2 [0,1,7] rfl ?_;refine aG rfl rfl (fun hc=>absurd hc (by simp)) (fun _=>?_);refine aB rfl ?_;refine av rfl ?_;refine bU (fun _=>False) (fun i=>Nat.blt i 13) (sz:=13) (listed:= #[false,false,false,false,false,false,false,false,false,false,false,false,false]) func106 H.mixed rfl rfl rfl ?_;refine cJ 0 1 (by kernel_rfl) rfl ?_;refine cJ 1 3 (by kernel_rfl) rfl ?_;refine bM 2 7 (by kernel_rfl) rfl (fun h' e=>af (off:=1) underlying205 rfl rfl H.n8 rfl) ?_;refine bM 3 15 (by kernel_rfl) rfl (fun h' e=>ai H.zg rfl (e.cell (fun q=>q) (k1.cell (i:=1) rfl))) ?_;refine bM 4 31 (by kernel_rfl) rfl (fun h' e=>aj.A7 underlying38 rfl) ?_;refine cJ 5 63 (by kernel_rfl) rfl ?_;refine cJ 6 127 (by kernel_rfl) rfl ?_;refine bM 7 255 (by kernel_rfl) rfl (fun h' e=>af (off:=1) underlying205 rfl rfl H.n8 rfl) ?_;refine bM 8 511 (by kernel_rfl) rfl (fun h' e=>ai H.zg rfl (e.cell (fun q=>q) (k1.cell (i:=1) rfl))) ?_;refine bM 9 1023 (by kernel_rfl) rfl (fun h' e=>aj.aK underlying38 rfl) ?_;refine bM 10 2047 (by kernel_rfl) rfl (fun h' e=>aj.jy rfl rfl ⟨by omega,by omega⟩) ?_;refine cJ 11 4095 (by kernel_rfl) rfl ?_;refine cJ 12 8191 (by kernel_rfl) rfl ?_;refine bB (by kernel_rfl) ?_;refine xu [0,1,7,21] rfl ?_;refine aO rfl rfl (fun hlt=>?_) (fun hlt=>?_)
 · refine G.cq func106 rfl ?_;refine bf 2 rfl ?_;refine xo rfl (aq (vs:=[_,_]) func143 rfl H.Ku rfl (ah.br (Cf k1 n hn))) ?_;rintro _ h2 ⟨⟨v,k2,ho⟩,x2,z2⟩;refine xd [0,1,7,21] rfl ?_;refine G.uQ func106 rfl ?_;exact⟨_,rfl,⟨_,_,k2,.inr rfl,ho⟩,x1.trans x2⟩
 · refine aB rfl ?_;refine G.uQ func106 rfl ?_;exact⟨_,rfl,⟨_,_,k1,.inr rfl,cO.nil _ _ _ _⟩,x1⟩
def jY (ws:List By):Nat:=(ws.map List.length).sum
theorem DC {ws:List By}{w:By}(h:ws[i]? =some w):jY (ws.take (i+1))=jY (ws.take i)+w.length:=by
 unfold jY;rw[List.take_add_one,h];simp
theorem lf (x:By):∀l:List By,gJ (x::l)=x++l.flatMap fun y=>(59:UInt8)::32::y
 | []=>by simp[gJ]
 |y::l=>by rw[gJ,lf y l,List.flatMap_cons];rfl
theorem xl:∀ws:List By,(gJ ws).length=jY ws+2*(ws.length-1)
 | []=>rfl
 |x::xs=>by
  have:∀l:List By,(l.flatMap fun y=>(59:UInt8)::32::y).length=jY l+2*l.length:=by
   intro l
   induction l with
   |nil=>rfl
   |cons y l ih=>rw[List.flatMap_cons,List.length_append,ih];simp[jY];omega
  rw[lf,List.length_append,this];simp[jY];omega
theorem xT (ws:List By) (i:Nat):jY (ws.take i)<=jY ws:=by
 have:jY (ws.take i++ws.drop i)=jY (ws.take i)+jY (ws.drop i):=by unfold jY;rw[List.map_append,List.sum_append]
 rw[List.take_append_drop] at this;omega
theorem CG {O:Nat->Prop}{ws:List By}(hv:bS mK h O v ws) (hb:(gJ ws).length<=100000000) :
 ah Tryz.prog 60 #[v,.string (bs [59,32])] h (cT fun r h'=>r= .string (bs (gJ ws))/\aD h h'):=by
 obtain⟨oa,n,c,rfl,hsl⟩:=hv.open;have hn:=hsl.len;subst hn;have hjl:=xl ws;have h32:(bs [59,32]).size=2:=rfl;refine ah.of func60 rfl rfl ?_;refine aY func60 1 [0,1,4] rfl ?_;refine av rfl ?_;refine bp func60 1 rfl ?_;refine xp rfl (aj.aK underlying87 rfl) ?_;refine xd [0,1,4,12] rfl ?_;refine G.block rfl rfl ?_;refine aY func60 2 [0,1,4,12,13] rfl ?_;refine aO rfl rfl (fun h0=>?_) (fun h0=>?_)
 · have:ws=[]:=List.eq_nil_of_length_eq_zero (by omega);subst this;refine aY func60 1 [0,1,4,12,13] rfl ?_;refine G.ret func60 rfl rfl ?_;exact⟨_,rfl,rfl,Ext.refl _ _⟩
 · refine aY func60 2 [0,1,4,12,13,15] rfl ?_;refine aO rfl rfl (fun h1=>?_) (fun h1=>?_)
   · obtain⟨x,rfl⟩:∃x,ws=[x]:=List.length_eq_one_iff.1 (by omega);obtain⟨b,o,y,ha,_,hy,hc⟩:=hsl.at (show 0 < [x].length from Nat.one_pos);cases hy;refine bp func60 1 rfl ?_;refine xp rfl (aj.ax underlying87 H.fq rfl rfl 0 rfl ha Nat.one_pos) ?_;refine xp rfl (ai H.fM rfl hc) ?_;refine aS 1 [0,1,4,12,13,15] rfl ?_;refine G.ret func60 rfl rfl ?_;exact⟨_,rfl,rfl,Ext.refl _ _⟩
   · refine aB rfl ?_;refine G.aQ ?_;refine aY func60 1 [0,1,4,5,12,13,15] rfl ?_;refine av rfl ?_;refine bp func60 1 rfl ?_;refine xp rfl (aj.bI underlying9 rfl) ?_;refine aS 1 [0,1,4,5,12,13,15,22] rfl ?_;refine aG rfl rfl (fun _=>?_) (fun hc=>absurd hc (by decide))
     have hq:((9223372036854775807:Int).tdiv ((ws.length:Int)-1))>=3:=by
      rw[Int.tdiv_eq_ediv_of_nonneg (by decide)];exact(Int.le_ediv_iff_mul_le (by omega)).2 (by omega)
     have hq2:((9223372036854775807:Int).tdiv ((ws.length:Int)-1))<=9223372036854775807:=by
      rw[Int.tdiv_eq_ediv_of_nonneg (by decide)];exact Int.ediv_le_self _ (by decide)
     have hq3:IntKind.i64.wrap ((9223372036854775807:Int).tdiv ((ws.length:Int)-1))=((9223372036854775807:Int).tdiv ((ws.length:Int)-1)):=wrap_i64 ⟨by omega,by omega⟩;refine av rfl ?_;refine bp func60 1 rfl ?_;refine xp rfl (aj.bI underlying9 rfl) ?_;refine ct 1 rfl rfl (aj.aK underlying87 rfl) ?_;refine xp rfl (aj.jy rfl rfl ⟨by omega,by omega⟩) ?_;refine xp rfl (zj rfl rfl (by omega)) ?_;refine aS 1 [0,1,4,5,12,13,15,22,29] rfl ?_;refine aG rfl rfl (fun hc=>absurd hc (by rw[hq3];simp;omega)) (fun _=>?_);refine aB rfl ?_;refine G.cq func60 rfl ?_;refine ct 2 rfl rfl (aj.bI underlying9 rfl) ?_;refine ct 1 rfl rfl (aj.aK underlying87 rfl) ?_;refine xp rfl (aj.jy rfl rfl ⟨by omega,by omega⟩) ?_;refine xp rfl (aj.IG rfl rfl ⟨by rw[h32];omega,by rw[h32];omega⟩) ?_;refine xp rfl (aj.bC rfl rfl ⟨by rw[h32];omega,by rw[h32];omega⟩) ?_;refine aS 1 [0,1,4,5,12,13,15,22,29] rfl ?_;refine av rfl ?_;refine bp func60 1 rfl ?_;refine xp rfl (aj.aK underlying87 rfl) ?_;refine aS 1 [0,1,4,5,12,13,15,22,29,39,40,41] rfl ?_;refine G.block rfl rfl ?_;rw[show (0:Int)+((bs [59,32]).size:Int)*((ws.length:Int)-1)=((2*(ws.length-1)+jY (ws.take 0):Nat):Int) by rw[h32,List.take_zero];show _=((2*(ws.length-1)+0:Nat):Int);omega];refine bD (σ:=Nat) (fun i=>[(0,.slice oa ws.length c),(1,.string (bs [59,32])),(5,.int .i64 ((2*(ws.length-1)+jY (ws.take i):Nat):Int)),(39,.slice oa ws.length c),(40,.int .i64 (ws.length:Nat)),(41,.int .i64 (i:Nat))]) (fun i h'=>i<=ws.length/\h'=h) (fun i=>ws.length-i) (0) rfl ⟨rfl,rfl,rfl,rfl,rfl,rfl,trivial⟩ ⟨Nat.zero_le _,rfl⟩ ?_;rintro i g ⟨hi,hg⟩ ih;subst hg;have hsle:=xT ws (i+1);refine aY func60 1 [0,1,5,39,40,41,42] rfl ?_;refine av rfl ?_;refine aO rfl rfl (fun hlt=>?_) (fun hlt=>?_)
     · have hil:i<ws.length:=by omega
       obtain⟨w,hw⟩:∃w,ws[i]? =some w:=⟨_,List.getElem?_eq_getElem hil⟩
       have hst:=DC hw;have hwz:=bu w;obtain⟨b,o,y,ha,_,hy,hc⟩:=hsl.at hil;rw[hw] at hy;cases hy;refine aB rfl ?_;refine av rfl ?_;refine G.block rfl rfl ?_;refine xr func60 rfl ?_;refine xp rfl (aj.ax underlying87 H.fq rfl rfl i rfl ha (by omega)) ?_;refine xp rfl (ai H.fM rfl hc) ?_;refine aS 1 [0,1,5,7,39,40,41,42] rfl ?_;refine av rfl ?_;refine bp func60 1 rfl ?_;refine xp rfl (aj.bI underlying9 rfl) ?_;refine ct 1 rfl rfl (aj.jy rfl rfl ⟨by omega,by omega⟩) ?_;refine aS 1 [0,1,5,7,39,40,41,42,49] rfl ?_;refine aG rfl rfl (fun hc=>absurd hc (by simp;omega)) (fun _=>?_);refine aB rfl ?_;refine G.cq func60 rfl ?_;refine ct 2 rfl rfl (aj.bI underlying9 rfl) ?_;refine xp rfl (aj.bC rfl rfl ⟨by omega,by omega⟩) ?_;refine aS 1 [0,1,5,7,39,40,41,42,49] rfl ?_;refine G.aQ ?_;refine G.cq func60 rfl ?_;refine xp rfl (aj.bC rfl rfl ⟨by omega,by omega⟩) ?_;refine aS 1 [0,1,5,7,39,40,41,42,49] rfl ?_;exact ih (i+1) _ _ ⟨rfl,rfl,congrArg (fun x:Int=>some (Value.int .i64 x)) (by rw[hst,hwz];omega),rfl,rfl,rfl,trivial⟩ ⟨by omega,rfl⟩ (by omega)
     · have hie:ws.take i=ws:=List.take_of_length_le (by omega);rw[hie];refine bw rfl rfl ?_;refine xr func60 rfl ?_;refine xo rfl (aA.aX H.EL) ?_;rintro _ h1 ⟨rfl,k1,e1,z1⟩;refine xd [0,1,5,8,39,40,41,42] rfl ?_;refine bp func60 1 rfl ?_;have k1:bh h1 g.size 205 [.pointer none,.slice none 0 0]:=k1;obtain⟨x,tl,rfl⟩:∃x tl,ws=x::tl:=by cases ws with|nil=>simp at h0|cons x tl=>exact⟨x,tl,rfl⟩
       refine xo rfl (aq (vs:=[_,_]) func106 rfl H.KD rfl (ah.br (CH k1 _ (by omega)))) ?_;rintro _ h2 ⟨hb2,x2⟩;refine xd [0,1,5,8,39,40,41,42] rfl ?_;refine bp func60 1 rfl ?_;have e02:=aD.only e1 x2 (Nat.le_refl _);have hxz:=bu x;have hxl:x.length<=jY (x::tl):=by simp[jY]
       obtain⟨b,o,y,ha,_,hy,hc⟩:=(hsl.mv (Mv.ay e02)).at (show 0<(x::tl).length by simp);cases hy;refine xp rfl (aj.ax underlying87 H.fq rfl rfl 0 rfl ha (by simp)) ?_;refine xp rfl (ai H.fM rfl hc) ?_;refine xo rfl (aq (vs:=[_,_]) func99 rfl H.FF rfl (ah.br (dW (bs x) hb2 (by rw[hxz];simp only[List.length_nil];omega)))) ?_;rintro _ h3 ⟨rfl,hb3,x3⟩;refine xd [0,1,5,8,39,40,41,42] rfl ?_;refine av rfl ?_;refine bp func60 1 rfl ?_;rw[gK,List.nil_append] at hb3;have e03:=eO e02 x3 (Nat.le_refl _);have hpart:=hsl.part (i:=1) (j:=(x::tl).length) (by simp) (Nat.le_refl _);rw[List.take_length,List.drop_one,List.tail_cons] at hpart;refine xp rfl (aj.xW underlying87 H.fq rfl rfl 1 rfl (by simp)) ?_;refine xp rfl (aj.aK underlying87 rfl) ?_;refine aS 1 [0,1,5,8,39,40,41,42,63,64,65] rfl ?_;refine G.block rfl rfl ?_;refine bD (σ:=Nat) (fun i=>[(1,.string (bs [59,32])),(8,.pointer (some ⟨g.size,0,none⟩)),(63,.slice (dm oa 1 1 c) ((x::tl).length-1) (c-1)),(64,.int .i64 (((x::tl).length-1:Nat):Int)),(65,.int .i64 (i:Nat))]) (fun i h'=>i<=tl.length/\jR h' g.size 205 5 (gJ (x::tl.take i))/\aD g h') (fun i=>tl.length-i) (0) rfl ⟨rfl,rfl,rfl,rfl,rfl,trivial⟩ ⟨Nat.zero_le _,by rw[List.take_zero,gJ];exact hb3,e03⟩ ?_;rintro i g4 ⟨hi,hb4,e04⟩ ih;have hjt:=xl (x::tl.take i);have hst:=xT (x::tl) (i+1);rw[List.take_succ_cons] at hst;simp only[List.length_cons,List.length_take] at hjt;simp only[List.length_cons] at hb hjl;have hlc:(x::tl).length-1=tl.length:=rfl;refine aY func60 1 [1,8,63,64,65,66] rfl ?_;refine av rfl ?_;refine aO rfl rfl (fun hlt4=>?_) (fun hlt4=>?_)
       · have hil:i<tl.length:=by omega
         obtain⟨w,hw⟩:∃w,tl[i]? =some w:=⟨_,List.getElem?_eq_getElem hil⟩
         have hwz:=bu w;have hst2:=xT (x::tl) (i+2);rw[List.take_succ_cons] at hst2;have htk:tl.take (i+1)=tl.take i++[w]:=by rw[List.take_add_one,hw];rfl
         have hs2:jY (x::tl.take (i+1))=jY (x::tl.take i)+w.length:=by rw[htk];simp[jY];omega
         have hjn:gJ (x::tl.take (i+1))=(gJ (x::tl.take i)++[59,32])++w:=by rw[htk,lf,lf];simp
         obtain⟨b5,o5,y5,ha5,_,hy5,hc5⟩:=(hpart.mv (Mv.ay e04)).at (show i<(x::tl).length-1 by omega);rw[hw] at hy5;cases hy5;refine aB rfl ?_;refine av rfl ?_;refine G.block rfl rfl ?_;refine xr func60 rfl ?_;refine xp rfl (aj.ax underlying87 H.fq rfl rfl i rfl ha5 (by omega)) ?_;refine xp rfl (ai H.fM rfl hc5) ?_;refine aS 1 [1,8,10,63,64,65,66] rfl ?_;refine bp func60 1 rfl ?_;refine xo rfl (aq (vs:=[_,_]) func99 rfl H.FF rfl (ah.br (dW (bs [59,32]) hb4 (by rw[h32];omega)))) ?_;rintro _ h5 ⟨rfl,hb5,x5⟩;refine xd [1,8,10,63,64,65,66] rfl ?_;refine G.cq func60 rfl ?_;refine bf 1 rfl ?_;rw[gK] at hb5;refine xo rfl (aq (vs:=[_,_]) func99 rfl H.FF rfl (ah.br (dW (bs w) hb5 (by rw[hwz,List.length_append];simp only[List.length_cons,List.length_nil];omega)))) ?_;rintro _ h6 ⟨rfl,hb6,x6⟩;refine xd [1,8,10,63,64,65,66] rfl ?_;refine G.aQ ?_;refine G.cq func60 rfl ?_;refine xp rfl (aj.bC rfl rfl ⟨by omega,by omega⟩) ?_;refine aS 1 [1,8,10,63,64,65,66] rfl ?_;rw[gK,<-hjn] at hb6;exact ih (i+1) _ _ ⟨rfl,rfl,rfl,rfl,rfl,trivial⟩ ⟨by omega,hb6,eO (eO e04 x5 (Nat.le_refl _)) x6 (Nat.le_refl _)⟩ (by omega)
       · have hie:tl.take i=tl:=List.take_of_length_le (by omega);rw[hie] at hb4;refine bw rfl rfl ?_;refine xr func60 rfl ?_;refine xo rfl (aq (vs:=[_]) func102 rfl H.FN rfl (ah.br (jQ hb4 (by omega)))) ?_;rintro _ h5 ⟨rfl,x5⟩;refine aS 1 [1,4,8,63,64,65,66] rfl ?_;refine G.ret func60 rfl rfl ?_;exact⟨_,rfl,rfl,eO e04 x5 (Nat.le_refl _)⟩
abbrev MA:gQ (UInt8×UInt8):=.record 2 (by decide) kC (fun _=>rfl) Fw
theorem Jt (k:nY h):bS MA h (fun _=>False) (.slice (some ⟨1,0,none⟩) 6 6) iB :=
 ⟨_,6,6,rfl,rfl,Nat.le_refl _,by decide,fun i x hx=>⟨_,0,kC x,rfl,fun k=>k,fun j v hv=>by
  have:=k (i*2+j) v (gX (enc:=kC) (fun _=>rfl) iB i x j v hx hv);rw[Nat.add_assoc];exact this,rfl⟩⟩
theorem yg {tb ib:Nat}(hb:bh h tb 9 [.string (bs s)]) (hi:bh h ib 3 [.int .i64 (i:Nat)]){c:UInt8}(hc:s[i]? =some c) (p:UInt8×UInt8) :
 ah Tryz.prog 105 #[.agg (kC p).toArray,ptr tb,ptr ib] h (cT fun r h'=>r= .bool (p.2 ==c)/\aD h h'):=by
 refine ah.of func105 rfl rfl ?_;refine xr func105 rfl ?_;refine xo rfl (aA.gu rfl) ?_;rintro _ h1 ⟨rfl,k1,e1,z1⟩;have k1:bh h1 h.size 214 (kC p):=k1;refine aS 1 [0,1,2,3,4] rfl ?_;refine av rfl ?_;refine G.ew func105 H.mixed rfl (by kernel_rfl) ?_;refine RQ.au rfl rfl rfl rfl (aj.cK underlying214 H.JI rfl rfl 1 rfl (by decide)) ?_;refine RQ.au rfl rfl rfl rfl (ai H.K4 rfl (k1.cell (i:=1) rfl)) ?_;refine RQ.au rfl rfl rfl rfl (ai H.fM rfl ((hb.ay e1).cell (i:=0) rfl)) ?_;refine RQ.au rfl rfl rfl rfl (ai H.cM rfl ((hi.ay e1).cell (i:=0) rfl)) ?_;refine RQ.au rfl rfl rfl rfl (aj.dw underlying9 rfl rfl i rfl (gP hc)) ?_;refine RQ.au rfl rfl rfl rfl (aj.Gs rfl rfl) ?_;refine RQ.au rfl rfl rfl rfl (aj.assign rfl) ?_;refine cB rfl ?_;refine xu [0,1,2,3,4] rfl ?_;refine G.ret func105 rfl rfl ?_;exact⟨_,rfl,by show Value.bool _=_;rw[Io];rfl,e1⟩
theorem yH {gf:FuncId}{caps:List Value}(hf:Ik Tryz.prog gf){ts:List (UInt8×UInt8)}(hv:bS MA h (fun _=>False) v ts) (p:UInt8×UInt8->Bool)
 (hp:∀t g,aD h g->ah Tryz.prog gf ([Value.agg (kC t).toArray]++caps).toArray g (cT fun r h'=>r= .bool (p t)/\aD g h')) :
 ah Tryz.prog 104 #[v,.func (.func gf) #[] caps.toArray] h (cT fun r h'=>(∃i:Int,r= .int .i64 i/\((i<0/\ts.find? p=none)\/∃(k:Nat) (t:UInt8×UInt8),i=k/\ts[k]? =some t/\ts.find? p=some t))/\aD h h'):=by
 obtain⟨va,vn,vc,rfl,hvs⟩:=hv.open;have hvl:ts.length=vn:=hvs.len;subst hvl;have hvm:=hvs.cap;have hvc:=hvs.le;simp only[maxLen] at hvm;refine ah.of func104 rfl rfl ?_;refine aY func104 1 [0,1,4] rfl ?_;refine av rfl ?_;refine bp func104 1 rfl ?_;refine xp rfl (aj.aK underlying213 rfl) ?_;refine aS 1 [0,1,4,7,8] rfl ?_;refine G.block rfl rfl ?_;refine bD (σ:=Nat) (fun i=>[(0,.slice va ts.length vc),(1,.func (.func gf) #[] caps.toArray),(7,.int .i64 (ts.length:Nat)),(8,.int .i64 (i:Nat))]) (fun i h'=>aD h h'/\i<=ts.length/\∀a∈ts.take i,p a=false) (fun i=>ts.length-i) (0) rfl ⟨rfl,rfl,rfl,rfl,trivial⟩ ⟨Ext.refl _ _,Nat.zero_le _,by simp⟩ ?_;rintro i g ⟨eg,hi,hin⟩ ih;refine aY func104 1 [0,1,7,8,9] rfl ?_;refine av rfl ?_;refine aO rfl rfl (fun hlt=>?_) (fun hlt=>?_)
 · have hil:i<ts.length:=by omega
   have hvg:=hvs.mv (Mv.ay eg);obtain⟨b,o,t,ha,_,ht,hrow⟩:=hvg.vS hil;have hpt:=hp t g eg;refine aB rfl ?_;refine av rfl ?_;refine G.block rfl rfl ?_;refine aY func104 2 [0,1,5,7,8,9] rfl ?_;refine bp func104 3 rfl ?_;refine xp rfl (aj.ax underlying213 H.wv rfl rfl i rfl ha (by omega)) ?_;refine xp rfl (aj.aH H.IY H.wv rfl hrow (by first|rfl|(simp;done)|(simp;omega))) ?_;refine xo rfl (aA.Gy (vs:=[_]) rfl hf rfl (ah.br (hpt))) ?_;rintro _ g1 ⟨rfl,e1⟩;refine xd [0,1,5,7,8,9,16] rfl ?_;refine aG rfl rfl (fun hb=>?_) (fun hb=>?_)
   · have hb:p t=true:=hb;refine aY func104 2 [0,1,4,5,7,8,9,16] rfl ?_;refine G.ret func104 rfl rfl ?_;exact⟨_,rfl,⟨i,rfl,.inr ⟨i,t,rfl,ht,De hin ht hb⟩⟩,eg.trans e1⟩
   · have hb:p t=false:=hb;refine aB rfl ?_;refine G.aQ ?_;refine G.cq func104 rfl ?_;refine xp rfl (aj.bC rfl rfl ⟨by omega,by omega⟩) ?_;refine aS 1 [0,1,5,7,8,9,16] rfl ?_;exact ih (i+1) _ _ ⟨rfl,rfl,rfl,rfl,trivial⟩ ⟨eg.trans e1,by omega,fun a ha=>by rw[List.take_add_one,ht,List.mem_append] at ha;exact ha.elim (hin a) (fun q=>by simp at q;rw[q];exact hb)⟩ (by omega)
 · obtain rfl:i=ts.length:=by omega
   refine bw rfl rfl ?_;refine aY func104 1 [0,1,4,7,8,9] rfl ?_;refine G.ret func104 rfl rfl ?_;exact⟨_,rfl,⟨-1,rfl,.inl ⟨by decide,mI hin rfl⟩⟩,eg⟩
theorem BP (c:UInt8):(fJ c).length<=2:=by unfold fJ;split<;>simp
theorem wN (s:By):(s.flatMap fJ).length<=2*s.length:=by
 induction s with
 |nil=>simp
 |cons c s ih=>rw[List.flatMap_cons,List.length_append,List.length_cons];have:=BP c;omega
theorem Aj (hg:nY h) (s:By) (hs:s.length<=100000000):ah Tryz.prog 58 #[.string (bs s)] h (cT fun r h'=>r= .string (bs (yf s))/\aD h h'):=by
 have hbz:=bu s;have hql:=wN s;refine ah.of func58 rfl rfl ?_;refine xr func58 rfl ?_;refine xo rfl (aA.gu rfl) ?_;rintro _ h1 ⟨rfl,k1,e1,z1⟩;refine aS 1 [0,1,2] rfl ?_;refine xr func58 rfl ?_;refine xo rfl (aA.aX H.EL) ?_;rintro _ h2 ⟨rfl,k2,e2,z2⟩;have k1:bh h2 h.size 9 [.string (bs s)]:=k1.ay e2;have kb:jR h2 h1.size 205 5 []:=vK k2;refine xd [0,1,2,3] rfl ?_;refine xr func58 rfl ?_;refine xo rfl (aq (vs:=[_,_]) func101 rfl H.Dc rfl (ah.br (fR 34 kb (by simp)))) ?_;rintro _ h3 ⟨kb3,x3⟩;have k13:=k1.ext x3 (show ¬h1.size<=h.size by omega);have e13:aD h h3:=eO (e1.trans e2) x3 (by omega);rw[List.nil_append] at kb3;refine xd [0,1,2,3] rfl ?_;refine av rfl ?_;refine xr func58 rfl ?_;refine xp rfl (ai H.fM rfl (k13.cell (i:=0) rfl)) ?_;refine xp rfl (aj.bI underlying9 rfl) ?_;refine aS 1 [0,1,2,3,8,9] rfl ?_;refine G.block rfl rfl ?_;refine bD (σ:=Nat) (fun i=>[(1,ptr h.size),(3,ptr h1.size),(8,.int .i64 ((bs s).size:Nat)),(9,.int .i64 (i:Nat))]) (fun i g=>i<=s.length/\jR g h1.size 205 5 (34::(s.take i).flatMap fJ)/\aD h g/\bh g h.size 9 [.string (bs s)]/\h2.size<=g.size) (fun i=>s.length-i) (0) rfl ⟨rfl,rfl,rfl,rfl,trivial⟩ ⟨Nat.zero_le _,kb3,e13,k13,x3.size⟩ ?_;rintro i g ⟨hi,kg,eg,k1g,hz⟩ ih
 have htl:((s.take i).flatMap fJ).length<=2*s.length:=by
  have:=wN (s.take i);rw[List.length_take] at this;omega
 refine aY func58 1 [1,3,8,9,10] rfl ?_;refine av rfl ?_;refine aO rfl rfl (fun hlt=>?_) (fun hlt=>?_)
 · have hil:i<s.length:=by omega
   obtain⟨c,hc⟩:∃c,s[i]? =some c:=⟨_,List.getElem?_eq_getElem hil⟩
   have htk:(s.take (i+1)).flatMap fJ=(s.take i).flatMap fJ++fJ c:=by rw[List.take_add_one,hc];simp
   refine aB rfl ?_;refine av rfl ?_;refine G.block rfl rfl ?_;refine bp func58 1 rfl ?_;refine xo rfl (aA.aX H.Lp) ?_;rintro _ g1 ⟨rfl,kn,en,zn⟩;refine RW.b9 rfl rfl rfl (aA.bz H.bW rfl rfl kn (by first|decide|exact of_decide_eq_true rfl|(simp;done)|(simp;omega)) rfl) ?_;rintro _ g2 ⟨rfl,kn2,xn,zn2⟩;have kn2:bh g2 g.size 3 [.int .i64 (i:Nat)]:=kn2;have en2:aD g g2:=aD.only en xn (Nat.le_refl _);have eg2:=eg.trans en2;have hix:=yH (h:=g2) (gf:=105) (caps:=[ptr h.size,ptr g.size]) ⟨_,func105,rfl,by kernel_rfl⟩ (Jt (hg.ay eg2)) (fun p=>p.2 ==c) (fun p g' e'=>yg ((k1g.ay en2).ay e') (kn2.ay e') hc p);refine xd [1,3,4,8,9,10] rfl ?_;refine xr func58 rfl ?_;refine xp rfl (aj.zU underlying215 H.wv rfl  ) ?_;refine xp rfl (aj.makeFunc (vs:=[_,_]) rfl) ?_;refine xo rfl (aq (vs:=[_,_]) func104 rfl H.KE rfl (ah.br (hix))) ?_;rintro _ g3 ⟨⟨j,rfl,hj⟩,e3⟩;have eg3:=eg2.trans e3;have kg3:=jR.ay kg (en2.trans e3);have z3:=(en2.trans e3).size;refine aS 1 [1,3,4,5,8,9,10] rfl ?_;refine aY func58 2 [1,3,4,5,8,9,10,16] rfl ?_;refine aO rfl rfl (fun hj0=>?_) (fun hj0=>?_)
   · obtain⟨k,p,rfl,hkp,hfp⟩:=hj.resolve_left (fun q=>by omega);have hk6:k<6:=(List.getElem?_eq_some_iff.1 hkp).1;have hqc:fJ c=[92,p.1]:=by unfold fJ;rw[hfp]
     have hrow:=(hg.ay eg3) (k*2+0) _ (gX (enc:=kC) (fun _=>rfl) iB k p 0 _ hkp rfl);refine G.cq func58 rfl ?_;refine ct 1 rfl rfl (aj.cK underlying215 H.wv rfl rfl k rfl hk6) ?_;refine xp rfl (aj.cK underlying214 H.JI rfl rfl 0 rfl (by decide)) ?_;refine xp rfl (ai H.K4 rfl hrow) ?_;refine xo rfl (aA.aW (us:=[_,_]) underlying38 H.Lj rfl rfl (by decide) (by simp[Value.oneCell'])) ?_;rintro _ g4 ⟨rfl,hg4⟩;have e4:aD g3 g4:=by rw[hg4];exact Ext.push _ _ _
     have hby:bS .byte g4 (fun _=>False) (.slice (some ⟨g3.size,0,none⟩) 2 2) [92,p.1]:=by rw[hg4];exact CD.read (jo so g3 _ [92,p.1] 2 rfl (by decide) 0 (Nat.zero_le _) rfl) (fun _ _ k=>k)
     have hw:=dW (bs [92,p.1]) (jR.ay kg3 e4) (by show (34::_).length+2<=_;rw[List.length_cons];omega);refine xp rfl (aj.xA underlying38 underlying5 underlying9 rfl hby) ?_;refine xo rfl (aq (vs:=[_,_]) func99 rfl H.FF rfl (ah.br (hw))) ?_;rintro _ g5 ⟨rfl,kb5,x5⟩;rw[gK] at kb5;have z4:=e4.size;refine xd [1,3,4,5,8,9,10,16] rfl ?_;refine G.aQ ?_;refine G.cq func58 rfl ?_;refine xp rfl (aj.bC rfl rfl ⟨by omega,by omega⟩) ?_;refine aS 1 [1,3,4,5,8,9,10,16] rfl ?_;exact ih (i+1) _ _ ⟨rfl,rfl,rfl,rfl,trivial⟩ ⟨hil,by rw[htk,hqc];exact kb5,eO (eg3.trans e4) x5 (by omega),((k1g.ay (en2.trans e3)).ay e4).ext x5 (show ¬h1.size<=h.size by omega),by have:=x5.size;omega⟩ (by omega)
   · have hfn:iB.find? (fun p=>p.2 ==c)=none:=by
      rcases hj with hj|⟨k,p,hj,_⟩
      · exact hj.2
      · omega
     have hqc:fJ c=[c]:=by unfold fJ;rw[hfn]
     have hw:=fR c kg3 (by rw[List.length_cons];omega);refine G.cq func58 rfl ?_;refine xp rfl (ai H.fM rfl ((k1g.ay (en2.trans e3)).cell (i:=0) rfl)) ?_;refine xp rfl (ai H.cM rfl ((kn2.ay e3).cell (i:=0) rfl)) ?_;refine xp rfl (aj.dw underlying9 rfl rfl i rfl (gP hc)) ?_;refine xo rfl (aq (vs:=[_,_]) func101 rfl H.Dc rfl (ah.br (hw))) ?_;rintro _ g5 ⟨kb5,x5⟩;refine xd [1,3,4,5,8,9,10,16] rfl ?_;refine G.aQ ?_;refine G.cq func58 rfl ?_;refine xp rfl (aj.bC rfl rfl ⟨by omega,by omega⟩) ?_;refine aS 1 [1,3,4,5,8,9,10,16] rfl ?_;exact ih (i+1) _ _ ⟨rfl,rfl,rfl,rfl,trivial⟩ ⟨hil,by rw[htk,hqc];exact kb5,eO eg3 x5 (by omega),(k1g.ay (en2.trans e3)).ext x5 (show ¬h1.size<=h.size by omega),by have:=x5.size;omega⟩ (by omega)
 · have hie:i=s.length:=by omega
   rw[hie,List.take_length] at kg;have hw:=fR 34 kg (by rw[List.length_cons];omega);refine bw rfl rfl ?_;refine xr func58 rfl ?_;refine xo rfl (aq (vs:=[_,_]) func101 rfl H.Dc rfl (ah.br (hw))) ?_;rintro _ g5 ⟨kb5,x5⟩;have hw2:=jQ kb5 (by rw[List.length_append,List.length_cons,List.length_singleton];omega);refine xd [1,3,8,9,10] rfl ?_;refine xr func58 rfl ?_;refine xo rfl (aq (vs:=[_]) func102 rfl H.FN rfl (ah.br (hw2))) ?_;rintro _ g6 ⟨rfl,x6⟩;refine aS 1 [1,2,3,8,9,10] rfl ?_;refine G.ret func58 rfl rfl ?_;exact⟨_,rfl,rfl,eO (eO eg x5 (by omega)) x6 (by omega)⟩
def nF (l:By):List Value:=(List.range 256).map fun n=>.bool (decide (UInt8.ofNat n∈l))
@[simp] theorem Fb (l:By):(nF l).length=256:=by unfold nF;rw[List.length_map,List.length_range]
theorem CQ (l:By) (c:UInt8):(nF l)[c.toNat]? =some (.bool (decide (c∈l))):=by
 unfold nF;rw[List.getElem?_map,List.getElem?_range c.toNat_lt];simp
theorem Fa (l:By) (c:UInt8):(nF l).set c.toNat (.bool true)=nF (l++[c]):=by
 apply List.ext_getElem?
 intro n;rw[List.getElem?_set]
 by_cases h:c.toNat=n
 · subst h;rw[if_pos rfl,if_pos (by rw[Fb];exact c.toNat_lt),CQ];simp
 · rw[if_neg h];unfold nF;rw[List.getElem?_map,List.getElem?_map]
   by_cases hn:n<256
   · rw[List.getElem?_range hn];have:¬UInt8.ofNat n=c:=fun q=>h (by rw[<-q];exact UInt8.toNat_ofNat_of_lt' hn)
     simp[this]
   · rw[List.getElem?_eq_none (by rw[List.length_range];omega)];rfl
theorem Ad (l:By):∀v∈nF l,v.oneCell'=true:=fun v hv=>by unfold nF at hv;simp at hv;obtain⟨_,_,rfl⟩:=hv;rfl
theorem DK (s:By) (hs:s.all (fun c=>decide (c.toNat<128))=true) (hsl:s.length<=1000000):ah Tryz.prog 188 #[.string (bs s)] h (cT fun r h'=>r=packed [.agg (nF s).toArray,.bool true]/\aD h h'):=by
 have hbz:=bu s;refine ah.of func188 rfl rfl ?_;refine xr func188 rfl ?_;refine xo rfl (aA.aX H.Im) ?_;rintro _ h1 ⟨rfl,k1,e1,z1⟩;have k1:bh h1 h.size 287 (nF []):=k1;refine aS 1 [0,2,3] rfl ?_;refine av rfl ?_;refine aY func188 1 [0,2,3,4] rfl ?_;refine G.block rfl rfl ?_;refine bD (σ:=Nat) (fun i=>[(0,.string (bs s)),(2,ptr h.size),(4,.int .i64 (i:Nat))]) (fun i g=>i<=s.length/\bh g h.size 287 (nF (s.take i))/\aD h g) (fun i=>s.length-i) (0) rfl ⟨rfl,rfl,rfl,trivial⟩ ⟨Nat.zero_le _,k1,e1⟩ ?_;rintro i g ⟨hi,kg,eg⟩ ih;refine av rfl ?_;refine bp func188 2 rfl ?_;refine xp rfl (aj.bI underlying9 rfl) ?_;refine aS 1 [0,2,4,9] rfl ?_;refine aO rfl rfl (fun hlt=>?_) (fun hlt=>?_)
 · have hil:i<s.length:=by omega
   obtain⟨c,hc⟩:∃c,s[i]? =some c:=⟨_,List.getElem?_eq_getElem hil⟩
   have hc7:c.toNat<128:=of_decide_eq_true (List.all_eq_true.1 hs c (List.mem_of_getElem? hc));refine aB rfl ?_;refine av rfl ?_;refine G.block rfl rfl ?_;refine bp func188 2 rfl ?_;refine xp rfl (aj.dw underlying9 rfl rfl i rfl (gP hc)) ?_;refine aS 1 [0,2,4,5,9] rfl ?_;refine av rfl ?_;refine aY func188 2 [0,2,4,5,9,16] rfl ?_;refine aG rfl rfl (fun hc=>absurd hc (by simp;omega)) (fun _=>?_);refine aB rfl ?_;refine G.cq func188 rfl ?_;refine ct 1 rfl rfl (aj.cK underlying287 H.lT rfl rfl c.toNat rfl c.toNat_lt) ?_;refine RW.b9 rfl rfl rfl (aA.bz H.lT rfl rfl kg (by first|decide|exact of_decide_eq_true rfl|(simp;done)|(simp;omega)) rfl) ?_;rintro _ g2 ⟨rfl,k2,x2,z2⟩;have k2:bh g2 h.size 287 (nF (s.take (i+1))):=by rw[List.take_add_one,hc,show (some c).toList=[c] from rfl,<-Fa];simpa using k2
   refine xd [0,2,4,5,9,16] rfl ?_;refine G.aQ ?_;refine G.cq func188 rfl ?_;refine ct 1 rfl rfl (aj.bC rfl rfl ⟨by omega,by omega⟩) ?_;refine aS 1 [0,2,4,5,9,16] rfl ?_;exact ih (i+1) _ _ ⟨rfl,rfl,rfl,trivial⟩ ⟨hil,k2,aD.only eg x2 (Nat.le_refl _)⟩ (by omega)
 · have hie:i=s.length:=by omega
   rw[hie,List.take_length] at kg;refine bw rfl rfl ?_;refine xr func188 rfl ?_;refine xp rfl (aj.aH H.IW H.CO rfl kg.row (by first|rfl|(simp;done)|(simp;omega))) ?_;refine RW.b9 rfl rfl rfl (aA.aC H.CO rfl rfl kg (by first|rfl|(simp;done)|(simp;omega)) (by first|decide|exact of_decide_eq_true rfl|(simp;done)|(simp;omega)) (Ad s)) ?_;rintro _ g2 ⟨rfl,k2,x2,z2⟩;refine aS 1 [0,2,3,4,9] rfl ?_;refine G.cQ func188 rfl (.cons (bl.cI H.IW H.CO rfl (k2.row) (by first|rfl|(simp;done)|(simp;omega))) (.cons (bl.tmp rfl) (.nil))) ?_;exact⟨_,rfl,by simp[over,List.drop_eq_nil_of_le],aD.only eg x2 (Nat.le_refl _)⟩
theorem sj {l:By}(k:bh h b 287 (nF l)) (c:UInt8):ah Tryz.prog 201 #[ptr b,.int .u8 (c.toNat:Nat)] h (cT fun r h'=>r= .bool (decide (c∈l))/\h'=h):=by
 refine ah.of func201 rfl rfl ?_;refine aY func201 1 [0,1,4] rfl ?_;refine bp func201 3 rfl ?_;refine xp rfl (aj.cK underlying287 H.lT rfl rfl c.toNat rfl c.toNat_lt) ?_;refine xp rfl (ai H.vk rfl (by simpa using k.cell (CQ l c))) ?_;refine aS 1 [0,1,4] rfl ?_;refine G.ret func201 rfl rfl ?_;exact⟨_,rfl,rfl,rfl⟩
theorem zI {l:By}(k:bh h b 287 (nF l)) (s:By):ah Tryz.prog 189 #[.string (bs s),ptr b] h (cT fun r h'=>r= .string (bs (s.dropWhile fun c=>decide (c∈l)))/\h'=h):=by
 refine ah.of func189 rfl rfl ?_;refine aY func189 1 [0,1,4] rfl ?_;refine av rfl ?_;refine G.block rfl rfl ?_;refine bD (σ:=By) (fun t=>[(0,.string (bs t)),(1,ptr b)]) (fun t g=>g=h/\t.dropWhile (fun c=>decide (c∈l))=s.dropWhile fun c=>decide (c∈l)) (fun t=>t.length) (s) rfl ⟨rfl,rfl,trivial⟩ ⟨rfl,rfl⟩ ?_;rintro t g ⟨rfl,ht⟩ ih;have hbz:=bu t;rw[<-ht];refine av rfl ?_;refine bp func189 1 rfl ?_;refine xp rfl (aj.bI underlying9 rfl) ?_;refine aS 1 [0,1,7] rfl ?_
 rcases t with _|⟨c,r⟩
 · refine aG rfl rfl (fun hc=>absurd hc (by decide)) (fun _=>?_);refine bw rfl rfl ?_;refine aY func189 2 [0,1,4,7] rfl ?_;refine G.ret func189 rfl rfl ?_;exact⟨_,rfl,rfl,rfl⟩
 · refine aG rfl rfl (fun _=>?_) (fun hc=>absurd hc (by rw[hbz];simp));refine aB rfl ?_;refine G.block rfl rfl ?_;refine av rfl ?_;refine bp func189 2 rfl ?_;refine xp rfl (aj.dw underlying9 rfl rfl 0 rfl (gP (l:=c::r) (c:=c) rfl)) ?_;refine xo rfl (aq (vs:=[_,_]) func201 rfl H.Ki rfl (ah.br (sj k c))) ?_;rintro _ g1 ⟨rfl,hg1⟩;subst hg1;refine aS 1 [0,1,7,12] rfl ?_;refine aG rfl rfl (fun hb=>?_) (fun hb=>?_)
   · have hb:¬c∈l:=by simpa using hb
     refine bw rfl rfl ?_;refine aY func189 2 [0,1,4,7,12] rfl ?_;refine G.ret func189 rfl rfl ?_;exact⟨_,rfl,by rw[List.dropWhile_cons,if_neg (by simpa using hb)];rfl,rfl⟩
   · have hb:c∈l:=by simpa using hb
     refine aB rfl ?_;refine G.cq func189 rfl ?_;refine ct 1 rfl rfl (aj.gU underlying9 rfl rfl 1 rfl (by rw[hbz];simp)) ?_;rw[ny,ht];refine aS 1 [0,1,7,12] rfl ?_;refine G.aQ ?_;exact ih r _ _ ⟨rfl,rfl,trivial⟩ ⟨rfl,by rw[<-ht,List.dropWhile_cons,if_pos (by simpa using hb)]⟩ (by simp)
abbrev BD:By:=[48,49,50,51,52,53,54,55,56,57]
theorem HO (c:UInt8):decide (c∈BD)=jj c:=by
 have k:∀n:Fin 256,decide (UInt8.ofFin n∈BD)=jj (UInt8.ofFin n):=by unfold jj;decide +kernel
 exact k c.toFin
theorem BA (s:By):ah Tryz.prog 172 #[.string (bs s),.string (bs BD)] h (cT fun r h'=>r= .string (bs (dG s))/\aD h h'):=by
 have hd:s.dropWhile (fun c=>decide (c∈BD))=dG s:=by unfold dG;congr 1;funext c;exact HO c
 refine ah.of func172 rfl rfl ?_;refine aY func172 1 [0,1,4] rfl ?_;refine av rfl ?_;refine av rfl ?_;refine G.bE [(12,.bool (decide (s=[])))] [(0,_),(1,_),(4,_)] ⟨rfl,rfl,rfl,trivial⟩ func172 rfl ?_ ?_
 · refine ct 1 rfl rfl (aj.dV rfl rfl) ?_;refine bf 1 rfl ?_;refine aN (d:=9) rfl (fun g=>?_) (fun g=>?_)
   · have g:=of_decide_eq_true g;refine bf 3 rfl ?_;refine aE rfl ?_;exact⟨rfl,aF rfl (by rw[decide_eq_true (eK g)]),rfl,rfl,rfl,trivial⟩
   · have g:=of_decide_eq_false g;refine ct 1 rfl rfl (aj.dV rfl rfl) ?_;refine bf 1 rfl ?_;refine aE rfl ?_;exact⟨rfl,aF rfl (by rw[show decide (s=[])=false from decide_eq_false (fun q=>g (by rw[q];rfl))];rfl),rfl,rfl,rfl,trivial⟩
 · refine aO rfl rfl (fun h0=>?_) (fun h0=>?_)
   · refine aY func172 2 [0,1,4,12] rfl ?_;refine G.ret func172 rfl rfl ?_;exact⟨_,rfl,by rw[h0];rfl,Ext.refl _ _⟩
   · refine aB rfl ?_;refine av rfl ?_;refine av rfl ?_;refine G.bE [(21,.bool false)] [(0,_),(1,_),(4,_),(12,_)] ⟨rfl,rfl,rfl,rfl,trivial⟩ func172 rfl ?_ ?_
     · refine ct 1 rfl rfl (aj.bI underlying9 rfl) ?_;refine bf 2 rfl ?_;refine RW.dn (d:=17) (b':=false) rfl (rfl) ?_;refine bf 4 rfl ?_;refine aE rfl ?_;exact⟨rfl,aF rfl (rfl),rfl,rfl,rfl,rfl,trivial⟩
     · refine aG rfl rfl (fun hc=>absurd hc (by simp)) (fun _=>?_);refine aB rfl ?_;refine av rfl ?_;refine bp func172 1 rfl ?_;refine xo rfl (aq (vs:=[_]) func188 rfl H.Km rfl (ah.br (DK BD (by decide) (by decide)))) ?_;rintro _ h1 ⟨rfl,e1⟩;refine bf 3 rfl ?_;refine xo rfl (aA.aX H.Im) ?_;rintro _ h2 ⟨rfl,k2,e2,z2⟩;refine RW.b9 rfl rfl rfl (aA.aC H.CO rfl rfl k2 (by first|rfl|(simp;done)|(simp;omega)) (by first|decide|exact of_decide_eq_true rfl|(simp;done)|(simp;omega)) (Ad BD)) ?_;rintro _ h3 ⟨rfl,k3,x3,z3⟩;have k3:bh h3 h1.size 287 (nF BD):=k3;refine aS 1 [0,1,4,5,6,12,21] rfl ?_;refine aY func172 1 [0,1,4,5,6,12,21,31] rfl ?_;refine aG rfl rfl (fun _=>?_) (fun hc=>absurd hc (by simp));refine bp func172 1 rfl ?_;refine xo rfl (aq (vs:=[_,_]) func189 rfl H.Kl rfl (ah.br (zI k3 s))) ?_;rintro _ h4 ⟨rfl,hh4⟩;refine aS 1 [0,1,4,5,6,12,21,31] rfl ?_;refine G.ret func172 rfl rfl ?_;have e13:aD h1 h3:=aD.only e2 x3 (Nat.le_refl _);exact⟨_,rfl,by rw[hd];rfl,by rw[hh4];exact e1.trans e13⟩
theorem iO (s:By):ah Tryz.prog 144 #[.string (bs s)] h (cT fun r h'=>r=packed [.string (bs (dG s)),.bool (fG s)]/\aD h h'):=by
 have q1:=bu s;have q2:=bu (dG s);refine ah.of func144 rfl rfl ?_;refine aY func144 2 [0,2,3] rfl ?_;refine bp func144 1 rfl ?_;refine xo rfl (aq (vs:=[_,_]) func172 rfl H.Ko rfl (ah.br (BA s))) ?_;rintro _ h1 ⟨rfl,e1⟩;refine aS 1 [0,2,3,4] rfl ?_;refine bp func144 2 rfl ?_;refine xp rfl (aj.bI underlying9 rfl) ?_;refine ct 1 rfl rfl (aj.bI underlying9 rfl) ?_;refine aS 3 [0,2,3,4] rfl ?_;refine G.ret func144 rfl rfl ?_;exact⟨_,rfl,by unfold fG;rw[q1,q2];simp,e1⟩
def uU (s:By):Bool:=match s with| []=>false|c::_=>decide (c=46)
theorem yU (s:By):ah Tryz.prog 145 #[.string (bs s),.string (bs [46])] h (cT fun r h'=>r=packed [.string (bs (if uU s then s.drop 1 else s)),.bool (uU s)]/\h'=h):=by
 have k:ah Tryz.prog 145 #[.string (bs s),.string (bs [46])] h _:=ah.C7 fun w=>Tryz.strings_CutPrefix (bs s) (bs [46]) w
 refine k.ret fun v h' ⟨h1,h2⟩=>⟨?_,h2⟩
 rw[h1]
 have e:Lib.hasPrefix (bs s).data.toList (bs [46]).data.toList=uU s:=by
  rw[gK,gK];unfold Lib.hasPrefix uU;cases s with
  |nil=>rfl
  |cons c r=>simp only[List.isPrefixOf,Bool.and_true];rw[Bool.eq_iff_iff];simp only[beq_iff_eq,decide_eq_true_iff];exact eq_comm
 rw[e];unfold Lib.trimPrefix;rw[e,gK,gK];rfl
def rK (s:By) (a b:UInt8):Bool:=match s with| []=>false|c::_=>decide (c=a) ||decide (c=b)
theorem Gn (s:By) (ok:Bool):qI s ok=if (ok && rK s 101 69)=true then (if rK (s.drop 1) 43 45=true then fG ((s.drop 1).drop 1) && decide (dG ((s.drop 1).drop 1)=[]) else fG (s.drop 1) && decide (dG (s.drop 1)=[])) else (ok && decide (s=[])):=by
 cases s with
 |nil=>simp[qI,rK]
 |cons c r =>
  unfold qI rK;simp only[Bool.and_eq_true,Bool.or_eq_true,decide_eq_true_eq,List.drop_succ_cons,List.drop_zero]
  by_cases h:ok=true/\(c=101\/c=69)
  · rw[if_pos h,if_pos h];cases r with
    |nil=>rfl
    |cons d r=>simp only[Bool.or_eq_true,decide_eq_true_eq,List.drop_succ_cons,List.drop_zero]
  · rw[if_neg h,if_neg h];simp
theorem FC (s:By):Hs s=if (fG s && uU (dG s))=true then qI (dG ((dG s).drop 1)) (fG ((dG s).drop 1)) else qI (dG s) (fG s):=by
 unfold Hs;cases hd:dG s with
 |nil=>simp[uU,qI]
 |cons c r =>
  simp only[uU,Bool.and_eq_true,decide_eq_true_eq,List.drop_succ_cons,List.drop_zero]
theorem ne_nil (h:¬bs s=(⟨#[]⟩:ByteArray)):∃c r,s=c::r:=by
 cases s with
 |nil=>exact absurd rfl h
 |cons c r=>exact⟨c,r,rfl⟩
theorem eq_nil (h:bs s=(⟨#[]⟩:ByteArray)):s=[]:=eK (m:=[]) h
theorem lZ (c:UInt8) (n:UInt8):decide ((c.toNat:Int)=(n.toNat:Int))=decide (c=n):=Io c n
theorem vW (s:By):ah Tryz.prog 108 #[.string (bs s)] h (cT fun r h'=>r= .bool (Hs s)/\aD h h'):=by
 rw[FC];refine ah.of func108 rfl rfl ?_;refine aY func108 1 [0,2] rfl ?_;refine bp func108 1 rfl ?_;refine xo rfl (aq (vs:=[_]) func144 rfl H.Da rfl (ah.br (iO s))) ?_;rintro _ h1 ⟨rfl,e1⟩;refine aS 5 [0,2,3] rfl ?_;refine av rfl ?_;refine bp func108 1 rfl ?_;refine xo rfl (aq (vs:=[_,_]) func145 rfl H.Kt rfl (ah.br (yU (dG s)))) ?_;rintro _ h2 ⟨rfl,hh2⟩;subst hh2;refine aS 5 [0,2,3,4,5] rfl ?_;refine av rfl ?_;refine G.bE [(19,.bool (fG s && uU (dG s)))] [(0,_),(2,_),(3,_),(4,_),(5,_)] ⟨rfl,rfl,rfl,rfl,rfl,trivial⟩ func108 rfl ?_ ?_
 · refine bf 2 rfl ?_;refine aN (d:=17) rfl (fun a=>?_) (fun a=>?_)
   · refine bf 2 rfl ?_;refine aE rfl ?_;exact⟨rfl,aF rfl (by rw[a];rfl),rfl,rfl,rfl,rfl,rfl,trivial⟩
   · refine bf 2 rfl ?_;refine aE rfl ?_;exact⟨rfl,aF rfl (by rw[a];rfl),rfl,rfl,rfl,rfl,rfl,trivial⟩
 · have fin:∀(s1:By) (ok1:Bool) (h':az) (ρ':Env),Sub [(0,.string (bs s1)),(3,.bool ok1)] ρ'->aD h h'->(if (fG s && uU (dG s))=true then qI (dG ((dG s).drop 1)) (fG ((dG s).drop 1)) else qI (dG s) (fG s))=qI s1 ok1->G Tryz.prog 108 f108 [.code [1,1,1]] ρ' h' (cT fun r h'=>r= .bool (if (fG s && uU (dG s))=true then qI (dG ((dG s).drop 1)) (fG ((dG s).drop 1)) else qI (dG s) (fG s))/\aD h h'):=by
    rintro s1 ok1 h3 ρ' hsub e3 hnum;rw[hnum,Gn];have hbz:=bu s1;refine G.sub (ρ':=[(0,.string (bs s1)),(3,.bool ok1)]) hsub ?_;refine av rfl ?_;refine av rfl ?_;refine G.bE [(39,.bool (ok1 && rK s1 101 69))] [(0,_),(3,_)] ⟨rfl,rfl,trivial⟩ func108 rfl ?_ ?_
    · refine bf 2 rfl ?_;refine aN (d:=26) rfl (fun a=>?_) (fun a=>?_)
      · rw[a,Bool.true_and];refine ct 1 rfl rfl (aj.qA rfl rfl) ?_;refine bf 2 rfl ?_;refine aN (d:=30) rfl (fun b=>?_) (fun b=>?_)
        · obtain⟨c,r,rfl⟩:=ne_nil (s:=s1) (by simpa using b);refine ct 1 rfl rfl (aj.dw underlying9 rfl rfl 0 rfl (gP (l:=c::r) rfl)) ?_;refine bf 2 rfl ?_;refine aN (d:=34) rfl (fun d=>?_) (fun d=>?_)
          · refine bf 5 rfl ?_;refine aE rfl ?_;exact⟨rfl,aF rfl (by show _=(decide (c=101) ||decide (c=69));rw[<-lZ c 101,<-lZ c 69,show (((101:UInt8).toNat:Nat):Int)=101 from rfl,d];rfl),rfl,rfl,trivial⟩
          · refine ct 1 rfl rfl (aj.dw underlying9 rfl rfl 0 rfl (gP (l:=c::r) rfl)) ?_;refine bf 3 rfl ?_;refine aE rfl ?_;exact⟨rfl,aF rfl (by show _=(decide (c=101) ||decide (c=69));rw[<-lZ c 101,<-lZ c 69,show (((101:UInt8).toNat:Nat):Int)=101 from rfl,d];rfl),rfl,rfl,trivial⟩
        · have hb:s1=[]:=eq_nil (by simpa using b);refine bf 9 rfl ?_;refine aE rfl ?_;exact⟨rfl,aF rfl (by rw[hb];rfl),rfl,rfl,trivial⟩
      · rw[a,Bool.false_and];refine bf 13 rfl ?_;refine aE rfl ?_;exact⟨rfl,aF rfl (rfl),rfl,rfl,trivial⟩
    · refine aG rfl rfl (fun hq=>?_) (fun hq=>?_)
      · rw[if_pos hq]
        have hne:1<=s1.length:=by
         cases s1 with
         |nil=>simp[rK] at hq
         |cons c r=>simp
        refine bp func108 1 rfl ?_;refine xp rfl (aj.gU underlying9 rfl rfl 1 rfl (by omega)) ?_;rw[ny];have hbz2:=bu (s1.drop 1);refine aS 1 [0,3,39] rfl ?_;refine av rfl ?_;refine av rfl ?_;refine G.bE [(53,.bool (rK (s1.drop 1) 43 45))] [(0,_),(3,_),(39,_)] ⟨rfl,rfl,rfl,trivial⟩ func108 rfl ?_ ?_
        · refine ct 1 rfl rfl (aj.qA rfl rfl) ?_;refine bf 1 rfl ?_;refine aN (d:=44) rfl (fun b=>?_) (fun b=>?_)
          · obtain⟨c,r,hcr⟩:=ne_nil (s:=s1.drop 1) (by simpa using b);rw[hcr];refine ct 1 rfl rfl (aj.dw underlying9 rfl rfl 0 rfl (gP (l:=c::r) rfl)) ?_;refine bf 2 rfl ?_;refine aN (d:=48) rfl (fun d=>?_) (fun d=>?_)
            · refine bf 5 rfl ?_;refine aE rfl ?_;exact⟨rfl,aF rfl (by show _=(decide (c=43) ||decide (c=45));rw[<-lZ c 43,<-lZ c 45,show (((43:UInt8).toNat:Nat):Int)=43 from rfl,d];rfl),rfl,rfl,rfl,trivial⟩
            · refine ct 1 rfl rfl (aj.dw underlying9 rfl rfl 0 rfl (gP (l:=c::r) rfl)) ?_;refine bf 3 rfl ?_;refine aE rfl ?_;exact⟨rfl,aF rfl (by show _=(decide (c=43) ||decide (c=45));rw[<-lZ c 43,<-lZ c 45,show (((43:UInt8).toNat:Nat):Int)=43 from rfl,d];rfl),rfl,rfl,rfl,trivial⟩
          · have hb:s1.drop 1=[]:=eq_nil (by simpa using b);refine bf 9 rfl ?_;refine aE rfl ?_;exact⟨rfl,aF rfl (by rw[hb];rfl),rfl,rfl,rfl,trivial⟩
        · refine aG rfl rfl (fun hg=>?_) (fun hg=>?_)
          · rw[if_pos hg]
            have hne2:1<=(s1.drop 1).length:=by
             cases hs:s1.drop 1 with
             |nil=>rw[hs] at hg;simp[rK] at hg
             |cons c r=>simp
            refine G.cq func108 rfl ?_;refine ct 1 rfl rfl (aj.gU underlying9 rfl rfl 1 rfl (by omega)) ?_;rw[ny];refine aS 1 [0,3,39,53] rfl ?_;refine G.cq func108 rfl ?_;refine bf 1 rfl ?_;refine xo rfl (aq (vs:=[_]) func144 rfl H.Da rfl (ah.br (iO ((s1.drop 1).drop 1)))) ?_;rintro _ h4 ⟨rfl,e4⟩;refine aS 5 [0,3,39,53] rfl ?_;refine av rfl ?_;refine G.bE [(2,.bool (fG ((s1.drop 1).drop 1) && decide (dG ((s1.drop 1).drop 1)=[])))] [(0,_),(3,_),(39,_),(53,_)] ⟨rfl,rfl,rfl,rfl,trivial⟩ func108 rfl ?_ ?_
            · refine bf 2 rfl ?_;refine aN (d:=62) rfl (fun b=>?_) (fun b=>?_)
              · refine ct 1 rfl rfl (aj.dV rfl rfl) ?_;refine bf 2 rfl ?_;refine aE rfl ?_;exact⟨rfl,aF rfl (by rw[b];exact yY _),rfl,rfl,rfl,rfl,trivial⟩
              · refine bf 4 rfl ?_;refine aE rfl ?_;exact⟨rfl,aF rfl (by rw[b];rfl),rfl,rfl,rfl,rfl,trivial⟩
            · refine G.ret func108 rfl rfl ?_;exact⟨_,rfl,rfl,e3.trans e4⟩
          · rw[if_neg (by rw[hg];decide)];refine aB rfl ?_;refine G.cq func108 rfl ?_;refine bf 1 rfl ?_;refine xo rfl (aq (vs:=[_]) func144 rfl H.Da rfl (ah.br (iO (s1.drop 1)))) ?_;rintro _ h4 ⟨rfl,e4⟩;refine aS 5 [0,3,39,53] rfl ?_;refine av rfl ?_;refine G.bE [(2,.bool (fG (s1.drop 1) && decide (dG (s1.drop 1)=[])))] [(0,_),(3,_),(39,_),(53,_)] ⟨rfl,rfl,rfl,rfl,trivial⟩ func108 rfl ?_ ?_
            · refine bf 2 rfl ?_;refine aN (d:=62) rfl (fun b=>?_) (fun b=>?_)
              · refine ct 1 rfl rfl (aj.dV rfl rfl) ?_;refine bf 2 rfl ?_;refine aE rfl ?_;exact⟨rfl,aF rfl (by rw[b];exact yY _),rfl,rfl,rfl,rfl,trivial⟩
              · refine bf 4 rfl ?_;refine aE rfl ?_;exact⟨rfl,aF rfl (by rw[b];rfl),rfl,rfl,rfl,rfl,trivial⟩
            · refine G.ret func108 rfl rfl ?_;exact⟨_,rfl,rfl,e3.trans e4⟩
      · rw[if_neg (by rw[hq];decide)];refine aB rfl ?_;refine av rfl ?_;refine G.bE [(2,.bool (ok1 && decide (s1=[])))] [(0,_),(3,_),(39,_)] ⟨rfl,rfl,rfl,trivial⟩ func108 rfl ?_ ?_
        · refine bf 2 rfl ?_;refine aN (d:=62) rfl (fun b=>?_) (fun b=>?_)
          · refine ct 1 rfl rfl (aj.dV rfl rfl) ?_;refine bf 2 rfl ?_;refine aE rfl ?_;exact⟨rfl,aF rfl (by rw[b];exact yY _),rfl,rfl,rfl,trivial⟩
          · refine bf 4 rfl ?_;refine aE rfl ?_;exact⟨rfl,aF rfl (by rw[b];rfl),rfl,rfl,rfl,trivial⟩
        · refine G.ret func108 rfl rfl ?_;exact⟨_,rfl,rfl,e3⟩
   refine aG rfl rfl (fun hp=>?_) (fun hp=>?_)
   · have hp2:uU (dG s)=true:=by rw[Bool.and_eq_true] at hp;exact hp.2
     rw[if_pos hp2];refine G.cq func108 rfl ?_;refine bf 1 rfl ?_;refine xo rfl (aq (vs:=[_]) func144 rfl H.Da rfl (ah.br (iO ((dG s).drop 1)))) ?_;rintro _ h4 ⟨rfl,e4⟩;refine aS 5 [0,2,3,4,5,19] rfl ?_;exact fin _ _ _ _ ⟨rfl,rfl,trivial⟩ (e1.trans e4) (if_pos hp)
   · refine aB rfl ?_;exact fin _ _ _ _ ⟨rfl,rfl,trivial⟩ e1 (if_neg (by rw[hp];decide))
end
end Go.Proofs.YtmehdcdbeafljaaGreatDoor
namespace Go.Proofs.YtmehdcdbeafljaaGreatDoor
open Go
mutual
def Tr.wt:Tr->Nat
 |.mk _ t l=>2*t.length+20+G9 l
def G9:List Tr->Nat
 | []=>0
 |x::l=>x.wt+G9 l
end
theorem G8 {l:List Tr}{x:Tr}(h:x∈l):x.wt<=G9 l:=by
 induction l with
 |nil=>cases h
 |cons a l ih =>
  rw[G9]
  rcases List.mem_cons.1 h with rfl|h
  · omega
  · have:=ih h;omega
theorem ql {k:Int}{t:By}{l:List Tr}{x:Tr}(h:x∈l):x.wt+20<=(Tr.mk k t l).wt:=by
 rw[Tr.wt];have:=G8 h;omega
theorem CK (k:Int) (t:By) (l:List Tr):2*t.length+20<=(Tr.mk k t l).wt:=by rw[Tr.wt];omega
def si (l:List By):Nat:=(l.map List.length).sum
theorem uA:∀l:List By,(gJ l).length<=si l+2*l.length
 | []=>by simp[gJ]
 | [x]=>by simp[gJ,si]
 |x::y::l=>by
  have:=uA (y::l);rw[gJ];simp only[List.length_append,List.length_cons,List.length_nil,si,List.map_cons,List.sum_cons] at *;omega
theorem AT (l:List By):(l.getD 0 []).length+(l.getD 1 []).length+(l.getD 2 []).length<=si l:=by
 match l with
 | []=>simp
 | [a]=>simp[si]
 | [a,b]=>simp[si]
 |a::b::c::l=>simp[si];omega
theorem DU (c:UInt8):(fJ c).length<=2:=by unfold fJ;split<;>simp
theorem DT (s:By):(yf s).length<=2*s.length+2:=by
 unfold yf;simp only[List.length_cons,List.length_append,List.length_nil]
 have:(s.flatMap fJ).length<=2*s.length:=by
  induction s with
  |nil=>simp
  |cons c s ih=>rw[List.flatMap_cons,List.length_append,List.length_cons];have:=DU c;omega
 omega
theorem E8 (k:Int) (t:By) (l:List By):(tE k t l).length<=2*t.length+18+2*l.length+si l:=by
 have h1:=DT t;have h2:=AT l;have h3:=uA l;unfold tE rY
 repeat' split
 all_goals ((try simp only[List.length_append,List.length_cons,List.length_nil]);omega)
theorem GK (l:List By):(rY l).length<=18+si l:=by
 have h2:=AT l;unfold rY;simp only[List.length_append,List.length_cons,List.length_nil];omega
theorem kP:∀(l:List Tr) (s:Bool) (i:Nat),(gH s i l).length=l.length
 | [],_,_=>by rw[gH];rfl
 |_::l,s,i=>by rw[gH,List.length_cons,kP l];rfl
mutual
theorem iY:∀(x:Tr) (b:Bool),(bL b x).length+2<=x.wt
 |.mk k t l,b=>by
  have h1:=oY l (decide (k=6)) 0;have h2:=E8 k t (gH (decide (k=6)) 0 l);have h3:=GK (gH (decide (k=6)) 0 l);have h4:=kP l (decide (k=6)) 0;rw[bL,Tr.wt];split<;>omega
theorem oY:∀(l:List Tr) (s:Bool) (i:Nat),si (gH s i l)+2*l.length<=G9 l
 | [],_,_=>by rw[gH];simp[si,G9]
 |x::l,s,i=>by
  have h1:=iY x (s && decide (i=2));have h2:=oY l s (i+1);rw[gH,G9];simp only[si,List.map_cons,List.sum_cons,List.length_cons] at *;omega
end
def C5 (j:Nat) (c:UInt8):Bool:=isLet c ||(decide (j≠0) && jj c)
def Aw (s:By):Bool:=match s with| []=>false|c::r=>isLet c && r.all fun c=>isLet c ||jj c
theorem wT (word:By->Bool) (s:By):om word s=(Aw s && !word s):=by cases s<;>rfl
theorem wS (s:By):Aw s=true↔s≠[]/\∀j c,s[j]? =some c->C5 j c=true:=by
 cases s with
 |nil=>simp[Aw]
 |cons c r =>
  simp only[Aw,Bool.and_eq_true,List.all_eq_true];constructor
  · intro ⟨h1,h2⟩;refine⟨by simp,fun j d hd=>?_⟩;cases j with
    |zero=>simp at hd;subst hd;unfold C5;rw[h1];rfl
    |succ j =>
     have:=h2 d (List.mem_of_getElem? (by simpa using hd));unfold C5;simpa using this
  · intro ⟨_,h⟩;refine⟨by simpa [C5] using h 0 c rfl,fun d hd=>?_⟩;obtain⟨j,hj⟩:=List.getElem?_of_mem hd;simpa [C5] using h (j+1) d (by simpa using hj)
theorem FR (word:By->Bool){s:By}{j:Nat}{c:UInt8}(h:s[j]? =some c) (hc:C5 j c=false):om word s=false:=by
 rw[wT]
 have:¬Aw s=true:=fun q=>by
  have:=((wS s).1 q).2 j c h;rw[hc] at this;cases this
 rw[Bool.eq_false_iff.2 this];rfl
theorem D4 (word:By->Bool){s:By}(h0:s≠[]) (h:∀j c,s[j]? =some c->C5 j c=true):om word s= !word s:=by
 rw[wT,(wS s).2 ⟨h0,h⟩,Bool.true_and]
theorem D0 (word:By->Bool):om word []=false:=rfl
theorem Ef (c:UInt8):isLet c=decide ((97<=c.toNat/\c.toNat<=122)\/(65<=c.toNat/\c.toNat<=90)\/c.toNat=95):=by
 have k:∀n:Fin 256,isLet (UInt8.ofFin n)=decide ((97<=(UInt8.ofFin n).toNat/\(UInt8.ofFin n).toNat<=122)\/(65<=(UInt8.ofFin n).toNat/\(UInt8.ofFin n).toNat<=90)\/(UInt8.ofFin n).toNat=95):=by unfold isLet;decide +kernel
 exact k c.toFin
theorem Eg (c:UInt8):jj c=decide (48<=c.toNat/\c.toNat<=57):=by
 have k:∀n:Fin 256,jj (UInt8.ofFin n)=decide (48<=(UInt8.ofFin n).toNat/\(UInt8.ofFin n).toNat<=57):=by unfold jj;decide +kernel
 exact k c.toFin
end Go.Proofs.YtmehdcdbeafljaaGreatDoor
namespace Go.Proofs.YtmehdcdbeafljaaGreatDoor
open Go.Proofs.Tryz
open Go Go.Lw
set_option maxRecDepth 20000
section
variable {h:az}{x:Tr}{O:Nat->Prop}{v:Value}{l:List Tr}{α:Type}
structure CI (h:az):Prop where
 lx:Bm h
 esc:nY h
 una:∃v,cellAt h ⟨2,0,none⟩=some v/\bS mK h (fun _=>False) v ES
 bin:∃v,cellAt h ⟨3,0,none⟩=some v/\bS mK h (fun _=>False) v GB
theorem CI.ay {h h':az}(k:CI h) (e:aD h h'):CI h':=by
 obtain⟨h1,h2,⟨v,h3,h4⟩,w,h5,h6⟩:=k;exact⟨h1.ay e,h2.ay e,⟨v,e.cell (fun k=>k) h3,h4.mv (Mv.ay e)⟩,⟨w,e.cell (fun k=>k) h5,h6.mv (Mv.ay e)⟩⟩
theorem vM (c:UInt8):ah Tryz.prog 146 #[.int .u8 (c.toNat:Nat)] h (cT fun r h'=>r= .bool (isLet c)/\h'=h):=by
 rw[Ef];refine ah.of func146 rfl rfl ?_;refine aY func146 1 [0,2] rfl ?_;refine av rfl ?_;refine G.bE [(2,.bool (decide ((97<=c.toNat/\c.toNat<=122)\/(65<=c.toNat/\c.toNat<=90)\/c.toNat=95)))] [(0,_)] ⟨rfl,trivial⟩ func146 rfl ?_ ?_
 · refine bf 3 rfl ?_;refine aN (d:=5) rfl (fun a=>?_) (fun a=>?_)
   · have a:=of_decide_eq_true a;refine bf 4 rfl ?_;refine aN (d:=9) rfl (fun b=>?_) (fun b=>?_)
     · have b:=of_decide_eq_true b;refine bf 12 rfl ?_;refine aE rfl ?_;exact⟨rfl,aF rfl (by rw[decide_eq_true (by omega)]),rfl,trivial⟩
     · have b:=of_decide_eq_false b;refine bf 3 rfl ?_;refine aN (d:=12) rfl (fun d=>?_) (fun d=>?_)
       · have d:=of_decide_eq_true d;refine bf 5 rfl ?_;refine aN (d:=17) rfl (fun e=>?_) (fun e=>?_)
         · have e:=of_decide_eq_true e;refine bf 4 rfl ?_;refine aE rfl ?_;exact⟨rfl,aF rfl (by rw[decide_eq_true (by omega)]),rfl,trivial⟩
         · have e:=of_decide_eq_false e;refine bf 4 rfl ?_;refine aE rfl ?_;exact⟨rfl,aF rfl (by rw[decide_eq_decide];omega),rfl,trivial⟩
       · have d:=of_decide_eq_false d;refine bf 9 rfl ?_;refine aE rfl ?_;exact⟨rfl,aF rfl (by rw[decide_eq_decide];omega),rfl,trivial⟩
   · have a:=of_decide_eq_false a;refine bf 7 rfl ?_;refine aN (d:=12) rfl (fun d=>?_) (fun d=>?_)
     · have d:=of_decide_eq_true d;refine bf 5 rfl ?_;refine aN (d:=17) rfl (fun e=>?_) (fun e=>?_)
       · have e:=of_decide_eq_true e;refine bf 4 rfl ?_;refine aE rfl ?_;exact⟨rfl,aF rfl (by rw[decide_eq_true (by omega)]),rfl,trivial⟩
       · have e:=of_decide_eq_false e;refine bf 4 rfl ?_;refine aE rfl ?_;exact⟨rfl,aF rfl (by rw[decide_eq_decide];omega),rfl,trivial⟩
     · have d:=of_decide_eq_false d;refine bf 9 rfl ?_;refine aE rfl ?_;exact⟨rfl,aF rfl (by rw[decide_eq_decide];omega),rfl,trivial⟩
 · refine G.ret func146 rfl rfl ?_;exact⟨_,rfl,rfl,rfl⟩
theorem xM (c:UInt8):ah Tryz.prog 147 #[.int .u8 (c.toNat:Nat)] h (cT fun r h'=>r= .bool (jj c)/\h'=h):=by
 rw[Eg];refine ah.of func147 rfl rfl ?_;refine aY func147 1 [0,2] rfl ?_;refine av rfl ?_;refine G.bE [(2,.bool (decide (48<=c.toNat/\c.toNat<=57)))] [(0,_)] ⟨rfl,trivial⟩ func147 rfl ?_ ?_
 · refine bf 3 rfl ?_;refine aN (d:=5) rfl (fun a=>?_) (fun a=>?_)
   · have a:=of_decide_eq_true a;refine bf 4 rfl ?_;refine aE rfl ?_;exact⟨rfl,aF rfl (by rw[decide_eq_decide];omega),rfl,trivial⟩
   · have a:=of_decide_eq_false a;refine bf 4 rfl ?_;refine aE rfl ?_;exact⟨rfl,aF rfl (by rw[decide_eq_false (by omega)]),rfl,trivial⟩
 · refine G.ret func147 rfl rfl ?_;exact⟨_,rfl,rfl,rfl⟩
theorem mC (hg:Bm h) (s:By) (hs:s.length<=1000000):ah Tryz.prog 109 #[.string (bs s)] h (cT fun r h'=>r= .bool (om de s)/\h'=h):=by
 have hbz:=bu s;refine ah.of func109 rfl rfl ?_;refine aY func109 1 [0,2] rfl ?_;refine av rfl ?_;refine bp func109 1 rfl ?_;refine xp rfl (aj.bI underlying9 rfl) ?_;refine aS 1 [0,2,5,6] rfl ?_;refine G.block rfl rfl ?_;refine bD (σ:=Nat) (fun i=>[(0,.string (bs s)),(5,.int .i64 ((bs s).size:Nat)),(6,.int .i64 (i:Nat))]) (fun i g=>g=h/\i<=s.length/\∀j c,j<i->s[j]? =some c->C5 j c=true) (fun i=>s.length-i) (0) rfl ⟨rfl,rfl,rfl,trivial⟩ ⟨rfl,Nat.zero_le _,fun j c q=>by omega⟩ ?_;rintro i g ⟨rfl,hi,hin⟩ ih;refine aY func109 1 [0,5,6,7] rfl ?_;refine av rfl ?_;refine aO rfl rfl (fun hlt=>?_) (fun hlt=>?_)
 · have hil:i<s.length:=by omega
   obtain⟨c,hc⟩:∃c,s[i]? =some c:=⟨_,List.getElem?_eq_getElem hil⟩
   refine aB rfl ?_;refine av rfl ?_;refine G.block rfl rfl ?_;refine aY func109 2 [0,3,5,6,7] rfl ?_;refine av rfl ?_;refine G.bE [(24,.bool (!C5 i c))] [(0,_),(3,_),(5,_),(6,_),(7,_)] ⟨rfl,rfl,rfl,rfl,rfl,trivial⟩ func109 rfl ?_ ?_
   · refine ct 2 rfl rfl (aj.dw underlying9 rfl rfl i rfl (gP hc)) ?_;refine xo rfl (aq (vs:=[_]) func146 rfl H.Ks rfl (ah.br (vM c))) ?_;rintro _ g1 ⟨rfl,hg1⟩;subst hg1;refine bf 2 rfl ?_;refine aN (d:=14) rfl (fun a=>?_) (fun a=>?_)
     · have a:isLet c=false:=by simpa using a
       refine bf 3 rfl ?_;refine aN (d:=17) rfl (fun z=>?_) (fun z=>?_)
       · have z:=of_decide_eq_true z;refine bf 7 rfl ?_;refine aE rfl ?_;exact⟨rfl,aF rfl (by unfold C5;rw[a,decide_eq_false (by omega)];rfl),rfl,rfl,rfl,rfl,rfl,trivial⟩
       · have z:=of_decide_eq_false z;refine ct 2 rfl rfl (aj.dw underlying9 rfl rfl i rfl (gP hc)) ?_;refine xo rfl (aq (vs:=[_]) func147 rfl H.Kr rfl (ah.br (xM c))) ?_;rintro _ g1 ⟨rfl,hg1⟩;subst hg1;refine bf 3 rfl ?_;refine aE rfl ?_;exact⟨rfl,aF rfl (by unfold C5;rw[a,decide_eq_true (show i≠0 by omega)];rfl),rfl,rfl,rfl,rfl,rfl,trivial⟩
     · have a:isLet c=true:=by simpa using a
       refine bf 10 rfl ?_;refine aE rfl ?_;exact⟨rfl,aF rfl (by unfold C5;rw[a];rfl),rfl,rfl,rfl,rfl,rfl,trivial⟩
   · refine aG rfl rfl (fun hb=>?_) (fun hb=>?_)
     · have hb:C5 i c=false:=by simpa using hb
       refine aY func109 1 [0,2,3,5,6,7,24] rfl ?_;refine G.ret func109 rfl rfl ?_;exact⟨_,rfl,by rw[FR de hc hb];rfl,rfl⟩
     · have hb:C5 i c=true:=by simpa using hb
       refine aB rfl ?_;refine G.aQ ?_;refine G.cq func109 rfl ?_;refine xp rfl (aj.bC rfl rfl ⟨by omega,by omega⟩) ?_;refine aS 1 [0,3,5,6,7,24] rfl ?_;exact ih (i+1) _ _ ⟨rfl,rfl,rfl,trivial⟩ ⟨rfl,hil,fun j d hj hd=>(Nat.lt_succ_iff_lt_or_eq.1 hj).elim (fun q=>hin j d q hd) (fun q=>by subst q;rw[hc] at hd;cases hd;exact hb)⟩ (by omega)
 · refine bw rfl rfl ?_;refine av rfl ?_;refine G.bE [(2,.bool (om de s))] [(0,_),(5,_),(6,_),(7,_)] ⟨rfl,rfl,rfl,rfl,trivial⟩ func109 rfl ?_ ?_
   · refine ct 1 rfl rfl (aj.qA rfl rfl) ?_;refine bf 1 rfl ?_;refine aN (d:=28) rfl (fun a=>?_) (fun a=>?_)
     · have h0:s≠[]:=fun q=>by rw[q] at a;exact of_decide_eq_true a rfl
       refine bf 1 rfl ?_;refine xo rfl (aq (vs:=[_]) func67 rfl H.J8 rfl (ah.br (sX hg s hs))) ?_;rintro _ g1 ⟨rfl,hg1⟩;subst hg1;refine bf 3 rfl ?_;refine aE rfl ?_;exact⟨rfl,aF rfl (by rw[D4 de h0 (fun j c hj=>hin j c (by have:=(List.getElem?_eq_some_iff.1 hj).1;omega) hj)]),rfl,rfl,rfl,rfl,trivial⟩
     · have h0:s=[]:=by simpa using eq_nil (s:=s) (by simpa using a)
       refine bf 5 rfl ?_;refine aE rfl ?_;exact⟨rfl,aF rfl (by rw[h0,D0]),rfl,rfl,rfl,rfl,trivial⟩
   · refine G.ret func109 rfl rfl ?_;exact⟨_,rfl,rfl,rfl⟩
theorem Cd (k:Int):ah Tryz.prog 107 #[.int .i64 k] h (cT fun r h'=>r=packed [.int .i64 ((fe k).1:Nat),.int .i64 ((fe k).2:Nat)]/\h'=h):=by
 refine ah.of func107 rfl rfl ?_;refine aY func107 2 [0,2,3] rfl ?_;refine av rfl ?_;refine aY func107 1 [0,2,3,4] rfl ?_;refine G.block rfl rfl ?_;refine av rfl ?_;refine aY func107 2 [0,2,3,4,5] rfl ?_;refine aO rfl rfl (fun c4=>?_) (fun c4=>?_)
 · refine aB rfl ?_;refine aG rfl rfl (fun _=>?_) (fun hc=>absurd hc (by simp[c4]));refine aY func107 2 [0,2,3,4,5] rfl ?_;refine G.ret func107 rfl rfl ?_;exact⟨_,rfl,by unfold fe;rw[if_pos (.inl c4)];rfl,rfl⟩
 · refine G.cq func107 rfl ?_;refine aS 2 [0,2,3,4,5] rfl ?_;refine aO rfl rfl (fun c8=>?_) (fun c8=>?_)
   · refine aY func107 2 [0,2,3,4,5] rfl ?_;refine G.ret func107 rfl rfl ?_;exact⟨_,rfl,by unfold fe;rw[if_pos (.inr c8)];rfl,rfl⟩
   · refine av rfl ?_;refine aY func107 2 [0,2,3,4,5,8] rfl ?_;refine aO rfl rfl (fun c5=>?_) (fun c5=>?_)
     · refine aB rfl ?_;refine aG rfl rfl (fun _=>?_) (fun hc=>absurd hc (by simp[c5]));refine aY func107 2 [0,2,3,4,5,8] rfl ?_;refine G.ret func107 rfl rfl ?_;exact⟨_,rfl,by unfold fe;rw[if_neg (by omega),if_pos (.inl c5)];rfl,rfl⟩
     · refine G.cq func107 rfl ?_;refine aS 2 [0,2,3,4,5,8] rfl ?_;refine aO rfl rfl (fun c9=>?_) (fun c9=>?_)
       · refine aY func107 2 [0,2,3,4,5,8] rfl ?_;refine G.ret func107 rfl rfl ?_;exact⟨_,rfl,by unfold fe;rw[if_neg (by omega),if_pos (.inr c9)];rfl,rfl⟩
       · refine aY func107 2 [0,2,3,4,5,8,11] rfl ?_;refine aO rfl rfl (fun c6=>?_) (fun c6=>?_)
         · refine aY func107 2 [0,2,3,4,5,8,11] rfl ?_;refine G.ret func107 rfl rfl ?_;exact⟨_,rfl,by unfold fe;rw[if_neg (by omega),if_neg (by omega),if_pos c6];rfl,rfl⟩
         · refine aY func107 2 [0,2,3,4,5,8,11,13] rfl ?_;refine aO rfl rfl (fun c7=>?_) (fun c7=>?_)
           · refine aY func107 2 [0,2,3,4,5,8,11,13] rfl ?_;refine G.ret func107 rfl rfl ?_;exact⟨_,rfl,by unfold fe;rw[if_neg (by omega),if_neg (by omega),if_neg c6,if_pos c7];rfl,rfl⟩
           · refine aY func107 2 [0,2,3,4,5,8,11,13,15] rfl ?_;refine aO rfl rfl (fun c10=>?_) (fun c10=>?_)
             · refine aY func107 2 [0,2,3,4,5,8,11,13,15] rfl ?_;refine G.ret func107 rfl rfl ?_;exact⟨_,rfl,by unfold fe;rw[if_neg (by omega),if_neg (by omega),if_neg c6,if_neg c7,if_pos c10];rfl,rfl⟩
             · refine aB rfl ?_;refine G.aQ ?_;refine aY func107 2 [0,2,3,4,5,8,11,13,15] rfl ?_;refine G.ret func107 rfl rfl ?_;exact⟨_,rfl,by unfold fe;rw[if_neg (by omega),if_neg (by omega),if_neg c6,if_neg c7,if_neg c10];rfl,rfl⟩
def bounds (k:Int) (n:Nat):Bool:=decide ((0<=k/\k<=10)/\(fe k).1<=n/\n<=(fe k).2)
theorem tF (word:By->Bool) (k:Int) (t:By) (n:Nat):og word k t n=(bounds k n && iV word k t):=by
 unfold og bounds;rw[Bool.eq_iff_iff];simp only[Bool.and_eq_true,decide_eq_true_eq];constructor
 · intro ⟨a,b,c,d,e⟩;exact⟨⟨⟨c,d⟩,a,b⟩,e⟩
 · intro ⟨⟨⟨c,d⟩,a,b⟩,e⟩;exact⟨a,b,c,d,e⟩
abbrev sV (k:Int) (t:By) (a:Option Addr) (n c:Nat):List Value:=[.int .i64 k,.string (bs t),.slice a n c]
theorem Aa (hg:CI h) (k:Int) (t:By) (a:Option Addr) (n c:Nat) (ht:t.length<=1000000) :
 ah Tryz.prog 61 #[.agg #[.int .i64 k,.string (bs t),.slice a n c]] h (cT fun r h'=>r= .bool (og de k t n)/\aD h h'):=by
 rw[tF];have hbz:=bu t;refine ah.of func61 rfl rfl ?_;refine xr func61 rfl ?_;refine xo rfl (aA.gu rfl) ?_;rintro _ h1 ⟨rfl,k1,e1,z1⟩;have k1:bh h1 h.size 25 (sV k t a n c):=k1;refine aS 1 [0,1,2] rfl ?_;refine xr func61 rfl ?_;refine xp rfl (af (off:=0) underlying25 rfl rfl H.bW rfl) ?_;refine xp rfl (ai H.cM rfl (k1.cell (i:=0) rfl)) ?_;refine xo rfl (aq (vs:=[_]) func107 rfl H.KC rfl (ah.br (Cd k))) ?_;rintro _ h2 ⟨rfl,hh2⟩;subst hh2;refine aS 5 [0,1,2,3,4] rfl ?_;refine av rfl ?_;refine av rfl ?_;refine G.bE [(32,.bool (!bounds k n))] [(0,_),(1,_),(2,_),(3,_),(4,_)] ⟨rfl,rfl,rfl,rfl,rfl,trivial⟩ func61 rfl ?_ ?_
 · refine xp rfl (af (off:=0) underlying25 rfl rfl H.bW rfl) ?_;refine xp rfl (ai H.cM rfl (k1.cell (i:=0) rfl)) ?_;refine bf 2 rfl ?_;refine aN (d:=14) rfl (fun a=>?_) (fun a=>?_)
   · have a:=of_decide_eq_true a;refine bf 18 rfl ?_;refine aE rfl ?_;exact⟨rfl,aF rfl (by unfold bounds;rw[decide_eq_false (by omega)];rfl),rfl,rfl,rfl,rfl,rfl,trivial⟩
   · have a:=of_decide_eq_false a;refine xp rfl (af (off:=0) underlying25 rfl rfl H.bW rfl) ?_;refine xp rfl (ai H.cM rfl (k1.cell (i:=0) rfl)) ?_;refine bf 3 rfl ?_;refine aN (d:=19) rfl (fun b=>?_) (fun b=>?_)
     · have b:=of_decide_eq_true b;refine bf 13 rfl ?_;refine aE rfl ?_;exact⟨rfl,aF rfl (by unfold bounds;rw[decide_eq_false (by omega)];rfl),rfl,rfl,rfl,rfl,rfl,trivial⟩
     · have b:=of_decide_eq_false b;refine xp rfl (af (off:=2) underlying25 rfl rfl H.fO rfl) ?_;refine xp rfl (ai H.lV rfl (k1.cell (i:=2) rfl)) ?_;refine xp rfl (aj.aK underlying23 rfl) ?_;refine bf 4 rfl ?_;refine aN (d:=26) rfl (fun d=>?_) (fun d=>?_)
       · have d:=of_decide_eq_true d;refine bf 6 rfl ?_;refine aE rfl ?_;exact⟨rfl,aF rfl (by unfold bounds;rw[decide_eq_false (by omega)];rfl),rfl,rfl,rfl,rfl,rfl,trivial⟩
       · have d:=of_decide_eq_false d;refine xp rfl (af (off:=2) underlying25 rfl rfl H.fO rfl) ?_;refine xp rfl (ai H.lV rfl (k1.cell (i:=2) rfl)) ?_;refine xp rfl (aj.aK underlying23 rfl) ?_;refine bf 3 rfl ?_;refine aE rfl ?_;exact⟨rfl,aF rfl (by unfold bounds;rw[<-decide_not,decide_eq_decide];omega),rfl,rfl,rfl,rfl,rfl,trivial⟩
 · refine aG rfl rfl (fun hb=>?_) (fun hb=>?_)
   · have hb:bounds k n=false:=by simpa using hb
     rw[hb];refine aY func61 1 [0,1,2,3,4,32] rfl ?_;refine G.ret func61 rfl rfl ?_;exact⟨_,rfl,rfl,e1⟩
   · have hb:bounds k n=true:=by simpa using hb
     rw[hb,Bool.true_and];refine aB rfl ?_;refine av rfl ?_;refine xr func61 rfl ?_;refine xp rfl (af (off:=0) underlying25 rfl rfl H.bW rfl) ?_;refine xp rfl (ai H.cM rfl (k1.cell (i:=0) rfl)) ?_;refine xd [0,1,2,3,4,32,34] rfl ?_;refine G.block rfl rfl ?_;refine aY func61 2 [0,1,2,3,4,32,34,35] rfl ?_;refine aO rfl rfl (fun c0=>?_) (fun c0=>?_)
     · refine xr func61 rfl ?_;refine xp rfl (af (off:=1) underlying25 rfl rfl H.fq rfl) ?_;refine xp rfl (ai H.fM rfl (k1.cell (i:=1) rfl)) ?_;refine xo rfl (aq (vs:=[_]) func108 rfl H.KB rfl (ah.br (vW t))) ?_;rintro _ h3 ⟨rfl,e3⟩;refine aS 1 [0,1,2,3,4,32,34,35] rfl ?_;refine G.ret func61 rfl rfl ?_;exact⟨_,rfl,by unfold iV;rw[if_pos c0];rfl,e1.trans e3⟩
     · refine aY func61 2 [0,1,2,3,4,32,34,35,40] rfl ?_;refine aO rfl rfl (fun c1=>?_) (fun c1=>?_)
       · refine xr func61 rfl ?_;refine xp rfl (af (off:=1) underlying25 rfl rfl H.fq rfl) ?_;refine xp rfl (ai H.fM rfl (k1.cell (i:=1) rfl)) ?_;refine xp rfl (aj.bI underlying9 rfl) ?_;refine aS 2 [0,1,2,3,4,32,34,35,40] rfl ?_;refine G.ret func61 rfl rfl ?_;exact⟨_,rfl,by unfold iV;rw[if_neg c0,if_pos c1];show Value.bool _=_;rw[hbz];simp only[Value.bool.injEq,decide_eq_decide];omega,e1⟩
       · refine aY func61 2 [0,1,2,3,4,32,34,35,40,46] rfl ?_;refine aO rfl rfl (fun c2=>?_) (fun c2=>?_)
         · refine av rfl ?_;refine G.bE [(2,.bool (decide (t=lJ) ||decide (t=l7)))] [(0,_),(1,_),(3,_),(4,_),(32,_),(34,_),(35,_),(40,_),(46,_)] ⟨rfl,rfl,rfl,rfl,rfl,rfl,rfl,rfl,rfl,trivial⟩ func61 rfl ?_ ?_
           · refine xp rfl (af (off:=1) underlying25 rfl rfl H.fq rfl) ?_;refine xp rfl (ai H.fM rfl (k1.cell (i:=1) rfl)) ?_;refine xp rfl (aj.dV rfl rfl) ?_;refine bf 1 rfl ?_;refine aN (d:=51) rfl (fun g=>?_) (fun g=>?_)
             · have g:t=lJ:=eK (m:=lJ) (of_decide_eq_true g);refine bf 5 rfl ?_;refine aE rfl ?_;exact⟨rfl,aF rfl (by rw[decide_eq_true g];rfl),rfl,rfl,rfl,rfl,rfl,rfl,rfl,rfl,rfl,trivial⟩
             · have g:¬t=lJ:=fun q=>of_decide_eq_false g (by rw[q];rfl)
               refine xp rfl (af (off:=1) underlying25 rfl rfl H.fq rfl) ?_;refine xp rfl (ai H.fM rfl (k1.cell (i:=1) rfl)) ?_;refine xp rfl (aj.dV rfl rfl) ?_;refine bf 2 rfl ?_;refine aE rfl ?_;exact⟨rfl,aF rfl (by rw[decide_eq_false g,Bool.false_or];exact IU t l7),rfl,rfl,rfl,rfl,rfl,rfl,rfl,rfl,rfl,trivial⟩
           · refine G.ret func61 rfl rfl ?_;exact⟨_,rfl,by unfold iV;rw[if_neg c0,if_neg c1,if_pos c2];rfl,e1⟩
         · refine av rfl ?_;refine aY func61 2 [0,1,2,3,4,32,34,35,40,46,56] rfl ?_;refine aO rfl rfl (fun c3=>?_) (fun c3=>?_)
           · refine aB rfl ?_;refine aG rfl rfl (fun _=>?_) (fun hc=>absurd hc (by simp[c3]));refine xr func61 rfl ?_;refine xp rfl (af (off:=1) underlying25 rfl rfl H.fq rfl) ?_;refine xp rfl (ai H.fM rfl (k1.cell (i:=1) rfl)) ?_;refine xo rfl (aq (vs:=[_]) func109 rfl H.FM rfl (ah.br (mC (hg.ay e1).lx t ht))) ?_;rintro _ h3 ⟨rfl,hh3⟩;refine aS 1 [0,1,2,3,4,32,34,35,40,46,56] rfl ?_;refine G.ret func61 rfl rfl ?_;exact⟨_,rfl,by unfold iV;rw[if_neg c0,if_neg c1,if_neg c2,if_pos (.inl c3)];rfl,by rw[hh3];exact e1⟩
           · refine aY func61 2 [0,1,2,3,4,32,34,35,40,46,56] rfl ?_;refine aO rfl rfl (fun c7=>?_) (fun c7=>?_)
             · refine aB rfl ?_;refine aG rfl rfl (fun _=>?_) (fun hc=>absurd hc (by simp[c7]));refine xr func61 rfl ?_;refine xp rfl (af (off:=1) underlying25 rfl rfl H.fq rfl) ?_;refine xp rfl (ai H.fM rfl (k1.cell (i:=1) rfl)) ?_;refine xo rfl (aq (vs:=[_]) func109 rfl H.FM rfl (ah.br (mC (hg.ay e1).lx t ht))) ?_;rintro _ h3 ⟨rfl,hh3⟩;refine aS 1 [0,1,2,3,4,32,34,35,40,46,56] rfl ?_;refine G.ret func61 rfl rfl ?_;exact⟨_,rfl,by unfold iV;rw[if_neg c0,if_neg c1,if_neg c2,if_pos (.inr (.inl c7))];rfl,by rw[hh3];exact e1⟩
             · refine G.cq func61 rfl ?_;refine aS 2 [0,1,2,3,4,32,34,35,40,46,56] rfl ?_;refine aO rfl rfl (fun c8=>?_) (fun c8=>?_)
               · refine xr func61 rfl ?_;refine xp rfl (af (off:=1) underlying25 rfl rfl H.fq rfl) ?_;refine xp rfl (ai H.fM rfl (k1.cell (i:=1) rfl)) ?_;refine xo rfl (aq (vs:=[_]) func109 rfl H.FM rfl (ah.br (mC (hg.ay e1).lx t ht))) ?_;rintro _ h3 ⟨rfl,hh3⟩;refine aS 1 [0,1,2,3,4,32,34,35,40,46,56] rfl ?_;refine G.ret func61 rfl rfl ?_;exact⟨_,rfl,by unfold iV;rw[if_neg c0,if_neg c1,if_neg c2,if_pos (.inr (.inr c8))];rfl,by rw[hh3];exact e1⟩
               · refine aY func61 2 [0,1,2,3,4,32,34,35,40,46,56,63] rfl ?_;refine aO rfl rfl (fun c4=>?_) (fun c4=>?_)
                 · obtain⟨uv,hu1,hu2⟩:=(hg.ay e1).una;refine xr func61 rfl ?_;refine xp rfl (ai H.HW rfl hu1) ?_;refine xp rfl (af (off:=1) underlying25 rfl rfl H.fq rfl) ?_;refine xp rfl (ai H.fM rfl (k1.cell (i:=1) rfl)) ?_;refine xo rfl (aq (vs:=[_,_]) func90 rfl H.Jl rfl (ah.br (oA hu2 t))) ?_;rintro _ h3 ⟨rfl,hh3⟩;refine aS 1 [0,1,2,3,4,32,34,35,40,46,56,63] rfl ?_;refine G.ret func61 rfl rfl ?_;exact⟨_,rfl,by unfold iV;rw[if_neg c0,if_neg c1,if_neg c2,if_neg (by omega),if_pos c4];rfl,by rw[hh3];exact e1⟩
                 · refine aY func61 2 [0,1,2,3,4,32,34,35,40,46,56,63,69] rfl ?_;refine aO rfl rfl (fun c5=>?_) (fun c5=>?_)
                   · obtain⟨uv,hu1,hu2⟩:=(hg.ay e1).bin;refine xr func61 rfl ?_;refine xp rfl (ai H.HW rfl hu1) ?_;refine xp rfl (af (off:=1) underlying25 rfl rfl H.fq rfl) ?_;refine xp rfl (ai H.fM rfl (k1.cell (i:=1) rfl)) ?_;refine xo rfl (aq (vs:=[_,_]) func90 rfl H.Jl rfl (ah.br (oA hu2 t))) ?_;rintro _ h3 ⟨rfl,hh3⟩;refine aS 1 [0,1,2,3,4,32,34,35,40,46,56,63,69] rfl ?_;refine G.ret func61 rfl rfl ?_;exact⟨_,rfl,by unfold iV;rw[if_neg c0,if_neg c1,if_neg c2,if_neg (by omega),if_neg c4,if_pos c5];rfl,by rw[hh3];exact e1⟩
                   · refine aB rfl ?_;refine G.aQ ?_;refine xr func61 rfl ?_;refine xp rfl (af (off:=1) underlying25 rfl rfl H.fq rfl) ?_;refine xp rfl (ai H.fM rfl (k1.cell (i:=1) rfl)) ?_;refine xp rfl (aj.dV rfl rfl) ?_;refine aS 1 [0,1,2,3,4,32,34,35,40,46,56,63,69] rfl ?_;refine G.ret func61 rfl rfl ?_;exact⟨_,rfl,by unfold iV;rw[if_neg c0,if_neg c1,if_neg c2,if_neg (by omega),if_neg c4,if_neg c5];show Value.bool _=_;rw[<-yY],e1⟩
def alone (x:Tr):Bool:=decide (x.kind≠7) ||decide (x.kids.length=2)
def Gc (k:Int) (i:Nat) (x:Tr):Bool:=decide (k≠6) ||(decide (i=0) ||(decide (x.kind=10) ||(decide (i≠1) && decide (x.kind=6))))
theorem F4 (k:Int) (i:Nat) (x:Tr):F5 k i x=((decide (k=10) ||alone x) && Gc k i x):=by cases x;rfl
theorem Gb (k:Int) (i:Nat) (x:Tr):(!Gc k i x)=decide (k=6/\0<i/\x.kind≠10/\(i=1\/x.kind≠6)):=by
 unfold Gc;rw[Bool.eq_iff_iff,Bool.not_eq_true',Bool.eq_false_iff];simp only[ne_eq,Bool.or_eq_true,Bool.and_eq_true,decide_eq_true_eq];omega
def I2 (x:Tr):Prop:=∀(h:az) (O:Nat->Prop) (v:Value),CI h->fN h O v x->ah Tryz.prog 32 #[v] h (cT fun r h'=>r= .bool (eD de x)/\aD h h')
theorem zF (hs:I2 x) (hg:CI h) (hv:fN h O v x):ah Tryz.prog 62 #[v] h (cT fun r h'=>r= .bool (eD de x && alone x)/\aD h h'):=by
 cases x with
 |mk k t l =>
  obtain⟨w,rfl,hw⟩:=id hv.open;obtain⟨a,n,c,rfl,hws⟩:=id hw.open;have hn:l.length=n:=hws.len;refine ah.of func62 rfl rfl ?_;refine xr func62 rfl ?_;refine xo rfl (aA.gu rfl) ?_;rintro _ h1 ⟨rfl,k1,e1,z1⟩;have k1:bh h1 h.size 25 (sV k t a n c):=k1;have hcall:=hs h1 O _ (hg.ay e1) (hv.mv (Mv.ay e1));refine aS 1 [0,1,2] rfl ?_;refine av rfl ?_;refine G.tO (fun(u:Unit) (h':az)=>aD h1 h') (fun(u:Unit)=>[(2,.bool (eD de (.mk k t l) && alone (.mk k t l)))]) [(0,_),(1,_)] ⟨rfl,rfl,trivial⟩ func62 rfl ?_ ?_
  · refine xp rfl (aj.aH H.bQ H.aV rfl k1.row (by first|rfl|(simp;done)|(simp;omega))) ?_;refine xo rfl (aq (vs:=[_]) func32 rfl H.Jm rfl (ah.br (hcall))) ?_;rintro _ h2 ⟨rfl,e2⟩;refine bf 1 rfl ?_;refine aN (d:=5) rfl (fun a=>?_) (fun a=>?_)
    · refine xp rfl (af (off:=0) underlying25 rfl rfl H.bW rfl) ?_;refine xp rfl (ai H.cM rfl ((k1.ay e2).cell (i:=0) rfl)) ?_;refine bf 2 rfl ?_;refine aN (d:=9) rfl (fun b=>?_) (fun b=>?_)
      · have b:¬k=7:=by simpa using b
        refine bf 7 rfl ?_;refine aE rfl ?_;exact⟨(),e2,aF rfl (by rw[a];unfold alone;rw[decide_eq_true (show Tr.kind (.mk k t l)≠7 from b)];rfl),rfl,rfl,trivial⟩
      · have b:k=7:=by simpa using b
        refine xp rfl (af (off:=2) underlying25 rfl rfl H.fO rfl) ?_;refine xp rfl (ai H.lV rfl ((k1.ay e2).cell (i:=2) rfl)) ?_;refine xp rfl (aj.aK underlying23 rfl) ?_;refine bf 4 rfl ?_;refine aE rfl ?_;exact⟨(),e2,aF rfl (by rw[a,Bool.true_and];unfold alone;rw[decide_eq_false (show ¬Tr.kind (.mk k t l)≠7 from fun q=>q b),Bool.false_or,<-hn,decide_eq_decide];show _↔l.length=2;omega),rfl,rfl,trivial⟩
    · refine bf 11 rfl ?_;refine aE rfl ?_;exact⟨(),e2,aF rfl (by rw[a];rfl),rfl,rfl,trivial⟩
  · rintro u h2 e2;refine G.ret func62 rfl rfl ?_;exact⟨_,rfl,rfl,e1.trans e2⟩
theorem ri (word:By->Bool) (k:Int) (i:Nat) (x:Tr) (l:List Tr):kN word k i (x::l)=((eD word x && F5 k i x) && kN word k (i+1) l):=by rw[kN]
theorem qn (word:By->Bool) (k:Int) (t:By) (l:List Tr):eD word (.mk k t l)=(og word k t l.length && kN word k 0 l):=by rw[eD]
theorem BE:∀(d:Nat) (x:Tr),x.dep<=d->x.wt<=1000000->I2 x:=by
 intro d
 induction d with
 |zero=>intro x hx;cases x with|mk k t l=>simp[Tr.dep] at hx
 |succ d ih =>
 intro x hd hwt h O v hg hv;cases x with
 |mk k t l =>
  obtain⟨w,rfl,hw⟩:=id hv.open;obtain⟨a,n,c,rfl,hws⟩:=id hw.open;have hn:l.length=n:=hws.len;subst hn;have hcap:=hws.cap;have hle:=hws.le;simp only[maxLen] at hcap;have htl:=CK k t l;rw[qn];refine ah.of func32 rfl rfl ?_;refine xr func32 rfl ?_;refine xo rfl (aA.gu rfl) ?_;rintro _ h1 ⟨rfl,k1,e1,z1⟩;have k1:bh h1 h.size 25 (sV k t a l.length c):=k1;refine aS 1 [0,1,2] rfl ?_;refine av rfl ?_;refine xr func32 rfl ?_;refine xp rfl (aj.aH H.bQ H.aV rfl k1.row (by first|rfl|(simp;done)|(simp;omega))) ?_;refine xo rfl (aq (vs:=[_]) func61 rfl H.LR rfl (ah.br (Aa (hg.ay e1) k t a l.length c (by omega)))) ?_;rintro _ h2 ⟨rfl,e2⟩;have e02:=e1.trans e2;have k2:=k1.ay e2;refine aS 1 [0,1,2,7] rfl ?_;refine aG rfl rfl (fun hs=>?_) (fun hs=>?_)
  · have hs:og de k t l.length=false:=by simpa using hs
    refine aY func32 1 [0,1,2,7] rfl ?_;refine G.ret func32 rfl rfl ?_;exact⟨_,rfl,by rw[hs];rfl,e02⟩
  · have hs:og de k t l.length=true:=by simpa using hs
    rw[hs,Bool.true_and];refine aB rfl ?_;refine av rfl ?_;refine xr func32 rfl ?_;refine xp rfl (af (off:=2) underlying25 rfl rfl H.fO rfl) ?_;refine xp rfl (ai H.lV rfl (k2.cell (i:=2) rfl)) ?_;refine xp rfl (aj.aK underlying23 rfl) ?_;refine aS 1 [0,1,2,7,9,10,11] rfl ?_;refine G.block rfl rfl ?_;refine bD (σ:=Nat) (fun i=>[(1,ptr h.size),(9,.slice a l.length c),(10,.int .i64 (l.length:Nat)),(11,.int .i64 (i:Nat))]) (fun i g=>i<=l.length/\aD h2 g/\kN de k i (l.drop i)=kN de k 0 l) (fun i=>l.length-i) (0) rfl ⟨rfl,rfl,rfl,rfl,trivial⟩ ⟨Nat.zero_le _,Ext.refl _ _,rfl⟩ ?_;rintro i g ⟨hi,eg,hq⟩ ihL;have kg:=k2.ay eg;have e0g:=e02.trans eg;refine aY func32 1 [1,9,10,11,12] rfl ?_;refine av rfl ?_;refine aO rfl rfl (fun hlt=>?_) (fun hlt=>?_)
    · have hil:i<l.length:=by omega
      have hwsg:=hws.mv (Mv.ay e0g);obtain⟨b,o,x,cs,ha,hob,hx,hrow,hR⟩:=Sl.nd hwsg hil;have hxm:x∈l:=List.mem_of_getElem? hx;have hxw:=ql (k:=k) (t:=t) hxm
      have hdr:l.drop i=x::l.drop (i+1):=by
       obtain⟨h1,h2⟩:=List.getElem?_eq_some_iff.1 hx;rw[List.drop_eq_getElem_cons h1,h2]
      rw[hdr,ri,F4] at hq;obtain⟨xk,xt,xa,xn,xc,hcs,hR'⟩:=(fN.of hR).get;obtain rfl:cs=[.int .i64 xk,.string (bs xt),.slice xa xn xc]:=by have:=congrArg (fun v=>match v with|Value.agg cs=>cs.toList|_=>[]) hcs;simpa using this
      have hxk:xk=x.kind:=by cases x with|mk k' t' l'=>obtain⟨v',hv1,_⟩:=jF hR;cases hv1;rfl
      have hst:=ih x (by have:=yS (k:=k) (t:=t) hxm;omega) (by omega);refine aB rfl ?_;refine av rfl ?_;refine G.block rfl rfl ?_;refine bp func32 1 rfl ?_;refine xp rfl (aj.ax underlying23 H.aV rfl rfl i rfl ha (by omega)) ?_;refine xp rfl (aj.aH H.bQ H.aV rfl hrow (by first|rfl|(simp;done)|(simp;omega))) ?_;refine xo rfl (aA.aX H.fu) ?_;rintro _ g1 ⟨rfl,kn,e3,z3⟩;refine bf 1 rfl ?_;refine RW.b9 rfl rfl rfl (aA.aC H.aV rfl rfl kn (by first|rfl|(simp;done)|(simp;omega)) (by first|decide|exact of_decide_eq_true rfl|(simp;done)|(simp;omega)) (jL)) ?_;rintro _ g2 ⟨rfl,kx,x2,z2⟩;have kx:bh g2 g.size 25 [.int .i64 xk,.string (bs xt),.slice xa xn xc]:=kx;have eg2:aD g g2:=aD.only e3 x2 (Nat.le_refl _);have kg2:=kg.ay eg2;have hg2:=hg.ay (e0g.trans eg2);have hnx:=(fN.of hR).mv (Mv.ay eg2);have hcs:=hst g2 O _ hg2 hnx;have hcv:=zF hst hg2 hnx;refine xd [1,3,4,9,10,11,12] rfl ?_;refine av rfl ?_;refine av rfl ?_;refine G.tO (fun(u:Unit) (h':az)=>aD g2 h') (fun(u:Unit)=>[(33,.bool (!(eD de x && (decide (k=10) ||alone x))))]) [(1,_),(3,_),(4,_),(9,_),(10,_),(11,_),(12,_)] ⟨rfl,rfl,rfl,rfl,rfl,rfl,rfl,trivial⟩ func32 rfl ?_ ?_
      · refine xp rfl (af (off:=0) underlying25 rfl rfl H.bW rfl) ?_;refine xp rfl (ai H.cM rfl (kg2.cell (i:=0) rfl)) ?_;refine bf 2 rfl ?_;refine aN (d:=19) rfl (fun p=>?_) (fun p=>?_)
        · have p:=of_decide_eq_true p;refine xp rfl (aj.aH H.bQ H.aV rfl kx.row (by first|rfl|(simp;done)|(simp;omega))) ?_;refine xo rfl (aq (vs:=[_]) func32 rfl H.Jm rfl (ah.br (hcs))) ?_;rintro _ g3 ⟨rfl,e4⟩;refine bf 3 rfl ?_;refine aN (d:=24) rfl (fun q=>?_) (fun q=>?_)
          · refine bf 9 rfl ?_;refine aE rfl ?_;exact⟨(),e4,aF rfl (by have q:eD de x=false:=by { simpa using q };rw[q];rfl),rfl,rfl,rfl,rfl,rfl,rfl,rfl,trivial⟩
          · have q:eD de x=true:=by simpa using q
            refine xp rfl (af (off:=0) underlying25 rfl rfl H.bW rfl) ?_;refine xp rfl (ai H.cM rfl ((kg2.ay e4).cell (i:=0) rfl)) ?_;refine bf 2 rfl ?_;refine RW.dn (d:=28) (b':=false) rfl ((by rw[p];rfl)) ?_;refine bf 5 rfl ?_;refine aE rfl ?_;exact⟨(),e4,aF rfl (by rw[q,decide_eq_true p];rfl),rfl,rfl,rfl,rfl,rfl,rfl,rfl,trivial⟩
        · have p:=of_decide_eq_false p;refine ct 5 rfl rfl (af (off:=0) underlying25 rfl rfl H.bW rfl) ?_;refine RW.dn (d:=24) (b':=false) rfl (rfl) ?_;refine xp rfl (ai H.cM rfl (kg2.cell (i:=0) rfl)) ?_;refine bf 2 rfl ?_;refine RW.dn (d:=28) (b':=true) rfl ((by simpa using p)) ?_;refine xp rfl (aj.aH H.bQ H.aV rfl kx.row (by first|rfl|(simp;done)|(simp;omega))) ?_;refine xo rfl (aq (vs:=[_]) func62 rfl H.LQ rfl (ah.br (hcv))) ?_;rintro _ g3 ⟨rfl,e4⟩;refine bf 3 rfl ?_;refine aE rfl ?_;exact⟨(),e4,aF rfl (by rw[decide_eq_false p,Bool.false_or]),rfl,rfl,rfl,rfl,rfl,rfl,rfl,trivial⟩
      · rintro u g3 e4;have kg3:=kg2.ay e4;have kx3:=kx.ay e4;refine aG rfl rfl (fun hb=>?_) (fun hb=>?_)
        · have hb:(eD de x && (decide (k=10) ||alone x))=false:=by rw[Bool.not_eq_true'] at hb;exact hb
          refine aY func32 1 [1,2,3,4,9,10,11,12,33] rfl ?_;refine G.ret func32 rfl rfl ?_;refine⟨_,rfl,?_,(e0g.trans eg2).trans e4⟩;rw[<-hq,<-Bool.and_assoc,hb];rfl
        · have hb:(eD de x && (decide (k=10) ||alone x))=true:=by rw[Bool.not_eq_false'] at hb;exact hb
          rw[<-Bool.and_assoc,hb,Bool.true_and] at hq;refine aB rfl ?_;refine av rfl ?_;refine G.bE [(54,.bool (decide (k=6/\0<i/\xk≠10/\(i=1\/xk≠6))))] [(1,_),(3,_),(4,_),(9,_),(10,_),(11,_),(12,_),(33,_)] ⟨rfl,rfl,rfl,rfl,rfl,rfl,rfl,rfl,trivial⟩ func32 rfl ?_ ?_
          · refine xp rfl (af (off:=0) underlying25 rfl rfl H.bW rfl) ?_;refine xp rfl (ai H.cM rfl (kg3.cell (i:=0) rfl)) ?_;refine bf 2 rfl ?_;refine aN (d:=37) rfl (fun p=>?_) (fun p=>?_)
            · have p:=of_decide_eq_true p;refine bf 4 rfl ?_;refine aN (d:=41) rfl (fun q=>?_) (fun q=>?_)
              · have q:=of_decide_eq_true q;refine xp rfl (af (off:=0) underlying25 rfl rfl H.bW rfl) ?_;refine xp rfl (ai H.cM rfl (kx3.cell (i:=0) rfl)) ?_;refine bf 3 rfl ?_;refine aN (d:=46) rfl (fun r=>?_) (fun r=>?_)
                · have r:¬xk=10:=by simpa using r
                  refine bf 3 rfl ?_;refine aN (d:=49) rfl (fun s=>?_) (fun s=>?_)
                  · have s:=of_decide_eq_true s;refine bf 5 rfl ?_;refine aE rfl ?_;exact⟨rfl,aF rfl (by rw[decide_eq_true (by omega)]),rfl,rfl,rfl,rfl,rfl,rfl,rfl,rfl,trivial⟩
                  · have s:=of_decide_eq_false s;refine xp rfl (af (off:=0) underlying25 rfl rfl H.bW rfl) ?_;refine xp rfl (ai H.cM rfl (kx3.cell (i:=0) rfl)) ?_;refine bf 3 rfl ?_;refine aE rfl ?_;exact⟨rfl,aF rfl (by rw[decide_eq_decide];omega),rfl,rfl,rfl,rfl,rfl,rfl,rfl,rfl,trivial⟩
                · have r:xk=10:=by simpa using r
                  refine bf 8 rfl ?_;refine aE rfl ?_;exact⟨rfl,aF rfl (by rw[decide_eq_false (by omega)]),rfl,rfl,rfl,rfl,rfl,rfl,rfl,rfl,trivial⟩
              · have q:=of_decide_eq_false q;refine bf 13 rfl ?_;refine aE rfl ?_;exact⟨rfl,aF rfl (by rw[decide_eq_false (by omega)]),rfl,rfl,rfl,rfl,rfl,rfl,rfl,rfl,trivial⟩
            · have p:=of_decide_eq_false p;refine bf 17 rfl ?_;refine aE rfl ?_;exact⟨rfl,aF rfl (by rw[decide_eq_false (by omega)]),rfl,rfl,rfl,rfl,rfl,rfl,rfl,rfl,trivial⟩
          · rw[hxk,<-Gb];refine aG rfl rfl (fun hb2=>?_) (fun hb2=>?_)
            · have hb2:Gc k i x=false:=by simpa using hb2
              refine aY func32 1 [1,2,3,4,9,10,11,12,33,54] rfl ?_;refine G.ret func32 rfl rfl ?_;exact⟨_,rfl,by rw[<-hq,hb2];rfl,(e0g.trans eg2).trans e4⟩
            · have hb2:Gc k i x=true:=by simpa using hb2
              rw[hb2,Bool.true_and] at hq;refine aB rfl ?_;refine G.aQ ?_;refine G.cq func32 rfl ?_;refine xp rfl (aj.bC rfl rfl ⟨by omega,by omega⟩) ?_;refine aS 1 [1,3,4,9,10,11,12,33,54] rfl ?_;exact ihL (i+1) _ _ ⟨rfl,rfl,rfl,rfl,trivial⟩ ⟨hil,(eg.trans eg2).trans e4,hq⟩ (by omega)
    · obtain rfl:i=l.length:=by omega
      rw[List.drop_length] at hq;refine bw rfl rfl ?_;refine aY func32 1 [1,2,9,10,11,12] rfl ?_;refine G.ret func32 rfl rfl ?_;exact⟨_,rfl,by rw[<-hq];rfl,e0g⟩
theorem zG (hw:x.wt<=1000000) (hg:CI h) (hv:fN h O v x):ah Tryz.prog 13 #[v] h (cT fun r h'=>r= .bool (eD de x)/\aD h h'):=by
 obtain⟨k,t,a,n,c,rfl,hR⟩:=id hv.get;refine ah.of func13 rfl rfl ?_;refine xr func13 rfl ?_;refine xo rfl (aA.gu rfl) ?_;rintro _ h1 ⟨rfl,k1,e1,z1⟩;have hcall:=BE _ x (Nat.le_refl _) hw h1 O _ (hg.ay e1) (hv.mv (Mv.ay e1));refine aS 1 [0,1,2] rfl ?_;refine xr func13 rfl ?_;refine xp rfl (aj.aH H.bQ H.aV rfl k1.row (by first|rfl|(simp;done)|(simp;omega))) ?_;refine xo rfl (aq (vs:=[_]) func32 rfl H.Jm rfl (ah.br (hcall))) ?_;rintro _ h2 ⟨rfl,e2⟩;refine aS 1 [0,1,2] rfl ?_;refine G.ret func13 rfl rfl ?_;exact⟨_,rfl,rfl,e1.trans e2⟩
theorem mF {a:Option Addr}{n c:Nat}(hws:Sl eN h O a n c l){i:Nat}(hi:i<n) :
 ∃b o x xk xt xa xn xc,a=some ⟨b,o,none⟩/\l[i]? =some x/\Lw.rowAt h b (o+i*3) (sV xk xt xa xn xc)/\fN h O (.agg #[.int .i64 xk,.string (bs xt),.slice xa xn xc]) x/\xk=x.kind/\¬O b:=by
 obtain⟨b,o,x,cs,ha,hob,hx,hrow,hR⟩:=Sl.nd hws hi;cases x with
 |mk k t m =>
  obtain⟨v,rfl,hs⟩:=jF hR;obtain⟨xa,xn,xc,rfl,_⟩:=id hs.open;exact⟨b,o,_,k,t,xa,xn,xc,ha,hx,hrow,fN.of hR,rfl,hob⟩
theorem wq {word:By->Bool}{k:Int}:∀{l:List Tr}{i:Nat}{x:Tr},kN word k i l=true->x∈l->eD word x=true
 | [],_,_,_,h=>by cases h
 |y::l,i,x,q,h=>by
  rw[ri,Bool.and_eq_true,Bool.and_eq_true] at q
  rcases List.mem_cons.1 h with rfl|h
  · exact q.1.1
  · exact wq q.2 h
theorem qu:∀(l:List Tr) (i:Nat),gH false i l=l.map (bL false)
 | [],_=>by rw[gH];rfl
 |x::l,i=>by rw[gH,qu l,Bool.false_and];rfl
theorem tD (b:Bool) (k:Int) (t:By) (l:List Tr):bL b (.mk k t l)=if k=6/\b=true then rY (gH (decide (k=6)) 0 l) else tE k t (gH (decide (k=6)) 0 l):=by rw[bL]
theorem gV {k:Int}(h:k≠6) (b:Bool) (t:By) (l:List Tr):bL b (.mk k t l)=tE k t (l.map (bL false)):=by
 rw[tD,if_neg (fun q=>h q.1),decide_eq_false h,qu]
theorem BI (h:x.kind≠6) (b:Bool):bL b x=bL false x:=by
 cases x with
 |mk k t l=>have h:k≠6:=h;rw[gV h,gV h]
theorem Hl (t:By) (a b c:Tr):bL false (.mk 6 t [a,b,c])=[40]++rY [bL false a,bL false b,bL true c]++[41]:=by
 rw[tD,if_neg (fun q=>by cases q.2)];simp[gH,tE]
theorem zY (t:By) (a b c:Tr):bL true (.mk 6 t [a,b,c])=rY [bL false a,bL false b,bL true c]:=by
 rw[tD,if_pos ⟨rfl,rfl⟩];simp[gH]
def vD (x:Tr):Prop:=∀(h:az) (O:Nat->Prop) (v:Value),CI h->fN h O v x->ah Tryz.prog 31 #[v] h (cT fun r h'=>r= .string (bs (bL false x))/\aD h h')
def xI (x:Tr):Prop:=∀(h:az) (O:Nat->Prop) (v:Value),CI h->fN h O v x->ah Tryz.prog 59 #[v] h (cT fun r h'=>r= .string (bs (bL true x))/\aD h h')
theorem Et {t:By}{y z:Tr}(hw:(Tr.mk 6 t [x,y,z]).wt<=1000000) (hx:vD x) (hy:vD y) (hz:vD z) (hz2:z.kind=6->xI z):xI (.mk 6 t [x,y,z]):=by
 intro h O v hg hv;have w1:=ql (k:=6) (t:=t) (l:=[x,y,z]) (x:=x) (by simp);have w2:=ql (k:=6) (t:=t) (l:=[x,y,z]) (x:=y) (by simp);have w3:=ql (k:=6) (t:=t) (l:=[x,y,z]) (x:=z) (by simp);have p1:=iY x false;have p2:=iY y false;have p3:=iY z false;have p4:=iY z true;have q1:=bu (bL false x);have q2:=bu (bL false y);have q3:=bu (bL false z);have q4:=bu (bL true z);obtain⟨w,rfl,hw0⟩:=id hv.open;obtain⟨a,n,c,rfl,hws⟩:=id hw0.open;have hn:3=n:=hws.len;subst hn;rw[zY];refine ah.of func59 rfl rfl ?_;refine xr func59 rfl ?_;refine xo rfl (aA.gu rfl) ?_;rintro _ h1 ⟨rfl,k1,e1,z1⟩;have k1:bh h1 h.size 25 (sV 6 t a 3 c):=k1;have hws1:=hws.mv (Mv.ay e1);obtain⟨b0,o0,x0,k0,t0,a0,n0,c0,ha0,hx0,hr0,hv0,_,_⟩:=mF hws1 (show 0<3 by decide);obtain⟨b0',o1,x1,kk1,t1,a1,n1,c1,ha1,hx1,hr1,hv1,_,_⟩:=mF hws1 (show 1<3 by decide);obtain rfl:x0=x:=by cases hx0;rfl
 obtain rfl:x1=y:=by cases hx1;rfl
 have hc0:=hx h1 O _ (hg.ay e1) hv0;refine aS 1 [0,1,2] rfl ?_;refine av rfl ?_;refine bU (fun _=>False) (fun i=>Nat.blt i 15) (sz:=15) (listed:= #[false,false,false,false,false,false,false,false,false,false,false,false,false,false,false]) func59 H.mixed rfl rfl rfl ?_;refine bM 0 1 (by kernel_rfl) rfl (fun h' e=>af (off:=2) underlying25 rfl rfl H.fO rfl) ?_;refine bM 1 3 (by kernel_rfl) rfl (fun h' e=>ai H.lV rfl (e.cell (fun k=>k) (k1.cell (i:=2) rfl))) ?_;refine bM 2 7 (by kernel_rfl) rfl (fun h' e=>aj.ax underlying23 H.aV rfl rfl 0 rfl ha0 (by decide)) ?_;refine bM 3 15 (by kernel_rfl) rfl (fun h' e=>aj.aH H.bQ H.aV rfl (e.rowAt (fun k=>k) hr0) (by first|rfl|(simp;done)|(simp;omega))) ?_;refine bM 7 143 (by kernel_rfl) rfl (fun h' e=>af (off:=2) underlying25 rfl rfl H.fO rfl) ?_;refine bM 8 399 (by kernel_rfl) rfl (fun h' e=>ai H.lV rfl (e.cell (fun k=>k) (k1.cell (i:=2) rfl))) ?_;refine bM 9 911 (by kernel_rfl) rfl (fun h' e=>aj.ax underlying23 H.aV rfl rfl 1 rfl ha1 (by decide)) ?_;refine bM 10 1935 (by kernel_rfl) rfl (fun h' e=>aj.aH H.bQ H.aV rfl (e.rowAt (fun k=>k) hr1) (by first|rfl|(simp;done)|(simp;omega))) ?_;refine eP 4 1951 (by kernel_rfl) rfl (aq (vs:=[_]) func31 rfl H.FG rfl (ah.br (hc0))) ?_;rintro _ h2 ⟨rfl,e2⟩;refine⟨fun _=>e2,?_⟩;have l3:(⟨#[105,102,32]⟩:ByteArray).size=3:=rfl;have l1:(⟨#[32]⟩:ByteArray).size=1:=rfl;have l6:(⟨#[32,101,108,115,101,32]⟩:ByteArray).size=6:=rfl;have hc1:=hy h2 O _ ((hg.ay e1).ay e2) (hv1.mv (Mv.ay e2));refine bM 5 1983 (by kernel_rfl) rfl (fun h' e=>aj.bR rfl rfl (by simp only[ByteArray.size_append,l3,l1,l6,q1,q2,q3,q4];omega)) ?_;refine bM 6 2047 (by kernel_rfl) rfl (fun h' e=>aj.bR rfl rfl (by simp only[ByteArray.size_append,l3,l1,l6,q1,q2,q3,q4];omega)) ?_;refine eP 11 4095 (by kernel_rfl) rfl (aq (vs:=[_]) func31 rfl H.FG rfl (ah.br (hc1))) ?_;rintro _ h3 ⟨rfl,e3⟩;refine⟨fun _=>e3,?_⟩;refine bM 12 8191 (by kernel_rfl) rfl (fun h' e=>aj.bR rfl rfl (by simp only[ByteArray.size_append,l3,l1,l6,q1,q2,q3,q4];omega)) ?_;refine bM 13 16383 (by kernel_rfl) rfl (fun h' e=>aj.bR rfl rfl (by simp only[ByteArray.size_append,l3,l1,l6,q1,q2,q3,q4];omega)) ?_;have e23:=e2.trans e3;have e03:=e1.trans e23;have k3:=k1.ay e23;have hws3:=hws1.mv (Mv.ay e23);obtain⟨b2',o2,x2,kk2,t2,a2,n2,c2,ha2,hx2,hr2,hv2,hk2,_⟩:=mF hws3 (show 2<3 by decide);obtain rfl:x2=z:=by cases hx2;rfl
 have hg3:=hg.ay e03;refine cJ 14 32767 (by kernel_rfl) rfl ?_;refine bB (by kernel_rfl) ?_;refine xu [0,1,2,3] rfl ?_;refine av rfl ?_;refine xr func59 rfl ?_;refine xp rfl (af (off:=2) underlying25 rfl rfl H.fO rfl) ?_;refine xp rfl (ai H.lV rfl (k3.cell (i:=2) rfl)) ?_;refine xp rfl (aj.ax underlying23 H.aV rfl rfl 2 rfl ha2 (by decide)) ?_;refine xp rfl (af (off:=0) underlying25 rfl rfl H.bW rfl) ?_;refine xp rfl (ai H.cM rfl (hr2 0 _ rfl)) ?_;refine aS 1 [0,1,2,3,23] rfl ?_;refine aO rfl rfl (fun c6=>?_) (fun c6=>?_)
 · have hch:=hz2 (by rw[<-hk2];exact c6) h3 O _ hg3 hv2;refine bp func59 1 rfl ?_;refine xp rfl (af (off:=2) underlying25 rfl rfl H.fO rfl) ?_;refine xp rfl (ai H.lV rfl (k3.cell (i:=2) rfl)) ?_;refine xp rfl (aj.ax underlying23 H.aV rfl rfl 2 rfl ha2 (by decide)) ?_;refine xp rfl (aj.aH H.bQ H.aV rfl hr2 (by first|rfl|(simp;done)|(simp;omega))) ?_;refine xo rfl (aq (vs:=[_]) func59 rfl H.Ka rfl (ah.br (hch))) ?_;rintro _ h4 ⟨rfl,e4⟩;refine xp rfl (aj.bR rfl rfl (by simp only[ByteArray.size_append,l3,l1,l6,q1,q2,q3,q4];omega)) ?_;refine aS 1 [0,1,2,3,23] rfl ?_;refine G.ret func59 rfl rfl ?_;refine⟨_,rfl,?_,e03.trans e4⟩
   show Value.string (((((bs [105,102,32]++bs (bL false x0))++bs [32])++bs (bL false x1))++bs [32,101,108,115,101,32])++bs (bL true x2))=_
   simp only[cS];rfl
 · have hch:=hz h3 O _ hg3 hv2;refine aB rfl ?_;refine bp func59 1 rfl ?_;refine xp rfl (af (off:=2) underlying25 rfl rfl H.fO rfl) ?_;refine xp rfl (ai H.lV rfl (k3.cell (i:=2) rfl)) ?_;refine xp rfl (aj.ax underlying23 H.aV rfl rfl 2 rfl ha2 (by decide)) ?_;refine xp rfl (aj.aH H.bQ H.aV rfl hr2 (by first|rfl|(simp;done)|(simp;omega))) ?_;refine xo rfl (aq (vs:=[_]) func31 rfl H.FG rfl (ah.br (hch))) ?_;rintro _ h4 ⟨rfl,e4⟩;refine xp rfl (aj.bR rfl rfl (by simp only[ByteArray.size_append,l3,l1,l6,q1,q2,q3,q4];omega)) ?_;refine aS 1 [0,1,2,3,23] rfl ?_;refine G.ret func59 rfl rfl ?_;refine⟨_,rfl,?_,e03.trans e4⟩;rw[BI (show x2.kind≠6 from fun q=>c6 (by rw[hk2];exact q)) true]
   show Value.string (((((bs [105,102,32]++bs (bL false x0))++bs [32])++bs (bL false x1))++bs [32,101,108,115,101,32])++bs (bL false x2))=_
   simp only[cS];rfl
theorem kV {enc:α->Value}{base:Nat}{T:TypeId}{va:Option Addr}{vn vc:Nat}{xs:List α}(k:cO enc h base T (.slice va vn vc) xs) (i:Nat){x:α}(hx:xs[i]? =some x) :
 ∃g,va=some ⟨g,0,none⟩/\i<vn/\vn=xs.length/\cellAt h ⟨g,0+i*1,none⟩=some (enc x):=by
 obtain⟨g,c,hv,_,_,hc,_⟩:=k.at hx;cases hv;exact⟨g,rfl,(List.getElem?_eq_some_iff.1 hx).1,rfl,hc⟩
theorem Jq {l:List α}(h:l.length=1):∃a,l=[a]:=List.length_eq_one_iff.1 h
theorem Jp {l:List α}(h:l.length=2):∃a b,l=[a,b]:=by
 match l,h with
 | [a,b],_=>exact⟨a,b,rfl⟩
theorem KM {l:List α}(h:l.length=3):∃a b c,l=[a,b,c]:=by
 match l,h with
 | [a,b,c],_=>exact⟨a,b,c,rfl⟩
theorem Hj {k:Int}{t:By}(hw:(Tr.mk k t l).wt<=1000000) (hva:eD de (.mk k t l)=true) (hsk:∀y∈l,vD y) (hch:k=6->xI (.mk k t l)):vD (.mk k t l):=by
 intro h O v hg hv;obtain⟨w,rfl,hw0⟩:=id hv.open;obtain⟨a,n,c,rfl,hws⟩:=id hw0.open;have hn:l.length=n:=hws.len;subst hn;have hcap:=hws.cap;have hle:=hws.le;simp only[maxLen] at hcap;have wt0:=CK k t l;have qt:=bu t
 have hkl:∀y∈l,(bs (bL false y)).size<=1000000:=fun y hy=>by
  have:=ql (k:=k) (t:=t) hy;have:=iY y false;rw[bu];omega
 have hsum:(gJ (l.map (bL false))).length<=1000000:=by
  have h1:=uA (gH false 0 l);have h2:=oY l false 0;have h3:=kP l false 0;rw[<-qu l 0];have h4:(Tr.mk k t l).wt=2*t.length+20+G9 l:=by rw[Tr.wt]
  omega
 rw[qn,tF,Bool.and_eq_true,Bool.and_eq_true] at hva;obtain⟨⟨hbd,_⟩,hvq⟩:=hva;have hbd:(0<=k/\k<=10)/\(fe k).1<=l.length/\l.length<=(fe k).2:=of_decide_eq_true hbd
 have hll:l.length<=1000000:=by
  have h2:=oY l false 0;have h4:(Tr.mk k t l).wt=2*t.length+20+G9 l:=by rw[Tr.wt]
  omega
 have m40:(⟨#[40]⟩:ByteArray).size=1:=rfl;have m41:(⟨#[41]⟩:ByteArray).size=1:=rfl;have m32:(⟨#[32]⟩:ByteArray).size=1:=rfl;have mlet:(⟨#[108,101,116,32]⟩:ByteArray).size=4:=rfl;have mlet2:(⟨#[40,108,101,116,32]⟩:ByteArray).size=5:=rfl;have meq:(⟨#[32,61,32]⟩:ByteArray).size=3:=rfl;have min_:(⟨#[32,105,110,32]⟩:ByteArray).size=4:=rfl;have mfun:(⟨#[40,102,117,110,32]⟩:ByteArray).size=5:=rfl;have marr:(⟨#[32,45,62,32]⟩:ByteArray).size=4:=rfl;have mopn:(⟨#[123,32]⟩:ByteArray).size=2:=rfl;have mcls:(⟨#[32,125]⟩:ByteArray).size=2:=rfl;refine ah.of func31 rfl rfl ?_;refine xr func31 rfl ?_;refine xo rfl (aA.gu rfl) ?_;rintro _ h1 ⟨rfl,k1,e1,z1⟩;have k1:bh h1 h.size 25 (sV k t a l.length c):=k1;refine aS 1 [0,1,2] rfl ?_;refine aY func31 1 [0,1,2,3] rfl ?_;refine av rfl ?_;refine xr func31 rfl ?_;refine xp rfl (af (off:=2) underlying25 rfl rfl H.fO rfl) ?_;refine xp rfl (ai H.lV rfl (k1.cell (i:=2) rfl)) ?_;refine xp rfl (aj.aK underlying23 rfl) ?_;refine aS 1 [0,1,2,3,7,8,9] rfl ?_;refine G.block rfl rfl ?_;refine bD (σ:=Nat×Value) (fun w=>[(1,ptr h.size),(3,w.2),(7,.slice a l.length c),(8,.int .i64 (l.length:Nat)),(9,.int .i64 (w.1:Nat))]) (fun w g=>w.1<=l.length/\aD h1 g/\cO yN g h1.size 9 w.2 ((l.map (bL false)).take w.1)) (fun w=>l.length-w.1) ((0,.slice none 0 0)) rfl ⟨rfl,rfl,rfl,rfl,rfl,trivial⟩ ⟨Nat.zero_le _,Ext.refl _ _,cO.nil _ _ _ _⟩ ?_;rintro⟨i,ov⟩ g ⟨hi,eg,ho⟩ ih
 try dsimp only
 dsimp only at hi ho;have kg:=k1.ay eg;have e0g:=e1.trans eg;have hho:aR g h1.size 9 1 ov ((l.map (bL false)).take i).length (((l.map (bL false)).take i).map yN):=ho;have hlt0:((l.map (bL false)).take i).length=i:=by rw[List.length_take,List.length_map];omega
 rw[hlt0] at hho;obtain⟨va,vc,rfl,_⟩:=hho.open;refine aY func31 1 [1,3,7,8,9,10] rfl ?_;refine av rfl ?_;refine aO rfl rfl (fun hlt=>?_) (fun hlt=>?_)
 · have hil:i<l.length:=by omega
   obtain⟨b,o,x,xk,xt,xa,xn,xc,ha,hx,hrow,hnx,_,_⟩:=mF (hws.mv (Mv.ay e0g)) hil;have hxm:x∈l:=List.mem_of_getElem? hx;refine aB rfl ?_;refine av rfl ?_;refine G.block rfl rfl ?_;refine xr func31 rfl ?_;refine xp rfl (aj.ax underlying23 H.aV rfl rfl i rfl ha (by omega)) ?_;refine xp rfl (aj.aH H.bQ H.aV rfl hrow (by first|rfl|(simp;done)|(simp;omega))) ?_;refine xo rfl (aA.aX H.fu) ?_;rintro _ g1 ⟨rfl,kn,e3,z3⟩;refine RW.b9 rfl rfl rfl (aA.aC H.aV rfl rfl kn (by first|rfl|(simp;done)|(simp;omega)) (by first|decide|exact of_decide_eq_true rfl|(simp;done)|(simp;omega)) (jL)) ?_;rintro _ g2 ⟨rfl,kx,x2,z2⟩;have kx:bh g2 g.size 25 (sV xk xt xa xn xc):=kx;have eg2:aD g g2:=aD.only e3 x2 (Nat.le_refl _);have hcall:=hsk x hxm g2 O _ (hg.ay (e0g.trans eg2)) (hnx.mv (Mv.ay eg2));refine xd [1,3,5,7,8,9,10] rfl ?_;refine G.cq func31 rfl ?_;refine ct 1 rfl rfl (aj.aH H.bQ H.aV rfl kx.row (by first|rfl|(simp;done)|(simp;omega))) ?_;refine xo rfl (aq (vs:=[_]) func31 rfl H.FG rfl (ah.br (hcall))) ?_;rintro _ g3 ⟨rfl,e4⟩;have e24:=eg2.trans e4;refine xo rfl (aA.aW (us:=[_]) underlying87 H.qL rfl rfl (by decide) (by simp[Value.oneCell'])) ?_;rintro _ _ ⟨rfl,rfl⟩;refine xo rfl (aA.bN underlying87 H.qL rfl rfl ((hho.AX e24)) rfl rfl (by first|decide|simp[Value.oneCell']) (by omega) (by decide) (by have:=eg.size;have:=e24.size;omega)) ?_;rintro v5 g5 ⟨ho5,hx5,hx5',hv5⟩
   have ho5:cO yN g5 h1.size 9 v5 ((l.map (bL false)).take (i+1)):=by
    rw[List.take_add_one,List.getElem?_map,hx];exact cO.of ho5 hlt0.symm rfl rfl
   refine aS 1 [1,3,5,7,8,9,10] rfl ?_;refine G.aQ ?_;refine G.cq func31 rfl ?_;refine xp rfl (aj.bC rfl rfl ⟨by omega,by omega⟩) ?_;refine aS 1 [1,3,5,7,8,9,10] rfl ?_;exact ih (i+1,v5) _ _ ⟨rfl,rfl,rfl,rfl,rfl,trivial⟩ ⟨hil,Ext.own (eg.trans e24) (hho.AX e24) (Nat.le_refl _) hx5,ho5⟩ (by show l.length-(i+1)<l.length-i;omega)
 · obtain rfl:i=l.length:=by omega
   rw[show (l.map (bL false)).take l.length=l.map (bL false) from List.take_of_length_le (by simp)] at ho;refine bw rfl rfl ?_;refine av rfl ?_;refine xr func31 rfl ?_;refine xp rfl (af (off:=0) underlying25 rfl rfl H.bW rfl) ?_;refine xp rfl (ai H.cM rfl (kg.cell (i:=0) rfl)) ?_;refine xd [1,3,7,8,9,10,20] rfl ?_;refine G.block rfl rfl ?_;refine aY func31 2 [1,3,7,8,9,10,20,21] rfl ?_;refine aO rfl rfl (fun c1=>?_) (fun c1=>?_)
   · refine xr func31 rfl ?_;refine xp rfl (af (off:=1) underlying25 rfl rfl H.fq rfl) ?_;refine xp rfl (ai H.fM rfl (kg.cell (i:=1) rfl)) ?_;refine xo rfl (aq (vs:=[_]) func58 rfl H.LU rfl (ah.br (Aj (hg.ay e0g).esc t (by omega)))) ?_;rintro _ g2 ⟨rfl,e2⟩;refine aS 1 [1,2,3,7,8,9,10,20,21] rfl ?_;refine G.ret func31 rfl rfl ?_;exact⟨_,rfl,by rw[gV (by omega),c1];rfl,e0g.trans e2⟩
   · refine aY func31 2 [1,3,7,8,9,10,20,21,26] rfl ?_;refine aO rfl rfl (fun c4=>?_) (fun c4=>?_)
     · subst c4;have hbd2:1<=l.length/\l.length<=1:=hbd.2;obtain⟨x0,rfl⟩:=Jq (show l.length=1 by omega);have hb0:=hkl x0 (by simp);obtain⟨rg,rfl,_,_,hc0⟩:=kV ho 0 (x:=bL false x0) rfl;refine av rfl ?_;refine G.ew func31 H.mixed rfl (by kernel_rfl) ?_;refine RQ.au rfl rfl rfl rfl (af (off:=1) underlying25 rfl rfl H.fq rfl) ?_;refine RQ.au rfl rfl rfl rfl (ai H.fM rfl (kg.cell (i:=1) rfl)) ?_;refine RQ.au rfl rfl rfl rfl (aj.bR rfl rfl (by first|omega|(simp only[ByteArray.size_append];omega))) ?_;refine RQ.au rfl rfl rfl rfl (aj.bR rfl rfl (by first|omega|(simp only[ByteArray.size_append];omega))) ?_;refine RQ.au rfl rfl rfl rfl (aI rfl) ?_;refine RQ.au rfl rfl rfl rfl (aj.ax underlying87 H.fq rfl rfl 0 rfl rfl (by simp)) ?_;refine RQ.au rfl rfl rfl rfl (ai H.fM rfl hc0) ?_;refine RQ.au rfl rfl rfl rfl (aj.bR rfl rfl (by first|omega|(simp only[ByteArray.size_append];omega))) ?_;refine RQ.au rfl rfl rfl rfl (aj.bR rfl rfl (by first|omega|(simp only[ByteArray.size_append];omega))) ?_;refine RQ.au rfl rfl rfl rfl (aj.assign rfl) ?_;refine cB rfl ?_;refine xu [1,2,3,7,8,9,10,20,21,26] rfl ?_;refine G.ret func31 rfl rfl ?_;refine⟨_,rfl,?_,e0g⟩;rw[gV (by decide)]
       show Value.string ((((bs [40]++bs t)++bs [32])++bs (bL false x0))++bs [41])=_
       simp only[cS];rfl
     · refine aY func31 2 [1,3,7,8,9,10,20,21,26,37] rfl ?_;refine aO rfl rfl (fun c5=>?_) (fun c5=>?_)
       · subst c5;have hbd2:2<=l.length/\l.length<=2:=hbd.2;obtain⟨x0,x1,rfl⟩:=Jp (show l.length=2 by omega);have hb0:=hkl x0 (by simp);have hb1:=hkl x1 (by simp);obtain⟨rg,rfl,_,_,hc0⟩:=kV ho 0 (x:=bL false x0) rfl;obtain⟨rg',hrg,_,_,hc1⟩:=kV ho 1 (x:=bL false x1) rfl;cases hrg;refine av rfl ?_;refine G.ew func31 H.mixed rfl (by kernel_rfl) ?_;refine RQ.au rfl rfl rfl rfl (aI rfl) ?_;refine RQ.au rfl rfl rfl rfl (aj.ax underlying87 H.fq rfl rfl 0 rfl rfl (by simp)) ?_;refine RQ.au rfl rfl rfl rfl (ai H.fM rfl hc0) ?_;refine RQ.au rfl rfl rfl rfl (aj.bR rfl rfl (by first|omega|(simp only[ByteArray.size_append];omega))) ?_;refine RQ.au rfl rfl rfl rfl (aj.bR rfl rfl (by first|omega|(simp only[ByteArray.size_append];omega))) ?_;refine RQ.au rfl rfl rfl rfl (af (off:=1) underlying25 rfl rfl H.fq rfl) ?_;refine RQ.au rfl rfl rfl rfl (ai H.fM rfl (kg.cell (i:=1) rfl)) ?_;refine RQ.au rfl rfl rfl rfl (aj.bR rfl rfl (by first|omega|(simp only[ByteArray.size_append];omega))) ?_;refine RQ.au rfl rfl rfl rfl (aj.bR rfl rfl (by first|omega|(simp only[ByteArray.size_append];omega))) ?_;refine RQ.au rfl rfl rfl rfl (aI rfl) ?_;refine RQ.au rfl rfl rfl rfl (aj.ax underlying87 H.fq rfl rfl 1 rfl rfl (by simp)) ?_;refine RQ.au rfl rfl rfl rfl (ai H.fM rfl hc1) ?_;refine RQ.au rfl rfl rfl rfl (aj.bR rfl rfl (by first|omega|(simp only[ByteArray.size_append];omega))) ?_;refine RQ.au rfl rfl rfl rfl (aj.bR rfl rfl (by first|omega|(simp only[ByteArray.size_append];omega))) ?_;refine RQ.au rfl rfl rfl rfl (aj.assign rfl) ?_;refine cB rfl ?_;refine xu [1,2,3,7,8,9,10,20,21,26,37] rfl ?_;refine G.ret func31 rfl rfl ?_;refine⟨_,rfl,?_,e0g⟩;rw[gV (by decide)]
         show Value.string ((((((bs [40]++bs (bL false x0))++bs [32])++bs t)++bs [32])++bs (bL false x1))++bs [41])=_
         simp only[cS];rfl
       · refine aY func31 2 [1,3,7,8,9,10,20,21,26,37,53] rfl ?_;refine aO rfl rfl (fun c6=>?_) (fun c6=>?_)
         · subst c6;have hbd2:3<=l.length/\l.length<=3:=hbd.2;have hcall:=hch rfl g O _ (hg.ay e0g) (hv.mv (Mv.ay e0g));have hpl:=iY (.mk 6 t l) true;have hq:=bu (bL true (.mk 6 t l));refine xr func31 rfl ?_;refine xp rfl (aj.aH H.bQ H.aV rfl kg.row (by first|rfl|(simp;done)|(simp;omega))) ?_;refine xo rfl (aq (vs:=[_]) func59 rfl H.Ka rfl (ah.br (hcall))) ?_;rintro _ g2 ⟨rfl,e2⟩;refine xp rfl (aj.bR rfl rfl (by first|omega|(simp only[ByteArray.size_append];omega))) ?_;refine xp rfl (aj.bR rfl rfl (by first|omega|(simp only[ByteArray.size_append];omega))) ?_;refine aS 1 [1,2,3,7,8,9,10,20,21,26,37,53] rfl ?_;refine G.ret func31 rfl rfl ?_;refine⟨_,rfl,?_,e0g.trans e2⟩;obtain⟨x0,x1,x2,rfl⟩:=KM (show l.length=3 by omega);rw[Hl,<-zY t]
           show Value.string ((bs [40]++bs (bL true (.mk 6 t [x0,x1,x2])))++bs [41])=_
           simp only[cS]
         · rw[gV c6];refine aY func31 2 [1,3,7,8,9,10,20,21,26,37,53,59] rfl ?_;refine aO rfl rfl (fun c7=>?_) (fun c7=>?_)
           · subst c7;have hbd2:1<=l.length/\l.length<=2:=hbd.2;refine av rfl ?_;refine bp func31 1 rfl ?_;refine xp rfl (aj.aK underlying87 rfl) ?_;refine aS 1 [1,3,7,8,9,10,20,21,26,37,53,59,63] rfl ?_;refine aO rfl rfl (fun hone=>?_) (fun hone=>?_)
             · obtain⟨x0,rfl⟩:=Jq (show l.length=1 by omega);have hb0:=hkl x0 (by simp);obtain⟨rg,rfl,_,_,hc0⟩:=kV ho 0 (x:=bL false x0) rfl;refine av rfl ?_;refine G.ew func31 H.mixed rfl (by kernel_rfl) ?_;refine RQ.au rfl rfl rfl rfl (af (off:=1) underlying25 rfl rfl H.fq rfl) ?_;refine RQ.au rfl rfl rfl rfl (ai H.fM rfl (kg.cell (i:=1) rfl)) ?_;refine RQ.au rfl rfl rfl rfl (aj.bR rfl rfl (by first|omega|(simp only[ByteArray.size_append];omega))) ?_;refine RQ.au rfl rfl rfl rfl (aj.bR rfl rfl (by first|omega|(simp only[ByteArray.size_append];omega))) ?_;refine RQ.au rfl rfl rfl rfl (aI rfl) ?_;refine RQ.au rfl rfl rfl rfl (aj.ax underlying87 H.fq rfl rfl 0 rfl rfl (by simp)) ?_;refine RQ.au rfl rfl rfl rfl (ai H.fM rfl hc0) ?_;refine RQ.au rfl rfl rfl rfl (aj.bR rfl rfl (by first|omega|(simp only[ByteArray.size_append];omega))) ?_;refine RQ.au rfl rfl rfl rfl (aj.assign rfl) ?_;refine cB rfl ?_;refine xu [1,2,3,7,8,9,10,20,21,26,37,53,59,63] rfl ?_;refine G.ret func31 rfl rfl ?_;refine⟨_,rfl,?_,e0g⟩
               show Value.string (((bs [108,101,116,32]++bs t)++bs [32,61,32])++bs (bL false x0))=_
               simp only[cS];rfl
             · obtain⟨x0,x1,rfl⟩:=Jp (show l.length=2 by omega);have hb0:=hkl x0 (by simp);have hb1:=hkl x1 (by simp);obtain⟨rg,rfl,_,_,hc0⟩:=kV ho 0 (x:=bL false x0) rfl;obtain⟨rg',hrg,_,_,hc1⟩:=kV ho 1 (x:=bL false x1) rfl;cases hrg;refine aB rfl ?_;refine av rfl ?_;refine G.ew func31 H.mixed rfl (by kernel_rfl) ?_;refine RQ.au rfl rfl rfl rfl (af (off:=1) underlying25 rfl rfl H.fq rfl) ?_;refine RQ.au rfl rfl rfl rfl (ai H.fM rfl (kg.cell (i:=1) rfl)) ?_;refine RQ.au rfl rfl rfl rfl (aj.bR rfl rfl (by first|omega|(simp only[ByteArray.size_append];omega))) ?_;refine RQ.au rfl rfl rfl rfl (aj.bR rfl rfl (by first|omega|(simp only[ByteArray.size_append];omega))) ?_;refine RQ.au rfl rfl rfl rfl (aI rfl) ?_;refine RQ.au rfl rfl rfl rfl (aj.ax underlying87 H.fq rfl rfl 0 rfl rfl (by simp)) ?_;refine RQ.au rfl rfl rfl rfl (ai H.fM rfl hc0) ?_;refine RQ.au rfl rfl rfl rfl (aj.bR rfl rfl (by first|omega|(simp only[ByteArray.size_append];omega))) ?_;refine RQ.au rfl rfl rfl rfl (aj.bR rfl rfl (by first|omega|(simp only[ByteArray.size_append];omega))) ?_;refine RQ.au rfl rfl rfl rfl (aI rfl) ?_;refine RQ.au rfl rfl rfl rfl (aj.ax underlying87 H.fq rfl rfl 1 rfl rfl (by simp)) ?_;refine RQ.au rfl rfl rfl rfl (ai H.fM rfl hc1) ?_;refine RQ.au rfl rfl rfl rfl (aj.bR rfl rfl (by first|omega|(simp only[ByteArray.size_append];omega))) ?_;refine RQ.au rfl rfl rfl rfl (aj.bR rfl rfl (by first|omega|(simp only[ByteArray.size_append];omega))) ?_;refine RQ.au rfl rfl rfl rfl (aj.assign rfl) ?_;refine cB rfl ?_;refine xu [1,2,3,7,8,9,10,20,21,26,37,53,59,63] rfl ?_;refine G.ret func31 rfl rfl ?_;refine⟨_,rfl,?_,e0g⟩
               show Value.string ((((((bs [40,108,101,116,32]++bs t)++bs [32,61,32])++bs (bL false x0))++bs [32,105,110,32])++bs (bL false x1))++bs [41])=_
               simp only[cS];rfl
           · refine aY func31 2 [1,3,7,8,9,10,20,21,26,37,53,59,86] rfl ?_;refine aO rfl rfl (fun c8=>?_) (fun c8=>?_)
             · subst c8;have hbd2:1<=l.length/\l.length<=1:=hbd.2;obtain⟨x0,rfl⟩:=Jq (show l.length=1 by omega);have hb0:=hkl x0 (by simp);obtain⟨rg,rfl,_,_,hc0⟩:=kV ho 0 (x:=bL false x0) rfl;refine av rfl ?_;refine G.ew func31 H.mixed rfl (by kernel_rfl) ?_;refine RQ.au rfl rfl rfl rfl (af (off:=1) underlying25 rfl rfl H.fq rfl) ?_;refine RQ.au rfl rfl rfl rfl (ai H.fM rfl (kg.cell (i:=1) rfl)) ?_;refine RQ.au rfl rfl rfl rfl (aj.bR rfl rfl (by first|omega|(simp only[ByteArray.size_append];omega))) ?_;refine RQ.au rfl rfl rfl rfl (aj.bR rfl rfl (by first|omega|(simp only[ByteArray.size_append];omega))) ?_;refine RQ.au rfl rfl rfl rfl (aI rfl) ?_;refine RQ.au rfl rfl rfl rfl (aj.ax underlying87 H.fq rfl rfl 0 rfl rfl (by simp)) ?_;refine RQ.au rfl rfl rfl rfl (ai H.fM rfl hc0) ?_;refine RQ.au rfl rfl rfl rfl (aj.bR rfl rfl (by first|omega|(simp only[ByteArray.size_append];omega))) ?_;refine RQ.au rfl rfl rfl rfl (aj.bR rfl rfl (by first|omega|(simp only[ByteArray.size_append];omega))) ?_;refine RQ.au rfl rfl rfl rfl (aj.assign rfl) ?_;refine cB rfl ?_;refine xu [1,2,3,7,8,9,10,20,21,26,37,53,59,86] rfl ?_;refine G.ret func31 rfl rfl ?_;refine⟨_,rfl,?_,e0g⟩
               show Value.string ((((bs [40,102,117,110,32]++bs t)++bs [32,45,62,32])++bs (bL false x0))++bs [41])=_
               simp only[cS];rfl
             · refine aY func31 2 [1,3,7,8,9,10,20,21,26,37,53,59,86,97] rfl ?_;refine aO rfl rfl (fun c9=>?_) (fun c9=>?_)
               · subst c9;have hbd2:2<=l.length/\l.length<=2:=hbd.2;obtain⟨x0,x1,rfl⟩:=Jp (show l.length=2 by omega);have hb0:=hkl x0 (by simp);have hb1:=hkl x1 (by simp);obtain⟨rg,rfl,_,_,hc0⟩:=kV ho 0 (x:=bL false x0) rfl;obtain⟨rg',hrg,_,_,hc1⟩:=kV ho 1 (x:=bL false x1) rfl;cases hrg;refine av rfl ?_;refine G.ew func31 H.mixed rfl (by kernel_rfl) ?_;refine RQ.au rfl rfl rfl rfl (aI rfl) ?_;refine RQ.au rfl rfl rfl rfl (aj.ax underlying87 H.fq rfl rfl 0 rfl rfl (by simp)) ?_;refine RQ.au rfl rfl rfl rfl (ai H.fM rfl hc0) ?_;refine RQ.au rfl rfl rfl rfl (aj.bR rfl rfl (by first|omega|(simp only[ByteArray.size_append];omega))) ?_;refine RQ.au rfl rfl rfl rfl (aI rfl) ?_;refine RQ.au rfl rfl rfl rfl (aj.ax underlying87 H.fq rfl rfl 1 rfl rfl (by simp)) ?_;refine RQ.au rfl rfl rfl rfl (ai H.fM rfl hc1) ?_;refine RQ.au rfl rfl rfl rfl (aj.bR rfl rfl (by first|omega|(simp only[ByteArray.size_append];omega))) ?_;refine RQ.au rfl rfl rfl rfl (aj.bR rfl rfl (by first|omega|(simp only[ByteArray.size_append];omega))) ?_;refine RQ.au rfl rfl rfl rfl (aj.assign rfl) ?_;refine cB rfl ?_;refine xu [1,2,3,7,8,9,10,20,21,26,37,53,59,86,97] rfl ?_;refine G.ret func31 rfl rfl ?_;refine⟨_,rfl,?_,e0g⟩
                 show Value.string (((bs (bL false x0)++bs [40])++bs (bL false x1))++bs [41])=_
                 simp only[cS];rfl
               · refine aY func31 2 [1,3,7,8,9,10,20,21,26,37,53,59,86,97,108] rfl ?_;refine aO rfl rfl (fun c10=>?_) (fun c10=>?_)
                 · subst c10;have hq:=bu (gJ (l.map (bL false)));refine bp func31 1 rfl ?_;refine xo rfl (aq (vs:=[_,_]) func60 rfl H.LS rfl (ah.br (CG (cO.read (h1:=fun _=>rfl) ho (fun _ _ k=>k)) (by omega)))) ?_;rintro _ g2 ⟨rfl,e2⟩;refine xp rfl (aj.bR rfl rfl (by first|omega|(simp only[ByteArray.size_append];omega))) ?_;refine xp rfl (aj.bR rfl rfl (by first|omega|(simp only[ByteArray.size_append];omega))) ?_;refine aS 1 [1,2,3,7,8,9,10,20,21,26,37,53,59,86,97,108] rfl ?_;refine G.ret func31 rfl rfl ?_;refine⟨_,rfl,?_,e0g.trans e2⟩
                   show Value.string ((bs [123,32]++bs (gJ (l.map (bL false))))++bs [32,125])=_
                   simp only[cS];rfl
                 · refine aB rfl ?_;refine G.aQ ?_;refine xr func31 rfl ?_;refine xp rfl (af (off:=1) underlying25 rfl rfl H.fq rfl) ?_;refine xp rfl (ai H.fM rfl (kg.cell (i:=1) rfl)) ?_;refine aS 1 [1,2,3,7,8,9,10,20,21,26,37,53,59,86,97,108] rfl ?_;refine G.ret func31 rfl rfl ?_;refine⟨_,rfl,?_,e0g⟩;unfold tE;rw[if_neg c1,if_neg c4,if_neg c5,if_neg c6,if_neg c7,if_neg c8,if_neg c9,if_neg c10];rfl
theorem E7:∀(d:Nat) (x:Tr),x.dep<=d->x.wt<=1000000->eD de x=true->vD x/\(x.kind=6->xI x):=by
 intro d
 induction d with
 |zero=>intro x hx;cases x with|mk k t l=>simp[Tr.dep] at hx
 |succ d ih =>
 intro x hd hw hva;cases x with
 |mk k t l =>
  have hva0:=hva;rw[qn,tF,Bool.and_eq_true,Bool.and_eq_true] at hva;obtain⟨⟨hbd,_⟩,hvq⟩:=hva;have hbd:(0<=k/\k<=10)/\(fe k).1<=l.length/\l.length<=(fe k).2:=of_decide_eq_true hbd;have hk:∀y∈l,vD y/\(y.kind=6->xI y):=fun y hy=>ih y (by have:=yS (k:=k) (t:=t) hy;omega) (by have:=ql (k:=k) (t:=t) hy;omega) (wq hvq hy)
  have hch:k=6->xI (.mk k t l):=fun q=>by
   subst q;have hbd2:3<=l.length/\l.length<=3:=hbd.2;obtain⟨x0,x1,x2,rfl⟩:=KM (show l.length=3 by omega);exact Et hw (hk x0 (by simp)).1 (hk x1 (by simp)).1 (hk x2 (by simp)).1 (hk x2 (by simp)).2
  exact⟨Hj hw hva0 (fun y hy=>(hk y hy).1) hch,hch⟩
def tC (x:Tr):By:=if eD de x=true then bL false x else []
theorem vC (hw:x.wt<=1000000) (hg:CI h) (hv:fN h O v x):ah Tryz.prog 12 #[v] h (cT fun r h'=>r= .string (bs (tC x))/\aD h h'):=by
 obtain⟨k,t,a,n,c,rfl,hR⟩:=id hv.get;refine ah.of func12 rfl rfl ?_;refine xr func12 rfl ?_;refine xo rfl (aA.gu rfl) ?_;rintro _ h1 ⟨rfl,k1,e1,z1⟩;refine aS 1 [0,1,2] rfl ?_;refine av rfl ?_;refine xr func12 rfl ?_;refine xp rfl (aj.aH H.bQ H.aV rfl k1.row (by first|rfl|(simp;done)|(simp;omega))) ?_;refine xo rfl (aq (vs:=[_]) func13 rfl H.L9 rfl (ah.br (zG hw (hg.ay e1) (hv.mv (Mv.ay e1))))) ?_;rintro _ h2 ⟨rfl,e2⟩;refine aS 1 [0,1,2,5] rfl ?_;refine aG rfl rfl (fun hb=>?_) (fun hb=>?_)
 · have hb:eD de x=false:=by simpa using hb
   refine aY func12 1 [0,1,2,5] rfl ?_;refine G.ret func12 rfl rfl ?_;exact⟨_,rfl,by unfold tC;rw[hb];rfl,e1.trans e2⟩
 · have hb:eD de x=true:=by simpa using hb
   have hcall:=(E7 _ x (Nat.le_refl _) hw hb).1 h2 O _ (hg.ay (e1.trans e2)) (hv.mv (Mv.ay (e1.trans e2)));refine aB rfl ?_;refine xr func12 rfl ?_;refine xp rfl (aj.aH H.bQ H.aV rfl (k1.ay e2).row (by first|rfl|(simp;done)|(simp;omega))) ?_;refine xo rfl (aq (vs:=[_]) func31 rfl H.FG rfl (ah.br (hcall))) ?_;rintro _ h3 ⟨rfl,e3⟩;refine aS 1 [0,1,2,5] rfl ?_;refine G.ret func12 rfl rfl ?_;exact⟨_,rfl,by unfold tC;rw[if_pos hb];rfl,(e1.trans e2).trans e3⟩
def I3 (x:Tr):Prop:=∀(y:Tr) (h:az) (O O':Nat->Prop) (v v':Value),fN h O v x->fN h O' v' y->ah Tryz.prog 14 #[v,v'] h (cT fun r h'=>r= .bool (rm x y)/\aD h h')
theorem drop_cons {l:List α}{i:Nat}{x:α}(h:l[i]? =some x):l.drop i=x::l.drop (i+1):=by
 obtain⟨h1,h2⟩:=List.getElem?_eq_some_iff.1 h;rw[List.drop_eq_getElem_cons h1,h2]
theorem Fg {l':List Tr}(h:l.length≠l'.length):ke l l'=false:=by
 rw[Bool.eq_false_iff];intro q;rw[qx] at q;rw[q] at h;exact h rfl
theorem AY {O':Nat->Prop}{l':List Tr}{v':Value}(hs:∀x∈l,I3 x) (hv:bS eN h O v l) (hv':bS eN h O' v' l') :
 ah Tryz.prog 33 #[v,v',.func (.func 14) #[] #[]] h (cT fun r h'=>r= .bool (ke l l')/\aD h h'):=by
 obtain⟨a,n,c,rfl,hws⟩:=id hv.open;obtain⟨a',n',c',rfl,hws'⟩:=id hv'.open;have hn:l.length=n:=hws.len;have hn':l'.length=n':=hws'.len;subst hn hn';have hcap:=hws.cap;have hle:=hws.le;simp only[maxLen] at hcap;have hfn:Ik Tryz.prog 14:=⟨_,func14,rfl,by kernel_rfl⟩
 refine ah.of func33 rfl rfl ?_;refine aY func33 1 [0,1,2,6] rfl ?_;refine av rfl ?_;refine bp func33 1 rfl ?_;refine xp rfl (aj.aK underlying23 rfl) ?_;refine ct 1 rfl rfl (aj.aK underlying23 rfl) ?_;refine aS 1 [0,1,2,6,14] rfl ?_;refine aO rfl rfl (fun hne=>?_) (fun hne=>?_)
 · refine aY func33 1 [0,1,2,6,14] rfl ?_;refine G.ret func33 rfl rfl ?_;exact⟨_,rfl,by rw[Fg (by omega)];rfl,Ext.refl _ _⟩
 · have hll:l.length=l'.length:=by omega
   refine aB rfl ?_;refine av rfl ?_;refine bp func33 1 rfl ?_;refine xp rfl (aj.aK underlying23 rfl) ?_;refine aS 1 [0,1,2,6,14,15,16,17] rfl ?_;refine G.block rfl rfl ?_;refine bD (σ:=Nat) (fun i=>[(15,.slice a l.length c),(1,.slice a' l'.length c'),(2,.func (.func 14) #[] #[]),(16,.int .i64 (l.length:Nat)),(17,.int .i64 (i:Nat))]) (fun i g=>i<=l.length/\aD h g/\ke (l.drop i) (l'.drop i)=ke l l') (fun i=>l.length-i) (0) rfl ⟨rfl,rfl,rfl,rfl,rfl,trivial⟩ ⟨Nat.zero_le _,Ext.refl _ _,rfl⟩ ?_;rintro i g ⟨hi,eg,hq⟩ ih;refine aY func33 1 [1,2,15,16,17,18] rfl ?_;refine av rfl ?_;refine aO rfl rfl (fun hlt=>?_) (fun hlt=>?_)
   · have hil:i<l.length:=by omega
     obtain⟨b,o,x,xk,xt,xa,xn,xc,ha,hx,hrow,hnx,_,_⟩:=mF (hws.mv (Mv.ay eg)) hil;rw[drop_cons hx] at hq;refine aB rfl ?_;refine av rfl ?_;refine G.block rfl rfl ?_;refine bp func33 1 rfl ?_;refine xp rfl (aj.ax underlying23 H.aV rfl rfl i rfl ha (by omega)) ?_;refine xp rfl (aj.aH H.bQ H.aV rfl hrow (by first|rfl|(simp;done)|(simp;omega))) ?_;refine xo rfl (aA.aX H.fu) ?_;rintro _ g1 ⟨rfl,kn,e3,z3⟩;refine bf 1 rfl ?_;refine RW.b9 rfl rfl rfl (aA.aC H.aV rfl rfl kn (by first|rfl|(simp;done)|(simp;omega)) (by first|decide|exact of_decide_eq_true rfl|(simp;done)|(simp;omega)) (jL)) ?_;rintro _ g2 ⟨rfl,kx,x2,z2⟩;have kx:bh g2 g.size 25 (sV xk xt xa xn xc):=kx;have eg2:aD g g2:=aD.only e3 x2 (Nat.le_refl _);obtain⟨b',o',y,yk,yt,ya,yn,yc,ha',hy,hrow',hny,_,_⟩:=mF (hws'.mv (Mv.ay (eg.trans eg2))) (show i<l'.length by omega);rw[drop_cons hy,ke] at hq;refine xd [1,2,7,8,15,16,17,18] rfl ?_;refine bp func33 2 rfl ?_;refine xp rfl (aj.ax underlying23 H.aV rfl rfl i rfl ha' (by omega)) ?_;refine xp rfl (aj.aH H.bQ H.aV rfl hrow' (by first|rfl|(simp;done)|(simp;omega))) ?_;refine xo rfl (aA.aX H.fu) ?_;rintro _ g3 ⟨rfl,kn',e4,z4⟩;refine RW.b9 rfl rfl rfl (aA.aC H.aV rfl rfl kn' (by first|rfl|(simp;done)|(simp;omega)) (by first|decide|exact of_decide_eq_true rfl|(simp;done)|(simp;omega)) (jL)) ?_;rintro _ g4 ⟨rfl,ky,x4,zz4⟩;have ky:bh g4 g2.size 25 (sV yk yt ya yn yc):=ky;have eg4:aD g2 g4:=aD.only e4 x4 (Nat.le_refl _);have hcall:=hs x (List.mem_of_getElem? hx) y g4 O O' _ _ (hnx.mv (Mv.ay (eg2.trans eg4))) (hny.mv (Mv.ay eg4));refine xd [1,2,7,8,9,15,16,17,18] rfl ?_;refine bp func33 1 rfl ?_;refine xp rfl (aj.aH H.bQ H.aV rfl (kx.ay eg4).row (by first|rfl|(simp;done)|(simp;omega))) ?_;refine xp rfl (aj.aH H.bQ H.aV rfl ky.row (by first|rfl|(simp;done)|(simp;omega))) ?_;refine xo rfl (aA.Gy (vs:=[_,_]) rfl hfn rfl (ah.br (hcall))) ?_;rintro _ g5 ⟨rfl,e5⟩;refine aS 1 [1,2,7,8,9,15,16,17,18,30] rfl ?_;refine aG rfl rfl (fun hb=>?_) (fun hb=>?_)
     · have hb:rm x y=false:=by simpa using hb
       refine aY func33 1 [1,2,6,7,8,9,15,16,17,18,30] rfl ?_;refine G.ret func33 rfl rfl ?_;exact⟨_,rfl,by rw[<-hq,hb];rfl,((eg.trans eg2).trans eg4).trans e5⟩
     · have hb:rm x y=true:=by simpa using hb
       rw[hb,Bool.true_and] at hq;refine aB rfl ?_;refine G.aQ ?_;refine G.cq func33 rfl ?_;refine xp rfl (aj.bC rfl rfl ⟨by omega,by omega⟩) ?_;refine aS 1 [1,2,7,8,9,15,16,17,18,30] rfl ?_;exact ih (i+1) _ _ ⟨rfl,rfl,rfl,rfl,rfl,trivial⟩ ⟨hil,((eg.trans eg2).trans eg4).trans e5,hq⟩ (by omega)
   · obtain rfl:i=l.length:=by omega
     rw[List.drop_length,hll,List.drop_length] at hq;refine bw rfl rfl ?_;refine aY func33 1 [1,2,6,15,16,17,18] rfl ?_;refine G.ret func33 rfl rfl ?_;exact⟨_,rfl,by rw[<-hq];rfl,eg⟩
theorem Ff:∀(d:Nat) (x:Tr),x.dep<=d->I3 x:=by
 intro d
 induction d with
 |zero=>intro x hx;cases x with|mk k t l=>simp[Tr.dep] at hx
 |succ d ih =>
 intro x hd y h O O' v v' hv hv';cases x with
 |mk k t l =>
 cases y with
 |mk k' t' l' =>
  obtain⟨w,rfl,hw⟩:=id hv.open;obtain⟨a,n,c,rfl,_⟩:=id hw.open;obtain⟨w',rfl,hw'⟩:=id hv'.open;obtain⟨a',n',c',rfl,_⟩:=id hw'.open;rw[rm];refine ah.of func14 rfl rfl ?_;refine xr func14 rfl ?_;refine xo rfl (aA.gu rfl) ?_;rintro _ h1 ⟨rfl,k1,e1,z1⟩;refine xo rfl (aA.gu rfl) ?_;rintro _ h2 ⟨rfl,k2,e2,z2⟩;have k1:bh h2 h.size 25 (sV k t a n c):=k1.ay e2;have k2:bh h2 h1.size 25 (sV k' t' a' n' c'):=k2;have e02:=e1.trans e2;have heq:=AY (fun x hx=>ih x (by have:=yS (k:=k) (t:=t) hx;omega)) (hw.ay e02) (hw'.ay e02);refine aS 1 [0,1,2,3,4] rfl ?_;refine av rfl ?_;refine G.tO (fun(u:Unit) (h':az)=>aD h2 h') (fun(u:Unit)=>[(4,.bool (decide (k=k') && (decide (t=t') && ke l l')))]) [(0,_),(1,_),(2,_),(3,_)] ⟨rfl,rfl,rfl,rfl,trivial⟩ func14 rfl ?_ ?_
  · refine xp rfl (af (off:=0) underlying25 rfl rfl H.bW rfl) ?_;refine xp rfl (ai H.cM rfl (k1.cell (i:=0) rfl)) ?_;refine xp rfl (af (off:=0) underlying25 rfl rfl H.bW rfl) ?_;refine xp rfl (ai H.cM rfl (k2.cell (i:=0) rfl)) ?_;refine bf 2 rfl ?_;refine aN (d:=10) rfl (fun p=>?_) (fun p=>?_)
    · have p:=of_decide_eq_true p;refine xp rfl (af (off:=1) underlying25 rfl rfl H.fq rfl) ?_;refine xp rfl (ai H.fM rfl (k1.cell (i:=1) rfl)) ?_;refine xp rfl (af (off:=1) underlying25 rfl rfl H.fq rfl) ?_;refine xp rfl (ai H.fM rfl (k2.cell (i:=1) rfl)) ?_;refine xp rfl (aj.dV rfl rfl) ?_;refine bf 2 rfl ?_;refine aN (d:=17) rfl (fun q=>?_) (fun q=>?_)
      · have q:t=t':=eK (of_decide_eq_true q);refine xp rfl (af (off:=2) underlying25 rfl rfl H.fO rfl) ?_;refine xp rfl (ai H.lV rfl (k1.cell (i:=2) rfl)) ?_;refine xp rfl (af (off:=2) underlying25 rfl rfl H.fO rfl) ?_;refine xp rfl (ai H.lV rfl (k2.cell (i:=2) rfl)) ?_;refine xo rfl (aq (vs:=[_,_,_]) func33 rfl H.L2 rfl (ah.br (heq))) ?_;rintro _ h3 ⟨rfl,e3⟩;refine bf 2 rfl ?_;refine aE rfl ?_;exact⟨(),e3,aF rfl (by rw[decide_eq_true p,decide_eq_true q];rfl),rfl,rfl,rfl,rfl,trivial⟩
      · have q:¬t=t':=fun r=>of_decide_eq_false q (by rw[r])
        refine bf 7 rfl ?_;refine aE rfl ?_;exact⟨(),Ext.refl _ _,aF rfl (by rw[decide_eq_false q,decide_eq_true p];rfl),rfl,rfl,rfl,rfl,trivial⟩
    · have p:=of_decide_eq_false p;refine bf 14 rfl ?_;refine aE rfl ?_;exact⟨(),Ext.refl _ _,aF rfl (by rw[decide_eq_false p];rfl),rfl,rfl,rfl,rfl,trivial⟩
  · rintro u h3 e3;refine G.ret func14 rfl rfl ?_;exact⟨_,rfl,rfl,e02.trans e3⟩
theorem Cy {y:Tr}{O':Nat->Prop}{v':Value}(hv:fN h O v x) (hv':fN h O' v' y):ah Tryz.prog 14 #[v,v'] h (cT fun r h'=>r= .bool (rm x y)/\aD h h'):=Ff _ x (Nat.le_refl _) y h O O' v v' hv hv'
end
end Go.Proofs.YtmehdcdbeafljaaGreatDoor

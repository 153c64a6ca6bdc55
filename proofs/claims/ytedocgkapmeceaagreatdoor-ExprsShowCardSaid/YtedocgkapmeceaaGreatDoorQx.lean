/- What the proof of the statement leans on (part 24). -/
import Derived.Below
import Derived.Lib.TrimUEq
import Derived.Test.YtedocgkapmeceaaGreatDoorQw

namespace Go.Proofs.YtedocgkapmeceaaGreatDoor
open Go.Proofs.Tryz
open Go Go.Lw
set_option maxRecDepth 20000
section
variable {h:aD}{p:Value}
def IL (h:aD):Prop:=(∀c,c<256→cellAt h ⟨4,c,none⟩=some (.int .u8 (Lib.firstT c))) ∧
 (∀i,i<16→cellAt h ⟨5,2*i,none⟩=some (.int .u8 (Lib.accLo i))∧cellAt h ⟨5,2*i+1,none⟩=some (.int .u8 (Lib.accHi i)))
structure CF (h:aD):Prop where
 sg:∃lim,lim≤h.size∧Sg h lim
 tens:th h
 rules:lR h
 utf:IL h
 most:∃m,cellAt h ⟨6,0,none⟩=some (.int .i64 m)
theorem CF.ax {h h':aD}(k:CF h) (e:aF h h'):CF h':=by
 obtain⟨⟨lim,h1,h2⟩,h3,h4,h5,m,h6⟩:=k;have hz:=e.size;exact⟨⟨lim,by omega,h2.ext e (fun _ k=>k.elim)⟩,h3.ax e,h4.ax e,⟨fun c hc=>e.cell (fun k=>k) (h5.1 c hc),fun i hi=>⟨e.cell (fun k=>k) (h5.2 i hi).1,e.cell (fun k=>k) (h5.2 i hi).2⟩⟩,m,e.cell (fun k=>k) h6⟩
theorem yW (hg:CF h) (l:By) (hl:l≠[]):ai Tryz.prog 118 #[.string (bs l)] h (cL fun r h'=>(∃x:Nat,r= .tuple #[.int .i32 (x:Nat),.int .i64 (pS l:Nat)])∧aF h h'):=by
 refine ai.yx fun w hw=>?_
 subst hw;have hT:Lib.Utf8Tabs 4 5 w:=⟨fun c hc=>by rw[dG];exact hg.utf.1 c hc,fun i hi=>⟨by rw[dG];exact(hg.utf.2 i hi).1,by rw[dG];exact(hg.utf.2 i hi).2⟩⟩
 refine(iD (bs l) w hT).mono ?_;rintro e w' ⟨rfl,hb⟩
 have hn:(Lib.decodeGo (bs l)).2=pS l:=by
  have h0:¬(bs l).size=0:=by rw[bp];have:=List.length_pos_iff.2 hl;omega
  unfold Lib.decodeGo;rw[if_neg h0,Lib.decode_N,gC];rfl
 refine⟨_,rfl,⟨⟨(Lib.decodeGo (bs l)).1,by rw[hn]⟩,⟨hb.size,fun b hlt _=>hb.block b hlt⟩⟩,hb.os,hb.tape,hb.output⟩
theorem mW (hg:CF h) (s t:By) (hs:s.length≤1000000):ai Tryz.prog 120 #[.string (bs s),.string (bs t)] h (cL fun r h'=>r= .bool (Lib.contains s t)∧h'=h):=by
 obtain⟨m,hm⟩:=hg.most;refine ai.yx fun w hw=>?_
 subst hw;refine(mq (bs s) (bs t) m w (by rw[bp];omega) (by rw[dG];exact hm)).mono ?_;rintro e w' ⟨rfl,rfl⟩;rw[gC,gC];exact⟨_,rfl,⟨rfl,rfl⟩,rfl,rfl,rfl⟩
theorem tH (hg:CF h) (s:By) (hs:s.length≤1000000):ai Tryz.prog 77 #[.string (bs s)] h (cL fun r h'=>r= .bool (bX s)∧h'=h):=by
 have hbs:=bp s
 have e1:((⟨#[32]⟩:ByteArray)++bs s)++⟨#[32]⟩=bs (32::(s++[32])):=by
  rw[show (⟨#[32]⟩:ByteArray)=bs [32] from rfl,bB,bB];rfl
 have w1:(⟨#[32]⟩:ByteArray).size=1:=rfl;refine ai.of func77 rfl rfl ?_;refine aW func77 1 [0,2] rfl ?_;refine av rfl ?_;refine G.bD [(2,.bool (bX s))] [(0,_)] ⟨rfl,trivial⟩ func77 rfl ?_ ?_
 · refine bP 1 rfl rfl (aj.oH rfl rfl) ?_;refine aT 1 rfl ?_;refine aH (d:=5) rfl (fun hc=>?_) (fun hc=>?_)
   · have hc':decide (s≠[])=true:=decide_eq_true (fun e=>of_decide_eq_true hc (by rw[e];rfl));refine aT 1 rfl ?_;refine xo rfl (aq (vs:=[_,_]) func120 rfl H.Is rfl (ai.bw (mW hg s [32] hs))) ?_;rintro _ h0 ⟨rfl,hh0⟩;subst hh0;refine aT 3 rfl ?_;refine aH (d:=10) rfl (fun hc2=>?_) (fun hc2=>?_)
     · refine bP 1 rfl rfl (aj.bf rfl rfl (by omega)) ?_;refine xp rfl (aj.bf rfl rfl (by rw[ByteArray.size_append];omega)) ?_;rw[e1];refine xo rfl (aq (vs:=[_,_]) func120 rfl H.Is rfl (ai.bw (mW hg jK (32::(s++[32])) (by decide)))) ?_;rintro _ h1 ⟨rfl,hh1⟩;subst hh1;refine aT 2 rfl ?_;refine az rfl ?_;exact⟨rfl,aA rfl (by rw[bX,hc',hc2,Bool.true_and,Bool.true_and]),rfl,trivial⟩
     · refine aT 6 rfl ?_;refine az rfl ?_;exact⟨rfl,aA rfl (by rw[bX,hc',hc2,Bool.true_and,Bool.false_and]),rfl,trivial⟩
   · refine aT 11 rfl ?_;refine az rfl ?_;exact⟨rfl,aA rfl (by rw[bX,decide_eq_false (fun k=>of_decide_eq_false hc (fun e=>k (dx (m:=[]) e))),Bool.false_and]),rfl,trivial⟩
 · refine G.ret func77 rfl rfl ?_;exact⟨_,rfl,rfl,rfl⟩
theorem Ef {m:Nat}(hm:m<3){i:Nat}:(oA m)[i]?.map (fun r=>(r.2.1,r.2.2))=(uL m)[i]? :=by
 have h:(oA m).map (fun r=>(r.2.1,r.2.2))=uL m:=by
  match m,hm with
  | 0,_=>decide
  | 1,_=>decide
  | 2,_=>decide
 rw[←h,List.getElem?_map]
theorem qZ {m:Int}(h:m<0∨3≤m):uL m=[]:=by
 unfold uL;rw[if_neg (by omega),if_neg (by omega),if_neg (by omega)]
theorem Em {α:Type}{l:List α}{kn:Nat}{n:Int}(hk:l.length=kn) (hn:¬n<0):decide ((kn:Int)≤n)= !(l[n.toNat]?).isSome:=by
 cases hq:l[n.toNat]? with
 |none=>have:=List.getElem?_eq_none_iff.1 hq;simp;omega
 |some v=>have:=(List.getElem?_eq_some_iff.1 hq).1;simp;omega
theorem uV (hg:CF h) (m n:Int):ai Tryz.prog 119 #[.int .i64 m,.int .i64 n] h (cL fun r h'=>(∃x:By×Int×Int,r= .tuple #[.agg (fc x).toArray,.bool (jh m n).isSome]∧∀p,jh m n=some p→(x.2.1,x.2.2)=p)∧aF h h'):=by
 refine ai.of func119 rfl rfl ?_;refine xr func119 rfl ?_;refine xo rfl (aC.aR H.zw) ?_;rintro _ h1 ⟨rfl,k1,e1,z1⟩;have k1:bq h1 h.size 138 [.string ⟨#[]⟩,.int .i64 0,.int .i64 0]:=k1
 have hrow:∀mm:Nat,mm<3→∃oa kn kc,cellAt h1 ⟨0,0+mm*1,none⟩=some (.slice oa kn kc)∧Sl Jd h1 (fun _=>False) oa kn kc (oA mm):=fun mm hmm=>by
  obtain⟨v,hv,hsl⟩:=(hg.rules.ax e1) mm hmm;obtain⟨oa,kn,kc,rfl,h2⟩:=hsl.open;exact⟨oa,kn,kc,by rw[Nat.mul_one,Nat.zero_add];exact hv,h2⟩
 have hlenT:∀mm:Nat,mm<3→(oA mm).length=(uL mm).length:=fun mm hmm=>by
  match mm,hmm with
  | 0,_=>rfl
  | 1,_=>rfl
  | 2,_=>rfl
 refine aQ 1 [0,1,4,5] rfl ?_;refine av rfl ?_;refine av rfl ?_;refine G.bD [(23,.bool (!(jh m n).isSome))] [(0,_),(1,_),(4,_),(5,_)] ⟨rfl,rfl,rfl,rfl,trivial⟩ func119 rfl ?_ ?_
 · refine aT 3 rfl ?_;refine aH (d:=8) rfl (fun c1=>?_) (fun c1=>?_)
   · have c1':=of_decide_eq_true c1;refine aT 15 rfl ?_;refine az rfl ?_;exact⟨rfl,aA rfl (by rw[jh,qZ (.inl c1')];simp),rfl,rfl,rfl,rfl,trivial⟩
   · have c1':=of_decide_eq_false c1;refine aT 4 rfl ?_;refine aH (d:=12) rfl (fun c2=>?_) (fun c2=>?_)
     · have c2':=of_decide_eq_true c2;refine aT 11 rfl ?_;refine az rfl ?_;exact⟨rfl,aA rfl (by rw[jh,qZ (.inr c2')];simp),rfl,rfl,rfl,rfl,trivial⟩
     · have c2':=of_decide_eq_false c2;refine aT 4 rfl ?_;refine aH (d:=16) rfl (fun c3=>?_) (fun c3=>?_)
       · have c3':=of_decide_eq_true c3;refine aT 7 rfl ?_;refine az rfl ?_;exact⟨rfl,aA rfl (by rw[jh,if_pos c3'];rfl),rfl,rfl,rfl,rfl,trivial⟩
       · have c3':=of_decide_eq_false c3;obtain⟨mm,rfl⟩:=Int.eq_ofNat_of_zero_le (show 0≤m by omega);have hmm:mm<3:=by omega
         obtain⟨oa,kn,kc,hv,hsl⟩:=hrow mm hmm;have hkl:=hsl.len;rw[hlenT mm hmm] at hkl;refine bP 2 rfl rfl (aj.cM underlying139 H.E3 rfl rfl mm rfl (by omega)) ?_;refine xp rfl (ah H.Dj rfl hv) ?_;refine xp rfl (aj.aJ underlying136 rfl) ?_;refine aT 2 rfl ?_;refine az rfl ?_;exact⟨rfl,aA rfl (by rw[jh,if_neg c3'];exact Em hkl c3'),rfl,rfl,rfl,rfl,trivial⟩
 · rcases hf:jh m n with _|p
   · refine aI rfl rfl (fun _=>?_) (fun hc=>absurd hc (by simp));refine xr func119 rfl ?_;refine xp rfl (aP (H.Jk ) rfl) ?_;refine RW.bZ rfl rfl rfl (aC.aB H.ke rfl rfl k1 (by first|rfl|(simp;done)|(simp;omega)) (by first|decide|exact of_decide_eq_true rfl|(simp;done)|(simp;omega)) (by first|decide|simp[Value.oneCell'])) ?_;rintro _ h2 ⟨rfl,k2,x2,z2⟩;refine aQ 1 [0,1,4,5,23] rfl ?_;have k2:bq h2 h.size 138 (fc ([],0,0)):=k2;refine G.cN func119 rfl (.cons (bu.cB H.Bm H.ke rfl (k2.row) (by first|rfl|(simp;done)|(simp;omega))) (.cons (bu.tmp rfl) (.nil))) ?_;exact⟨_,rfl,⟨([],0,0),rfl,fun p hp=>by cases hp⟩,e1.only x2 (Nat.le_refl _)⟩
   · have hn0:0≤n:=by
      by_cases q:n<0
      · rw[jh,if_pos q] at hf;cases hf
      · omega
     have hm0:0≤m∧m<3:=by
      by_cases q:m<0∨3≤m
      · rw[jh,qZ q] at hf;simp at hf
      · omega
     obtain⟨mm,rfl⟩:=Int.eq_ofNat_of_zero_le hm0.1;obtain⟨i,rfl⟩:=Int.eq_ofNat_of_zero_le hn0;have hmm:mm<3:=by omega
     obtain⟨oa,kn,kc,hv,hsl⟩:=hrow mm hmm;have hkl:=hsl.len;rw[jh,if_neg (by omega),Int.toNat_natCast,←Ef hmm] at hf;obtain⟨r,hr,hrp⟩:=Option.map_eq_some_iff.1 hf;obtain⟨b3,o3,cs3,ha3,_,hrow3,rfl⟩:=hsl.get i r hr;have hil:=(List.getElem?_eq_some_iff.1 hr).1;refine aI rfl rfl (fun hc=>absurd hc (by simp)) (fun _=>?_);refine aE rfl ?_;refine br func119 1 rfl ?_;refine xp rfl (aj.cM underlying139 H.E3 rfl rfl mm rfl (by omega)) ?_;refine xp rfl (ah H.Dj rfl hv) ?_;refine bP 1 rfl rfl (aj.ay underlying136 H.ke rfl rfl i rfl ha3 (by omega)) ?_;refine xp rfl (aj.aG H.Bm H.ke rfl hrow3 (by first|rfl|(simp;done)|(simp;omega))) ?_;refine RW.bZ rfl rfl rfl (aC.aB H.ke rfl rfl k1 (by first|rfl|(simp;done)|(simp;omega)) (by first|decide|exact of_decide_eq_true rfl|(simp;done)|(simp;omega)) (pP r)) ?_;rintro _ h2 ⟨rfl,k2,x2,z2⟩;refine aQ 1 [0,1,4,5,23] rfl ?_;have k2:bq h2 h.size 138 (fc r):=k2;refine G.cN func119 rfl (.cons (bu.cB H.Bm H.ke rfl (k2.row) (by first|rfl|(simp;done)|(simp;omega))) (.cons (bu.tmp rfl) (.nil))) ?_;exact⟨_,rfl,⟨r,rfl,fun p hp=>by cases hp;exact hrp⟩,e1.only x2 (Nat.le_refl _)⟩
theorem Cd (hg:CF h) (m n:Int):ai Tryz.prog 76 #[.int .i64 m,.int .i64 n] h (cL fun r h'=>r= .int .i64 (qg m n)∧aF h h'):=by
 refine ai.of func76 rfl rfl ?_;refine aW func76 1 [0,1,4] rfl ?_;refine br func76 2 rfl ?_;refine xo rfl (aq (vs:=[_,_]) func119 rfl H.Iu rfl (ai.bw (uV hg m n))) ?_;rintro _ h1 ⟨⟨x,rfl,hx⟩,e1⟩;refine aT 3 rfl ?_;refine xo rfl (aC.aR H.zw) ?_;rintro _ h2 ⟨rfl,k2,e2,z2⟩;refine RW.bZ rfl rfl rfl (aC.aB H.ke rfl rfl k2 (by first|rfl|(simp;done)|(simp;omega)) (by first|decide|exact of_decide_eq_true rfl|(simp;done)|(simp;omega)) (pP x)) ?_;rintro _ h3 ⟨rfl,k3,x3,z3⟩;have k3:bq h3 h1.size 138 (fc x):=k3;have e3:aF h1 h3:=e2.only x3 (Nat.le_refl _)
 rcases hf:jh m n with _|p
 · refine aQ 1 [0,1,4,5,6] rfl ?_;refine av rfl ?_;refine aW func76 2 [0,1,4,5,6,14] rfl ?_;refine aI rfl rfl (fun _=>?_) (fun hc=>absurd hc (by simp));refine aW func76 1 [0,1,4,5,6,14] rfl ?_;refine G.ret func76 rfl rfl ?_;exact⟨_,rfl,by rw[qg,hf];rfl,e1.trans e3⟩
 · have hp:=hx p hf;refine aQ 1 [0,1,4,5,6] rfl ?_;refine av rfl ?_;refine aW func76 2 [0,1,4,5,6,14] rfl ?_;refine aI rfl rfl (fun hc=>absurd hc (by simp)) (fun _=>?_);refine aE rfl ?_;refine xr func76 rfl ?_;refine xp rfl (af (off:=1) underlying138 rfl rfl H.bY rfl) ?_;refine xp rfl (ah H.cG rfl (k3.cell (i:=1) rfl)) ?_;refine aQ 1 [0,1,4,5,6,14] rfl ?_;refine G.ret func76 rfl rfl ?_;exact⟨_,rfl,by rw[qg,hf,←hp];rfl,e1.trans e3⟩
def cJ (s:vV):List Value:=[.int .i64 s.1,.int .i64 s.2]
theorem gY (s:vV):∀v∈cJ s,v.oneCell'=true:=fun v hv=>by simp[cJ] at hv;rcases hv with rfl|rfl<;>rfl
def GX (i:Int):Prop:= -9223372036854775808≤i∧i≤9223372036854775807
theorem sK (hg:CF h) (s:vV) (n:Int) (hs:GX s.2):ai Tryz.prog 78 #[.agg (cJ s).toArray,.int .i64 n] h (cL fun r h'=>r= .agg (cJ (jm s n)).toArray∧aF h h'):=by
 obtain⟨m,d⟩:=s;obtain⟨hd1,hd2⟩:=hs;simp only at hd1 hd2;refine ai.of func78 rfl rfl ?_;refine xr func78 rfl ?_;refine xo rfl (aC.fe rfl) ?_;rintro _ h1 ⟨rfl,k1,e1,z1⟩;refine xo rfl (aC.aR H.Bv) ?_;rintro _ h2 ⟨rfl,k2,e2,z2⟩;have k1:bq h1 h.size 25 [.int .i64 m,.int .i64 d]:=k1;have k2:bq h2 h1.size 25 [.int .i64 0,.int .i64 0]:=k2;have e02:=e1.trans e2;have q1:=k1.ax e2;refine xd [0,1,2,4] rfl ?_;refine xr func78 rfl ?_;refine xp rfl (af (off:=0) underlying25 rfl rfl H.bY rfl) ?_;refine xp rfl (ah H.cG rfl (q1.cell (i:=0) rfl)) ?_;refine aT 1 rfl ?_;refine xo rfl (aq (vs:=[_,_]) func119 rfl H.Iu rfl (ai.bw (uV (hg.ax e02) m n))) ?_;rintro _ h3 ⟨⟨x,rfl,hx⟩,e3⟩;refine aT 3 rfl ?_;refine xo rfl (aC.aR H.zw) ?_;rintro _ h4 ⟨rfl,k4,e4,z4⟩;refine RW.bZ rfl rfl rfl (aC.aB H.ke rfl rfl k4 (by first|rfl|(simp;done)|(simp;omega)) (by first|decide|exact of_decide_eq_true rfl|(simp;done)|(simp;omega)) (pP x)) ?_;rintro _ h5 ⟨rfl,k5,x5,z5⟩;have k5:bq h5 h3.size 138 (fc x):=k5;have e45:aF h3 h5:=e4.only x5 (Nat.le_refl _);have e25:=e3.trans e45;have e05:=e02.trans e25;have s1:=q1.ax e25;have s2:=k2.ax e25;have hz1:=e1.size;have hz2:=e2.size;have hz5:=e25.size;have hne:¬h.size=h1.size:=by omega
 have hout:∀{g:aD},Ext (fun b=>b=h1.size) h5 g→aF h g:=fun e=>aF.only e05 e hz1
 rcases hf:jh m n with _|p
 · have haf:jm (m,d) n=(m,d):=by unfold jm;rw[hf]
   refine aQ 1 [0,1,2,4,5,6] rfl ?_;refine av rfl ?_;refine G.block rfl rfl ?_;refine av rfl ?_;refine aW func78 3 [0,1,2,4,5,6,14] rfl ?_;refine aI rfl rfl (fun _=>?_) (fun hc=>absurd hc (by simp));refine aE rfl ?_;refine aI rfl rfl (fun _=>?_) (fun hc=>absurd hc (by simp));refine xr func78 rfl ?_;refine xp rfl (aj.aG H.iC H.eH rfl s1.row (by first|rfl|(simp;done)|(simp;omega))) ?_;refine RW.bZ rfl rfl rfl (aC.aB H.eH rfl rfl s2 (by first|rfl|(simp;done)|(simp;omega)) (by first|decide|exact of_decide_eq_true rfl|(simp;done)|(simp;omega)) (by first|decide|simp[Value.oneCell'])) ?_;rintro _ h6 ⟨rfl,k6,x6,z6⟩;refine xd [0,1,2,4,5,6,14] rfl ?_;have k6:bq h6 h1.size 25 (cJ (m,d)):=k6;refine G.cN func78 rfl (.cons (bu.cB H.iC H.eH rfl (k6.row) (by first|rfl|(simp;done)|(simp;omega))) (.nil)) ?_;exact⟨_,rfl,by rw[haf];rfl,hout x6⟩
 · have hp:=hx p hf;obtain⟨hp1,hp2⟩:=Prod.mk.inj hp;have haf:jm (m,d) n=if x.2.2=0 then (m,d) else if x.2.2=1 then (1,0) else if x.2.2=3 then (2,min (max d 0) 16383+1) else if x.2.2=4∧1<d then (m,d-1) else (0,0):=by unfold jm;rw[hf,←hp]
   refine aQ 1 [0,1,2,4,5,6] rfl ?_;refine av rfl ?_;refine G.block rfl rfl ?_;refine av rfl ?_;refine aW func78 3 [0,1,2,4,5,6,14] rfl ?_;refine aI rfl rfl (fun hc=>absurd hc (by simp)) (fun _=>?_);refine G.bT func78 rfl ?_;refine xp rfl (af (off:=2) underlying138 rfl rfl H.bY rfl) ?_;refine xp rfl (ah H.cG rfl (k5.cell (i:=2) rfl)) ?_;refine aQ 2 [0,1,2,4,5,6,14] rfl ?_;refine aL rfl rfl (fun h0=>?_) (fun h0=>?_)
   · rw[if_pos h0] at haf;refine xr func78 rfl ?_;refine xp rfl (aj.aG H.iC H.eH rfl s1.row (by first|rfl|(simp;done)|(simp;omega))) ?_;refine RW.bZ rfl rfl rfl (aC.aB H.eH rfl rfl s2 (by first|rfl|(simp;done)|(simp;omega)) (by first|decide|exact of_decide_eq_true rfl|(simp;done)|(simp;omega)) (by first|decide|simp[Value.oneCell'])) ?_;rintro _ h6 ⟨rfl,k6,x6,z6⟩;refine xd [0,1,2,4,5,6,14] rfl ?_;have k6:bq h6 h1.size 25 (cJ (m,d)):=k6;refine G.cN func78 rfl (.cons (bu.cB H.iC H.eH rfl (k6.row) (by first|rfl|(simp;done)|(simp;omega))) (.nil)) ?_;exact⟨_,rfl,by rw[haf];rfl,hout x6⟩
   · rw[if_neg h0] at haf;refine xr func78 rfl ?_;refine xp rfl (af (off:=2) underlying138 rfl rfl H.bY rfl) ?_;refine xp rfl (ah H.cG rfl (k5.cell (i:=2) rfl)) ?_;refine aQ 2 [0,1,2,4,5,6,14,21] rfl ?_;refine aL rfl rfl (fun h1'=>?_) (fun h1'=>?_)
     · rw[if_pos h1'] at haf;refine xr func78 rfl ?_;refine xp rfl (aP (H.Jj _) rfl) ?_;refine RW.bZ rfl rfl rfl (aC.aB H.eH rfl rfl s2 (by first|rfl|(simp;done)|(simp;omega)) (by first|decide|exact of_decide_eq_true rfl|(simp;done)|(simp;omega)) (by first|decide|simp[Value.oneCell'])) ?_;rintro _ h6 ⟨rfl,k6,x6,z6⟩;refine xd [0,1,2,4,5,6,14,21] rfl ?_;have k6:bq h6 h1.size 25 (cJ (1,0)):=k6;refine G.cN func78 rfl (.cons (bu.cB H.iC H.eH rfl (k6.row) (by first|rfl|(simp;done)|(simp;omega))) (.nil)) ?_;exact⟨_,rfl,by rw[haf];rfl,hout x6⟩
     · rw[if_neg h1'] at haf;refine xr func78 rfl ?_;refine xp rfl (af (off:=2) underlying138 rfl rfl H.bY rfl) ?_;refine xp rfl (ah H.cG rfl (k5.cell (i:=2) rfl)) ?_;refine aQ 2 [0,1,2,4,5,6,14,21,26] rfl ?_;refine aL rfl rfl (fun h3'=>?_) (fun h3'=>?_)
       · rw[if_pos h3'] at haf;refine xr func78 rfl ?_;refine xp rfl (af (off:=1) underlying25 rfl rfl H.bY rfl) ?_;refine xp rfl (ah H.cG rfl (s1.cell (i:=1) rfl)) ?_;refine xp rfl (Br rfl rfl) ?_;refine xp rfl (GO rfl rfl) ?_;refine xp rfl (aj.bA rfl rfl ⟨by omega,by omega⟩) ?_;refine xp rfl (aP (H.Gx _ _) rfl) ?_;refine RW.bZ rfl rfl rfl (aC.aB H.eH rfl rfl s2 (by first|rfl|(simp;done)|(simp;omega)) (by first|decide|exact of_decide_eq_true rfl|(simp;done)|(simp;omega)) (by first|decide|simp[Value.oneCell'])) ?_;rintro _ h6 ⟨rfl,k6,x6,z6⟩;refine xd [0,1,2,4,5,6,14,21,26] rfl ?_;have hmm:(if (16383:Int)<if d<0 then 0 else d then 16383 else if d<0 then 0 else d)=min (max d 0) 16383:=by split<;>split<;>omega
         have k6:bq h6 h1.size 25 (cJ (2,min (max d 0) 16383+1)):=by rw[←hmm];exact k6
         refine G.cN func78 rfl (.cons (bu.cB H.iC H.eH rfl (k6.row) (by first|rfl|(simp;done)|(simp;omega))) (.nil)) ?_;exact⟨_,rfl,by rw[haf];rfl,hout x6⟩
       · rw[if_neg h3'] at haf;refine av rfl ?_;refine G.bD [(36,.bool (decide (x.2.2=4∧1<d)))] [(0,_),(1,_),(2,_),(4,_),(5,_),(6,_),(14,_),(21,_),(26,_)] ⟨rfl,rfl,rfl,rfl,rfl,rfl,rfl,rfl,rfl,trivial⟩ func78 rfl ?_ ?_
         · refine xp rfl (af (off:=2) underlying138 rfl rfl H.bY rfl) ?_;refine xp rfl (ah H.cG rfl (k5.cell (i:=2) rfl)) ?_;refine aT 2 rfl ?_;refine aH (d:=40) rfl (fun hc=>?_) (fun hc=>?_)
           · have hc':=of_decide_eq_true hc;refine xp rfl (af (off:=1) underlying25 rfl rfl H.bY rfl) ?_;refine xp rfl (ah H.cG rfl (s1.cell (i:=1) rfl)) ?_;refine aT 3 rfl ?_;refine az rfl ?_;exact⟨rfl,aA rfl (by simp[hc']),rfl,rfl,rfl,rfl,rfl,rfl,rfl,rfl,rfl,trivial⟩
           · have hc':=of_decide_eq_false hc;refine aT 5 rfl ?_;refine az rfl ?_;exact⟨rfl,aA rfl (by simp[hc']),rfl,rfl,rfl,rfl,rfl,rfl,rfl,rfl,rfl,trivial⟩
         · refine aL rfl rfl (fun h4'=>?_) (fun h4'=>?_)
           · rw[if_pos h4'] at haf;refine xr func78 rfl ?_;refine xp rfl (af (off:=1) underlying25 rfl rfl H.bY rfl) ?_;refine xp rfl (ah H.cG rfl (s1.cell (i:=1) rfl)) ?_;refine xp rfl (aj.iF rfl rfl ⟨by omega,by omega⟩) ?_;refine xp rfl (af (off:=1) underlying25 rfl rfl H.bY rfl) ?_;refine RW.bZ rfl rfl rfl (cE H.bY rfl rfl rfl (s1.cell (i:=1) rfl) s1.nf) ?_;rintro _ h6 ⟨rfl,hg6⟩;have s6:=s1.set 1 (.int .i64 (d-1));have x6:Ext (fun b=>b=h.size) h5 h6:=by rw[hg6];exact Ext.ey _ _ _ rfl
             have s6:bq h6 h.size 25 (cJ (m,d-1)):=by rw[hg6];exact s6
             refine xd [0,1,2,4,5,6,14,21,26,36] rfl ?_;refine xr func78 rfl ?_;refine xp rfl (aj.aG H.iC H.eH rfl s6.row (by first|rfl|(simp;done)|(simp;omega))) ?_;refine RW.bZ rfl rfl rfl (aC.aB H.eH rfl rfl (s2.ext x6 (fun k=>by omega)) (by first|rfl|(simp;done)|(simp;omega)) (by first|decide|exact of_decide_eq_true rfl|(simp;done)|(simp;omega)) (gY _)) ?_;rintro _ h7 ⟨rfl,k7,x7,z7⟩;refine xd [0,1,2,4,5,6,14,21,26,36] rfl ?_;have k7:bq h7 h1.size 25 (cJ (m,d-1)):=k7;refine G.cN func78 rfl (.cons (bu.cB H.iC H.eH rfl (k7.row) (by first|rfl|(simp;done)|(simp;omega))) (.nil)) ?_;have hz6:=x6.size;exact⟨_,rfl,by rw[haf];rfl,aF.only (aF.only e05 x6 (Nat.le_refl _)) x7 hz1⟩
           · rw[if_neg h4'] at haf;refine aE rfl ?_;refine G.aN ?_;refine xr func78 rfl ?_;refine xp rfl (aP (H.KW ) rfl) ?_;refine RW.bZ rfl rfl rfl (aC.aB H.eH rfl rfl s2 (by first|rfl|(simp;done)|(simp;omega)) (by first|decide|exact of_decide_eq_true rfl|(simp;done)|(simp;omega)) (by first|decide|simp[Value.oneCell'])) ?_;rintro _ h6 ⟨rfl,k6,x6,z6⟩;refine xd [0,1,2,4,5,6,14,21,26,36] rfl ?_;have k6:bq h6 h1.size 25 (cJ (0,0)):=k6;refine G.cN func78 rfl (.cons (bu.cB H.iC H.eH rfl (k6.row) (by first|rfl|(simp;done)|(simp;omega))) (.nil)) ?_;exact⟨_,rfl,by rw[haf];rfl,hout x6⟩
theorem Ba (hg:CF h) (s:By) (k:Nat) (hk:k<s.length) (hs:s.length≤1000000):ai Tryz.prog 75 #[.string (bs s),.int .i64 (k:Nat)] h (cL fun r h'=>(∃(x:Nat) (ok:Bool),r= .tuple #[.int .i32 (x:Nat),.int .i64 (pS (s.drop k):Nat),.bool ok])∧aF h h'):=by
 have hbs:=bp s;have hne:s.drop k≠[]:=fun e=>by have:=congrArg List.length e;rw[List.length_drop] at this;simp at this;omega
 refine ai.of func75 rfl rfl ?_;refine aW func75 3 [0,1,4,5,6] rfl ?_;refine av rfl ?_;refine av rfl ?_;refine G.bD [(14,.bool false)] [(0,_),(1,_),(4,_),(5,_),(6,_)] ⟨rfl,rfl,rfl,rfl,rfl,trivial⟩ func75 rfl ?_ ?_
 · refine aT 3 rfl ?_;refine RW.cW (d:=9) (b':=false) rfl ((by simp)) ?_;refine bP 2 rfl rfl (aj.bG underlying9 rfl) ?_;refine aT 2 rfl ?_;refine az rfl ?_;exact⟨rfl,aA rfl (by simp;omega),rfl,rfl,rfl,rfl,rfl,trivial⟩
 · refine aI rfl rfl (fun hc=>absurd hc (by decide)) (fun _=>?_);refine aE rfl ?_;refine br func75 2 rfl ?_;refine xp rfl (aj.cP underlying9 rfl rfl k rfl (by omega)) ?_;rw[fm];refine xo rfl (aq (vs:=[_]) func118 rfl H.Kp rfl (ai.bw (yW hg (s.drop k) hne))) ?_;rintro _ h1 ⟨⟨x,rfl⟩,e1⟩;generalize hn:pS (s.drop k)=n;refine aQ 5 [0,1,4,5,6,14] rfl ?_;refine av rfl ?_;refine G.bD [(4,.int .i32 (x:Nat)),(5,.int .i64 (n:Nat)),(6,.bool (decide (¬(x:Int)=65533∨(1:Int)<n)))] [(0,_),(1,_),(14,_)] ⟨rfl,rfl,rfl,trivial⟩ func75 rfl ?_ ?_
   · refine aT 5 rfl ?_;refine aH (d:=26) rfl (fun hc=>?_) (fun hc=>?_)
     · have hc':=of_decide_eq_true hc;refine aT 6 rfl ?_;refine az rfl ?_;exact⟨rfl,rfl,rfl,aA rfl (by rw[decide_eq_true (Or.inl hc')]),rfl,rfl,rfl,trivial⟩
     · have hc':=of_decide_eq_false hc;refine aT 6 rfl ?_;refine az rfl ?_;exact⟨rfl,rfl,rfl,aA rfl (by simp only[decide_eq_decide];exact⟨fun q=>.inr q,fun q=>q.resolve_left hc'⟩),rfl,rfl,rfl,trivial⟩
   · refine G.ret func75 rfl rfl ?_;exact⟨_,rfl,⟨x,_,rfl⟩,e1⟩
theorem AN (k:qM h p):ai Tryz.prog 73 #[p] h (cL fun r h'=>r= .bool false∧h'=h):=by
 obtain⟨lb,vm,rfl,hk,⟨oa,n,c,rfl,hl,_⟩⟩:=k;have hl:n=3:=by rw[←hl];rfl
 subst hl;refine ai.of func73 rfl rfl ?_;refine aW func73 1 [0,2] rfl ?_;refine av rfl ?_;refine G.bD [(2,.bool false)] [(0,_)] ⟨rfl,trivial⟩ func73 rfl ?_ ?_
 · refine bP 1 rfl rfl (aj.rC underlying52 rfl rfl) ?_;refine aT 1 rfl ?_;refine RW.cW (d:=5) (b':=false) rfl (rfl) ?_;refine bP 2 rfl rfl (af (off:=0) underlying89 rfl rfl H.DA rfl) ?_;refine xp rfl (ah H.HK rfl (hk.cell (i:=0) rfl)) ?_;refine xp rfl (aj.aJ underlying87 rfl) ?_;refine aT 3 rfl ?_;refine az rfl ?_;exact⟨rfl,aA rfl (rfl),rfl,trivial⟩
 · refine G.ret func73 rfl rfl ?_;exact⟨_,rfl,rfl,rfl⟩
def B8 (m:Int) (l:By):Int:=if 0≤m∧m<3 then (bC (lB (nS m)) l 0 0 (0,-1)).2.2 else 0
theorem D9 (m:Nat) (hm:m<3) (s:By) (k:Nat) (hk:k≤s.length):dn (lB (nS m)) s k=((gO m (s.drop k)).1,(gO m (s.drop k)).2,B8 m (s.drop k)):=by
 obtain⟨ss,st,h1,h2,h3,h4,h5⟩:=uD m hm;have hok:=nK h2;have hsp:=wZ hok.1 hok.2;have htl:=BJ hok.1 hsp.1 hsp.2.2.2.2 hok.2 hsp.2.1 (fun w=>(hsp.2.2.2.1 w).symm) s k;have htm:=zO h2 s k;have hst:=(fY h1).stl
 have hM:yA (gN m) s k=gO m (s.drop k):=by
  unfold yA B4;rw[h1];simp only;rw[if_neg (by omega),Int.toNat_natCast,h4]
 rw[hM] at htm
 have hA:(dn (lB (nS m)) s k).2.2=B8 m (s.drop k):=by
  rw[B8,if_pos (show (0:Int)≤m∧(m:Int)<3 by omega),dn,if_neg (by have:=hsp.2.1;omega),Int.toNat_natCast]
 rw[←hA];refine Prod.ext ?_ (Prod.ext ?_ rfl)
 · rw[←htl.1];exact(Prod.mk.inj htm).1
 · rw[←htl.2.1];exact(Prod.mk.inj htm).2
theorem FT {m:Int}(h:m<0∨3≤m) (l:By):gO m l=(0,-1):=by
 unfold gO;rw[if_neg (by omega),if_neg (by omega),if_neg (by omega)]
theorem yB (k:qM h p) (s:By) (i:Nat) (hi:i≤s.length) (hs:s.length≤1000000) (m:Int) :
 ai Tryz.prog 74 #[p,.string (bs s),.int .i64 (i:Nat),.int .i64 m] h (cL fun r h'=>r= .tuple #[.int .i64 (gO m (s.drop i)).1,.int .i64 (gO m (s.drop i)).2,.int .i64 (B8 m (s.drop i))]∧h'=h):=by
 obtain⟨lb,vm,rfl,hk,hv⟩:=k;obtain⟨oa,n,c,rfl,hsl⟩:=hv.open;have hl:n=3:=by rw[←hsl.len];rfl
 subst hl;refine ai.of func74 rfl rfl ?_;refine aW func74 3 [0,1,2,3,8,9,10] rfl ?_;refine av rfl ?_;refine av rfl ?_;refine G.bD [(21,.bool (decide (m<0∨3≤m)))] [(0,_),(1,_),(2,_),(3,_),(8,_),(9,_),(10,_)] ⟨rfl,rfl,rfl,rfl,rfl,rfl,rfl,trivial⟩ func74 rfl ?_ ?_
 · refine aT 3 rfl ?_;refine aH (d:=13) rfl (fun hc=>?_) (fun hc=>?_)
   · have hc':=of_decide_eq_true hc;refine aT 8 rfl ?_;refine az rfl ?_;exact⟨rfl,aA rfl (by simp[hc']),rfl,rfl,rfl,rfl,rfl,rfl,rfl,trivial⟩
   · have hc':=of_decide_eq_false hc;refine bP 3 rfl rfl (af (off:=0) underlying89 rfl rfl H.DA rfl) ?_;refine xp rfl (ah H.HK rfl (hk.cell (i:=0) rfl)) ?_;refine xp rfl (aj.aJ underlying87 rfl) ?_;refine aT 2 rfl ?_;refine az rfl ?_;exact⟨rfl,aA rfl (by simp only[decide_eq_decide];omega),rfl,rfl,rfl,rfl,rfl,rfl,rfl,trivial⟩
 · refine aL rfl rfl (fun hout=>?_) (fun hout=>?_)
   · rw[FT hout];refine aW func74 3 [0,1,2,3,8,9,10,21] rfl ?_;refine G.ret func74 rfl rfl ?_;exact⟨_,rfl,by rw[B8,if_neg (by omega)];rfl,rfl⟩
   · obtain⟨mm,rfl⟩:=Int.eq_ofNat_of_zero_le (show 0≤m by omega);have hmm:mm<3:=by omega
     have hx:(uE 3)[mm]? =some (lB (nS mm)):=by
      match mm,hmm with
      | 0,_=>rfl
      | 1,_=>rfl
      | 2,_=>rfl
     obtain⟨b3,o3,cs3,ha3,_,hrow3,db,rfl,htab⟩:=hsl.get mm _ hx;obtain⟨ss,st,h1,h2,h3,h4,h5⟩:=uD mm hmm;have hok:=nK h2;have hsp:=wZ hok.1 hok.2;refine aE rfl ?_;refine br func74 2 rfl ?_;refine xp rfl (af (off:=0) underlying89 rfl rfl H.DA rfl) ?_;refine xp rfl (ah H.HK rfl (hk.cell (i:=0) rfl)) ?_;refine bP 1 rfl rfl (aj.ay underlying87 H.Lp rfl rfl mm rfl ha3 (by omega)) ?_;refine xp rfl (ah H.Mb rfl (hrow3 0 _ rfl)) ?_;refine aT 2 rfl ?_;refine xo rfl (aq (vs:=[_,_,_]) func117 rfl H.Kq rfl (ai.bw (yT (s:=s) (a:=(i:Int)) (.inr ⟨db,rfl,htab.rd⟩) hsp.1 hs))) ?_;rintro _ h0 ⟨rfl,hh0⟩;subst hh0;rw[D9 mm hmm s i hi];refine aQ 6 [0,1,2,3,8,9,10,21] rfl ?_;refine G.ret func74 rfl rfl ?_;exact⟨_,rfl,rfl,rfl⟩
def fB (t:Tk):List Value:=[.int .i64 t.1,.int .i64 t.2.1,.int .i64 t.2.2]
theorem oz (t:Tk):∀v∈fB t,v.oneCell'=true:=fun v hv=>by simp[fB] at hv;rcases hv with rfl|rfl|rfl<;>rfl
theorem EC {s:vV}(h:GX s.2) (n:Int):GX (jm s n).2:=by
 unfold GX at *;unfold jm;split
 · exact h
 · split
   · exact h
   · split
     · simp only;omega
     · split
       · simp only;omega
       · split
         · simp only;omega
         · simp only;omega
theorem G9 {s:vV}(h:GX s.2) (l:By):GX (pY l s).2:=by
 unfold pY;split
 · exact h
 · exact EC h _
theorem kD {h':aD}{b:Nat}{t:TypeId}{cs:List Value}(k:bq h b t cs) (k':bq h' b t cs) (e:Ext (fun x=>x=b) h h'):aF h h':=⟨e.size,fun x hx _=>by
 by_cases q:x=b
 · subst q;exact k'.trans k.symm
 · exact e.block x hx q⟩
def I0 (s:By) (i:Nat) (st:vV):Value:=.tuple #[.agg (fB (AV (s.drop i) st.1,(i:Int),((i+iL (s.drop i) st.1:Nat):Int))).toArray,.agg (cJ (pY (s.drop i) st)).toArray,.int .i64 (B8 st.1 (s.drop i))]
theorem DY (hg:CF h) (k:qM h p) (s:By) (i:Nat) (hi:i<s.length) (hs:s.length≤1000000) (st:vV) (hst:GX st.2) :
 ai Tryz.prog 42 #[p,.string (bs s),.int .i64 (i:Nat),.agg (cJ st).toArray] h (cL fun r h'=>r=I0 s i st∧aF h h'):=by
 have hbs:=bp s;unfold I0;have hne:s.drop i≠[]:=fun e=>by have:=congrArg List.length e;rw[List.length_drop] at this;simp at this;omega
 have hll:=AP st.1 (s.drop i);have hrl:=Ag hne;rw[List.length_drop] at hll hrl;refine ai.of func42 rfl rfl ?_;refine xr func42 rfl ?_;refine xo rfl (aC.fe rfl) ?_;rintro _ h1 ⟨rfl,k7,e1,z1⟩;refine xo rfl (aC.aR H.EL) ?_;rintro _ h2 ⟨rfl,k8,e2,z2⟩;refine xo rfl (aC.aR H.Bv) ?_;rintro _ h3 ⟨rfl,k9,e3,z3⟩;have k7:bq h1 h.size 25 (cJ st):=k7;have k8:bq h2 h1.size 59 (fB (0,0,0)):=k8;have k9:bq h3 h2.size 25 (cJ (0,0)):=k9;have e03:=(e1.trans e2).trans e3;have q7:=(k7.ax e2).ax e3;have q8:=k8.ax e3;have y1:=e1.size;have y2:=e2.size;have hout:∀{g g2 g3:aD},aF h3 g→Ext (fun b=>b=h1.size) g g2→Ext (fun b=>b=h2.size) g2 g3→aF h g3:=fun ea eb ec=>aF.only (aF.only (e03.trans ea) eb (by omega)) ec (by omega)
 refine aQ 1 [0,1,2,3,7,8,9,10] rfl ?_;refine av rfl ?_;refine av rfl ?_;refine G.bD [(27,.bool false)] [(0,_),(1,_),(2,_),(3,_),(7,_),(8,_),(9,_),(10,_)] ⟨rfl,rfl,rfl,rfl,rfl,rfl,rfl,rfl,trivial⟩ func42 rfl ?_ ?_
 · refine aT 1 rfl ?_;refine xo rfl (aq (vs:=[_]) func73 rfl H.JY rfl (ai.bw (AN (k.ax e03)))) ?_;rintro _ h4 ⟨rfl,hh4⟩;subst hh4;refine aT 1 rfl ?_;refine RW.cW (d:=18) (b':=false) rfl (rfl) ?_;refine aT 4 rfl ?_;refine RW.cW (d:=22) (b':=false) rfl ((by simp)) ?_;refine bP 2 rfl rfl (aj.bG underlying9 rfl) ?_;refine aT 2 rfl ?_;refine az rfl ?_;exact⟨rfl,aA rfl (by simp;omega),rfl,rfl,rfl,rfl,rfl,rfl,rfl,rfl,trivial⟩
 · refine aI rfl rfl (fun hc=>absurd hc (by decide)) (fun _=>?_);refine aE rfl ?_;refine br func42 3 rfl ?_;refine xp rfl (af (off:=0) underlying25 rfl rfl H.bY rfl) ?_;refine xp rfl (ah H.cG rfl (q7.cell (i:=0) rfl)) ?_;refine xo rfl (aq (vs:=[_,_,_,_]) func74 rfl H.LF rfl (ai.bw (yB (k.ax e03) s i (by omega) hs st.1))) ?_;rintro _ h4 ⟨rfl,hh4⟩;subst hh4;refine aQ 7 [0,1,2,3,7,8,9,10,11,12,27] rfl ?_;refine av rfl ?_;refine aW func42 2 [0,1,2,3,7,8,9,10,11,12,27,41] rfl ?_;refine aL rfl rfl (fun hz=>?_) (fun hz=>?_)
   · have hlen:iL (s.drop i) st.1=pS (s.drop i):=by rw[iL,if_pos hz]
     have hknd:AV (s.drop i) st.1=0:=by rw[AV,if_pos hz]
     have hnxt:pY (s.drop i) st=st:=by rw[pY,if_pos hz]
     rw[hlen,hknd,hnxt];refine br func42 2 rfl ?_;refine xo rfl (aq (vs:=[_,_]) func75 rfl H.LD rfl (ai.bw (Ba (hg.ax e03) s i hi hs))) ?_;rintro _ h5 ⟨⟨x,ok,rfl⟩,e5⟩;have r7:=q7.ax e5;have r8:=q8.ax e5;have r9:=k9.ax e5;have y5:=e5.size;have hM7:¬(h.size=h1.size∨h.size=h2.size∨Array.size h5≤h.size):=by have:=e03.size;omega
     refine aQ 7 [0,1,2,3,7,8,9,10,11,12,14,27,41] rfl ?_;refine av rfl ?_;refine bV (fun b=>b=Array.size h1∨b=Array.size h2∨Array.size h5≤b) (fun i=>Nat.blt i 9) (sz:=10) (listed:= #[false,false,false,false,false,false,false,false,false,false]) func42 H.mixed rfl rfl rfl ?_;refine b9 0 1 (by kernel_rfl) rfl ?_;refine b9 1 3 (by kernel_rfl) rfl ?_;refine b9 2 7 (by kernel_rfl) rfl ?_;refine bI 3 15 (by kernel_rfl) rfl (fun h' e=>aj.bA rfl rfl ⟨by omega,by omega⟩) ?_;refine bI 4 31 (by kernel_rfl) rfl (fun h' e=>aP (H.vv _ _ _) rfl) ?_;refine bI 5 63 (by kernel_rfl) rfl (fun h' e=>aj.aG H.iC H.eH rfl (e.rowAt hM7 r7.row) (by first|rfl|(simp;done)|(simp;omega))) ?_;refine b9 6 127 (by kernel_rfl) rfl ?_;refine fS 7 255 (by kernel_rfl) rfl (aC.aB H.lf rfl rfl r8 (by first|rfl|(simp;done)|(simp;omega)) (by first|decide|exact of_decide_eq_true rfl|(simp;done)|(simp;omega)) (by first|decide|simp[Value.oneCell'])) ?_;rintro _ h6 ⟨rfl,w8,x6,z6⟩;refine⟨fun _=>x6.mono (fun _ _ k=>.inl k),?_⟩;refine fS 8 511 (by kernel_rfl) rfl (aC.aB H.eH rfl rfl (r9.ext x6 (fun k=>by omega)) (by first|rfl|(simp;done)|(simp;omega)) (by first|decide|exact of_decide_eq_true rfl|(simp;done)|(simp;omega)) (gY st)) ?_;rintro _ h7 ⟨rfl,w9,x7,z7⟩;refine⟨fun _=>x7.mono (fun _ _ k=>.inr (.inl k)),?_⟩;have w8:bq h6 h1.size 59 (fB (0,(i:Int),((i+pS (s.drop i):Nat):Int))):=by rw[Int.natCast_add];exact w8
     have w8:=w8.ext x7 (show ¬h1.size=h2.size by omega);have w9:bq h7 h2.size 25 (cJ st):=w9;refine b9 9 1023 (by kernel_rfl) rfl ?_;refine bg (by kernel_rfl) ?_;refine xu [0,1,2,3,7,8,9,10,11,12,14,27,41] rfl ?_;refine G.cN func42 rfl (.cons (bu.cB H.zf H.lf rfl (w8.row) (by first|rfl|(simp;done)|(simp;omega))) (.cons (bu.cB H.iC H.eH rfl (w9.row) (by first|rfl|(simp;done)|(simp;omega))) (.cons (bu.tmp rfl) (.nil)))) ?_;exact⟨_,rfl,rfl,hout e5 x6 x7⟩
   · obtain⟨L,hL⟩:=Int.eq_ofNat_of_zero_le hll.1;have hL0:0<L:=by omega
     have hlen:iL (s.drop i) st.1=L:=by rw[iL,if_neg hz,hL];rfl
     have hknd:AV (s.drop i) st.1=if qg st.1 (gO st.1 (s.drop i)).2=3∧bX ((s.drop i).take L)=true then 4 else qg st.1 (gO st.1 (s.drop i)).2:=by rw[AV,if_neg hz,hL];rfl
     have hnxt:pY (s.drop i) st=jm st (gO st.1 (s.drop i)).2:=by rw[pY,if_neg hz]
     rw[hlen,hknd,hnxt,hL];generalize (gO st.1 (s.drop i)).2=rl at *;rw[hL] at hll;refine aE rfl ?_;refine xr func42 rfl ?_;refine xp rfl (af (off:=0) underlying25 rfl rfl H.bY rfl) ?_;refine xp rfl (ah H.cG rfl (q7.cell (i:=0) rfl)) ?_;refine aT 1 rfl ?_;refine xo rfl (aq (vs:=[_,_]) func76 rfl H.LC rfl (ai.bw (Cd (hg.ax e03) st.1 rl))) ?_;rintro _ h5 ⟨rfl,e5⟩;refine bP 3 rfl rfl (aj.bA rfl rfl ⟨by omega,by omega⟩) ?_;refine xp rfl (aP (H.vv _ _ _) rfl) ?_;refine RW.bZ rfl rfl rfl (aC.aB H.lf rfl rfl (q8.ax e5) (by first|rfl|(simp;done)|(simp;omega)) (by first|decide|exact of_decide_eq_true rfl|(simp;done)|(simp;omega)) (by first|decide|simp[Value.oneCell'])) ?_;rintro _ h6 ⟨rfl,w8,x6,z6⟩;have w8:bq h6 h1.size 59 (fB (qg st.1 rl,(i:Int),((i+L:Nat):Int))):=by rw[Int.natCast_add];exact w8
     generalize qg st.1 rl=kd at *;have hcut:(bs s).extract i (i+L)=bs ((s.drop i).take L):=by rw[qD s i (i+L) (by omega),List.drop_take,Nat.add_sub_cancel_left]
     have y6:=x6.size;have e06:aF h h6:=aF.only (e03.trans e5) x6 (by omega);have r7:=(q7.ax e5).ext x6 (show ¬h.size=h1.size by omega);have r9:=(k9.ax e5).ext x6 (show ¬h2.size=h1.size by omega);refine xd [0,1,2,3,7,8,9,10,11,12,27,41] rfl ?_;refine av rfl ?_;refine av rfl ?_;refine G.bD [(76,.bool (decide (kd=3∧bX ((s.drop i).take L)=true)))] [(0,_),(1,_),(2,_),(3,_),(7,_),(8,_),(9,_),(10,_),(11,_),(12,_),(27,_),(41,_)] ⟨rfl,rfl,rfl,rfl,rfl,rfl,rfl,rfl,rfl,rfl,rfl,rfl,trivial⟩ func42 rfl ?_ ?_
     · refine xp rfl (af (off:=0) underlying59 rfl rfl H.bY rfl) ?_;refine xp rfl (ah H.cG rfl (w8.cell (i:=0) rfl)) ?_;refine aT 2 rfl ?_;refine aH (d:=68) rfl (fun hc=>?_) (fun hc=>?_)
       · have hc':kd=3:=of_decide_eq_true hc;refine bP 1 rfl rfl (af (off:=1) underlying59 rfl rfl H.bY rfl) ?_;refine xp rfl (ah H.cG rfl (w8.cell (i:=1) rfl)) ?_;refine xp rfl (af (off:=2) underlying59 rfl rfl H.bY rfl) ?_;refine xp rfl (ah H.cG rfl (w8.cell (i:=2) rfl)) ?_;refine xp rfl (aj.mz underlying9 rfl rfl i rfl rfl (i+L) rfl (by omega) (by omega)) ?_;rw[hcut];refine xo rfl (aq (vs:=[_]) func77 rfl H.JX rfl (ai.bw (tH (hg.ax e06) ((s.drop i).take L) (by rw[List.length_take,List.length_drop];omega)))) ?_;rintro _ h7 ⟨rfl,hh7⟩;subst hh7;refine aT 1 rfl ?_;refine az rfl ?_;exact⟨rfl,aA rfl (by simp[hc']),rfl,rfl,rfl,rfl,rfl,rfl,rfl,rfl,rfl,rfl,rfl,rfl,trivial⟩
       · have hc':¬kd=3:=of_decide_eq_false hc;refine aT 8 rfl ?_;refine az rfl ?_;exact⟨rfl,aA rfl (by simp[hc']),rfl,rfl,rfl,rfl,rfl,rfl,rfl,rfl,rfl,rfl,rfl,rfl,trivial⟩
     · refine aL rfl rfl (fun hw=>?_) (fun hw=>?_)
       · refine G.bT func42 rfl ?_;refine xp rfl (af (off:=0) underlying59 rfl rfl H.bY rfl) ?_;refine RW.bZ rfl rfl rfl (cE H.bY rfl rfl rfl (w8.cell (i:=0) rfl) w8.nf) ?_;rintro _ h7 ⟨rfl,hg7⟩;have w7:=w8.set 0 (.int .i64 4);have x7:Ext (fun b=>b=h1.size) h6 h7:=by rw[hg7];exact Ext.ey _ _ _ rfl
         have w7:bq h7 h1.size 59 (fB (4,(i:Int),((i+L:Nat):Int))):=by rw[hg7];exact w7
         have y7:=x7.size;have e07:aF h h7:=aF.only e06 x7 (by omega);have p7:=r7.ext x7 (show ¬h.size=h1.size by omega);have p9:=r9.ext x7 (show ¬h2.size=h1.size by omega);have hMa:¬(h1.size=h2.size∨Array.size h7≤h1.size):=by have:=e03.size;have:=e5.size;omega
         have hMb:¬(h.size=h2.size∨Array.size h7≤h.size):=by have:=e03.size;have:=e5.size;omega
         refine xd [0,1,2,3,7,8,9,10,11,12,27,41,76] rfl ?_;refine av rfl ?_;refine bV (fun b=>b=Array.size h2∨Array.size h7≤b) (fun i=>Nat.blt i 7) (sz:=8) (listed:= #[false,false,false,false,false,false,false,false]) func42 H.mixed rfl rfl rfl ?_;refine bI 0 1 (by kernel_rfl) rfl (fun h' e=>aj.aG H.zf H.lf rfl (e.rowAt hMa w7.row) (by first|rfl|(simp;done)|(simp;omega))) ?_;refine bI 1 3 (by kernel_rfl) rfl (fun h' e=>aj.aG H.iC H.eH rfl (e.rowAt hMb p7.row) (by first|rfl|(simp;done)|(simp;omega))) ?_;refine b9 2 7 (by kernel_rfl) rfl ?_;refine b9 4 23 (by kernel_rfl) rfl ?_;refine cU 3 31 (by kernel_rfl) rfl (aq (vs:=[_,_]) func78 rfl H.JW rfl (ai.bw (sK (hg.ax e07) st rl hst))) ?_;rintro _ h8 ⟨rfl,e8⟩;refine⟨fun _=>e8.mono (fun _ _ k=>k.elim),?_⟩;have w8':=w7.ax e8;refine fS 5 63 (by kernel_rfl) rfl (aC.aB H.lf rfl rfl w8' (by first|rfl|(simp;done)|(simp;omega)) (by first|decide|exact of_decide_eq_true rfl|(simp;done)|(simp;omega)) (oz _)) ?_;rintro _ h9 ⟨rfl,w9',x9,z9⟩;refine⟨fun _=>(kD w8' w9' x9).mono (fun _ _ k=>k.elim),?_⟩;have w9':bq h9 h1.size 59 (fB (4,(i:Int),((i+L:Nat):Int))):=w9';have e9:=kD w8' w9' x9;have p9':=(p9.ax e8).ax e9;refine fS 6 127 (by kernel_rfl) rfl (aC.aB H.eH rfl rfl p9' (by first|rfl|(simp;done)|(simp;omega)) (by first|decide|exact of_decide_eq_true rfl|(simp;done)|(simp;omega)) (gY _)) ?_;rintro _ h10 ⟨rfl,w10,x10,z10⟩;refine⟨fun _=>x10.mono (fun _ _ k=>.inl k),?_⟩;have w10:bq h10 h2.size 25 (cJ (jm st rl)):=w10;have w11:=w9'.ext x10 (show ¬h1.size=h2.size by omega);refine b9 7 255 (by kernel_rfl) rfl ?_;refine bg (by kernel_rfl) ?_;refine xu [0,1,2,3,7,8,9,10,11,12,27,41,76] rfl ?_;refine G.cN func42 rfl (.cons (bu.cB H.zf H.lf rfl (w11.row) (by first|rfl|(simp;done)|(simp;omega))) (.cons (bu.cB H.iC H.eH rfl (w10.row) (by first|rfl|(simp;done)|(simp;omega))) (.cons (bu.tmp rfl) (.nil)))) ?_;have y10:=x10.size;exact⟨_,rfl,by rw[if_pos hw];rfl,aF.only ((e07.trans e8).trans e9) x10 (by omega)⟩
       · have hMa:¬(h1.size=h2.size∨Array.size h6≤h1.size):=by have:=e03.size;have:=e5.size;omega
         have hMb:¬(h.size=h2.size∨Array.size h6≤h.size):=by have:=e03.size;have:=e5.size;omega
         refine aE rfl ?_;refine av rfl ?_;refine bV (fun b=>b=Array.size h2∨Array.size h6≤b) (fun i=>Nat.blt i 7) (sz:=8) (listed:= #[false,false,false,false,false,false,false,false]) func42 H.mixed rfl rfl rfl ?_;refine bI 0 1 (by kernel_rfl) rfl (fun h' e=>aj.aG H.zf H.lf rfl (e.rowAt hMa w8.row) (by first|rfl|(simp;done)|(simp;omega))) ?_;refine bI 1 3 (by kernel_rfl) rfl (fun h' e=>aj.aG H.iC H.eH rfl (e.rowAt hMb r7.row) (by first|rfl|(simp;done)|(simp;omega))) ?_;refine b9 2 7 (by kernel_rfl) rfl ?_;refine b9 4 23 (by kernel_rfl) rfl ?_;refine cU 3 31 (by kernel_rfl) rfl (aq (vs:=[_,_]) func78 rfl H.JW rfl (ai.bw (sK (hg.ax e06) st rl hst))) ?_;rintro _ h8 ⟨rfl,e8⟩;refine⟨fun _=>e8.mono (fun _ _ k=>k.elim),?_⟩;have w8':=w8.ax e8;refine fS 5 63 (by kernel_rfl) rfl (aC.aB H.lf rfl rfl w8' (by first|rfl|(simp;done)|(simp;omega)) (by first|decide|exact of_decide_eq_true rfl|(simp;done)|(simp;omega)) (oz _)) ?_;rintro _ h9 ⟨rfl,w9',x9,z9⟩;refine⟨fun _=>(kD w8' w9' x9).mono (fun _ _ k=>k.elim),?_⟩;have w9':bq h9 h1.size 59 (fB (kd,(i:Int),((i+L:Nat):Int))):=w9';have e9:=kD w8' w9' x9;have p9':=(r9.ax e8).ax e9;refine fS 6 127 (by kernel_rfl) rfl (aC.aB H.eH rfl rfl p9' (by first|rfl|(simp;done)|(simp;omega)) (by first|decide|exact of_decide_eq_true rfl|(simp;done)|(simp;omega)) (gY _)) ?_;rintro _ h10 ⟨rfl,w10,x10,z10⟩;refine⟨fun _=>x10.mono (fun _ _ k=>.inl k),?_⟩;have w10:bq h10 h2.size 25 (cJ (jm st rl)):=w10;have w11:=w9'.ext x10 (show ¬h1.size=h2.size by omega);refine b9 7 255 (by kernel_rfl) rfl ?_;refine bg (by kernel_rfl) ?_;refine xu [0,1,2,3,7,8,9,10,11,12,27,41,76] rfl ?_;refine G.cN func42 rfl (.cons (bu.cB H.zf H.lf rfl (w11.row) (by first|rfl|(simp;done)|(simp;omega))) (.cons (bu.cB H.iC H.eH rfl (w10.row) (by first|rfl|(simp;done)|(simp;omega))) (.cons (bu.tmp rfl) (.nil)))) ?_;have y10:=x10.size;exact⟨_,rfl,by rw[if_neg hw];rfl,aF.only ((e06.trans e8).trans e9) x10 (by omega)⟩
end
end Go.Proofs.YtedocgkapmeceaaGreatDoor
namespace Go.Proofs.YtedocgkapmeceaaGreatDoor
open Go
theorem GG (n a:Nat) (st:vV):jw n [] a st=([],st):=by cases n<;>simp[jw]
theorem EB {n:Nat}{l:By}(hl:l≠[]) (hn:l.length≤n) (a:Nat) (st:vV) :
 jw n l a st=((AV l st.1,(a:Int),((a+iL l st.1:Nat):Int))::(jw n (l.drop (iL l st.1)) (a+iL l st.1) (pY l st)).1,(jw n (l.drop (iL l st.1)) (a+iL l st.1) (pY l st)).2):=by
 have hp:=List.length_pos_iff.2 hl;have hk:=qe hl st.1;obtain⟨m,rfl⟩:∃m,n=m+1:=⟨n-1,by omega⟩
 rw[rK (m+1) (m+1) (l.drop (iL l st.1)) _ _ (by rw[List.length_drop];omega) (by rw[List.length_drop];omega),←rK m (m+1) (l.drop (iL l st.1)) (a+iL l st.1) (pY l st) (by rw[List.length_drop];omega) (by rw[List.length_drop];omega)];rw[jw,if_neg hl]
theorem Bl:∀(n:Nat) (l:By) (a:Nat) (st:vV),(jw n l a st).1.length≤l.length
 | 0,l,a,st=>by simp[jw]
 |n+1,l,a,st=>by
  rw[jw];split
  · simp
  · rename_i h;have h1:=qe h st.1;have h2:=Bl n (l.drop (iL l st.1)) (a+iL l st.1) (pY l st);rw[List.length_drop] at h2;simp only[List.length_cons];omega
end Go.Proofs.YtedocgkapmeceaaGreatDoor
namespace Go.Proofs.YtedocgkapmeceaaGreatDoor
open Go.Proofs.Tryz
open Go Go.Lw
set_option maxRecDepth 20000
theorem G7 {h:aD}{p:Value}{b:Bool}(hn:∀g,aF h g→ai Tryz.prog 73 #[p] g (cL fun r h'=>r= .bool b∧h'=g)) (s:By) (i:Int) (hs:s.length≤1000000) (st:vV) (hb:b=true∨i<0∨(s.length:Int)≤i) :
 ai Tryz.prog 42 #[p,.string (bs s),.int .i64 i,.agg (cJ st).toArray] h (cL fun r h'=>r= .tuple #[.agg (fB (0,0,0)).toArray,.agg (cJ st).toArray,.int .i64 0]∧aF h h'):=by
 have hbs:=bp s;refine ai.of func42 rfl rfl ?_;refine xr func42 rfl ?_;refine xo rfl (aC.fe rfl) ?_;rintro _ h1 ⟨rfl,k7,e1,z1⟩;refine xo rfl (aC.aR H.EL) ?_;rintro _ h2 ⟨rfl,k8,e2,z2⟩;refine xo rfl (aC.aR H.Bv) ?_;rintro _ h3 ⟨rfl,k9,e3,z3⟩;have k7:bq h1 h.size 25 (cJ st):=k7;have k8:bq h2 h1.size 59 (fB (0,0,0)):=k8;have k9:bq h3 h2.size 25 (cJ (0,0)):=k9;have e03:=(e1.trans e2).trans e3;have q7:=(k7.ax e2).ax e3;have q8:=k8.ax e3;have y1:=e1.size;have y2:=e2.size;refine aQ 1 [0,1,2,3,7,8,9,10] rfl ?_;refine av rfl ?_;refine av rfl ?_;refine G.bD [(27,.bool true)] [(0,_),(1,_),(2,_),(3,_),(7,_),(8,_),(9,_),(10,_)] ⟨rfl,rfl,rfl,rfl,rfl,rfl,rfl,rfl,trivial⟩ func42 rfl ?_ ?_
 · refine aT 1 rfl ?_;refine xo rfl (aq (vs:=[_]) func73 rfl H.JY rfl (ai.bw (hn _ e03))) ?_;rintro _ h4 ⟨rfl,hh4⟩;subst hh4;refine aT 1 rfl ?_;refine aH (d:=18) rfl (fun c1=>?_) (fun c1=>?_)
   · refine aT 9 rfl ?_;refine az rfl ?_;exact⟨rfl,aA rfl (rfl),rfl,rfl,rfl,rfl,rfl,rfl,rfl,rfl,trivial⟩
   · refine aT 4 rfl ?_;refine aH (d:=22) rfl (fun c2=>?_) (fun c2=>?_)
     · refine aT 5 rfl ?_;refine az rfl ?_;exact⟨rfl,aA rfl (rfl),rfl,rfl,rfl,rfl,rfl,rfl,rfl,rfl,trivial⟩
     · have c2':=of_decide_eq_false c2;refine bP 2 rfl rfl (aj.bG underlying9 rfl) ?_;refine aT 2 rfl ?_;refine az rfl ?_;exact⟨rfl,aA rfl (by rw[decide_eq_true_iff];rcases hb with k|k|k;rw[c1] at k;cases k;exact absurd k c2';omega),rfl,rfl,rfl,rfl,rfl,rfl,rfl,rfl,trivial⟩
 · refine aI rfl rfl (fun _=>?_) (fun hc=>absurd hc (by decide));have hM:¬(h.size=h1.size∨Array.size h3≤h.size):=by have:=e03.size;omega
   refine av rfl ?_;refine bV (fun b=>b=Array.size h1∨Array.size h3≤b) (fun i=>Nat.blt i 3) (sz:=5) (listed:= #[false,false,false,false,false]) func42 H.mixed rfl rfl rfl ?_;refine bI 0 1 (by kernel_rfl) rfl (fun h' e=>aP (H.KV ) rfl) ?_;refine bI 1 3 (by kernel_rfl) rfl (fun h' e=>aj.aG H.iC H.eH rfl (e.rowAt hM q7.row) (by first|rfl|(simp;done)|(simp;omega))) ?_;refine fS 2 7 (by kernel_rfl) rfl (aC.aB H.lf rfl rfl q8 (by first|rfl|(simp;done)|(simp;omega)) (by first|decide|exact of_decide_eq_true rfl|(simp;done)|(simp;omega)) (by first|decide|simp[Value.oneCell'])) ?_;rintro _ h4 ⟨rfl,w8,x4,zz4⟩;refine⟨fun _=>x4.mono (fun _ _ k=>.inl k),?_⟩;have w8:bq h4 h1.size 59 (fB (0,0,0)):=w8;refine fS 3 15 (by kernel_rfl) rfl (aC.aB H.eH rfl rfl (k9.ext x4 (show ¬h2.size=h1.size by omega)) (by first|rfl|(simp;done)|(simp;omega)) (by first|decide|exact of_decide_eq_true rfl|(simp;done)|(simp;omega)) (gY st)) ?_;rintro _ h5 ⟨rfl,w9,x5,z5⟩;refine⟨fun hk=>(nomatch hk),?_⟩;refine b9 4 31 (by kernel_rfl) rfl ?_;refine bg (by kernel_rfl) ?_;refine xu [0,1,2,3,7,8,9,10,27] rfl ?_;have w9:bq h5 h2.size 25 (cJ st):=w9;have w8:=w8.ext x5 (show ¬h1.size=h2.size by omega);refine G.cN func42 rfl (.cons (bu.cB H.zf H.lf rfl (w8.row) (by first|rfl|(simp;done)|(simp;omega))) (.cons (bu.cB H.iC H.eH rfl (w9.row) (by first|rfl|(simp;done)|(simp;omega))) (.cons (bu.tmp rfl) (.nil)))) ?_;exact⟨_,rfl,rfl,aF.only (aF.only e03 x4 (by omega)) x5 (by omega)⟩
def Jc:gG Tk:=.record 3 (by decide) fB (fun _=>rfl) oz
end Go.Proofs.YtedocgkapmeceaaGreatDoor
namespace Go.Lw
structure H7 (P:Program) (g:FuncId):Prop where
 ok:∃fn,P.funcs[g]? =some fn∧fn.body.isSome=true∧(fn.name == "runtime.NumGoroutine")=false
section
variable {P:Program}{ρ:Env}{h:aD}{dst:Option Nat}{ty:TypeId}{pos:String}{after:Array Edge}{guard:Option (Nat×Bool)}
theorem aC.Gq {x:Operand}{g:FuncId}{caps:List Value}{xs:Array Operand}{ts:Array TypeId}{vs:List Value}{Φ:Value→aD→Prop}{X:List PanicEntry→aD→Prop}(hx:bW ρ x=some (.func (.func g) #[] caps.toArray))
 (hf0:H7 P g) (hvs:xs.toList.map (bW ρ)=vs.map some) (k:ai P g (vs++caps).toArray h (fun e h'=>match e with|.returned v=>Φ v h'|.panicked c=>X c h'|.outgrown=>False)) :
 aC P ⟨dst,.call ⟨.value x,xs,ts⟩,ty,pos,after,guard⟩ ρ h Φ X:=by
 obtain⟨fn,hfn,hb,hnm⟩:=hf0.ok;intro n B a w hf ha next Q hn hq
 have hargs:xs.map a.eval=vs.toArray:=by
  apply Array.ext'
  simp only[Array.toList_map]
  have:∀(l:List Operand) (us:List Value),l.map (bW ρ)=us.map some→l.map a.eval=us:=by
   intro l
   induction l with
   |nil=>intro us hu;cases us<;>simp_all
   |cons x r ih =>
    intro us hu;cases us with
    |nil=>simp at hu
    |cons u us =>
     simp only[List.map_cons,List.cons.injEq] at hu ⊢;exact⟨hf.eval hu.1,ih us hu.2⟩
  exact this _ _ hvs
 have hrun:(execOp a.eval ⟨dst,.call ⟨.value x,xs,ts⟩,ty,pos,after,guard⟩).run P w= .ok (.enter g (vs++caps).toArray) w:=by
  have hb':fn.body≠none:=by intro hbb;simp[hbb] at hb
  have hnm':¬fn.name= "runtime.NumGoroutine" :=by simpa using hnm
  simp[execOp,resolve,hf.eval hx,Deferred.ofValue,invoke,callFunc,hfn,hnm',hb',hargs]
 unfold Oper.wp;rw[hrun];refine(k B w ha).mono fun e w' ⟨h',ha',hr⟩=>?_
 cases e with
 |returned v=>exact hn v h' w' ha' hr
 |panicked c=>exact hq c h' w' ha' hr
 |outgrown=>exact hr.elim
end
theorem kU.put {α:Type}{sz:Nat}{enc:α→List Value}(hl:∀x,(enc x).length=sz){h:aD}{base:Nat}{t:TypeId}{v:Value}{xs:List α}(k:kU sz enc h base t v xs){i:Nat}{x:α}(hx:xs[i]? =some x) :
 ∃g c,v= .slice (some ⟨g,0,none⟩) xs.length c∧base≤g∧g<h.size∧rowAt h g (0+i*sz) (enc x)∧(∀o,frozenAt h ⟨g,o,none⟩=false) ∧
  ∀(o:Nat) (u:Value) (y:α),o<sz→(enc x).set o u=enc y→kU sz enc (ey h ⟨g,0+i*sz+o,none⟩ u) base t v (xs.set i y):=by
 have hi:i<xs.length:=(List.getElem?_eq_some_iff.1 hx).1;have k:aS h base t sz v xs.length (xs.flatMap enc):=k
 rcases k.2 with ⟨_,hn0⟩|⟨g,cap,cur,rfl,hb,hg,hnc,hc,hs,ht⟩
 · omega
 have hlen:∀c∈xs.map enc,c.length=sz:=fun c hc=>by
  obtain⟨a,_,rfl⟩:=List.mem_map.1 hc;exact hl a
 refine⟨g,cap,rfl,hb,(Array.getElem?_eq_some_iff.1 hg).1,?_,fun o=>by simp[frozenAt,hg],fun o u y ho hy=>?_⟩
 · intro j w hj;have h4:=gQ hl xs i x j w hx hj;rw[←ht,List.getElem?_take] at h4;split at h4
   · have h5:cur[i*sz+j]? =some w:=by simpa using h4
     simpa [cellAt,hg] using h5
   · cases h4
 · have hmx:(xs.map enc)[i]? =some (enc x):=by rw[List.getElem?_map,hx];rfl
   have hf:=jE (xs.map enc) i (enc x) o u hlen hmx ho
   have hset:(xs.set i y).flatMap enc=(xs.flatMap enc).set (i*sz+o) u:=by
    rw[List.flatMap_def,List.flatMap_def,←hf,hy,List.map_set]
   refine⟨?_,.inr ⟨g,cap,cur.setIfInBounds (0+i*sz+o) u,by simp,hb,pQ hg u,by simpa using hnc,hc,by simpa using hs,?_⟩⟩
   · rw[mS hl]
   · rw[hset,Array.toList_setIfInBounds,List.take_set,List.length_set,ht,Nat.zero_add]
end Go.Lw
namespace Go.Proofs.YtedocgkapmeceaaGreatDoor
open Go.Proofs.Tryz
open Go Go.Lw
set_option maxRecDepth 20000
section
variable {h:aD}{α:Type}{i:Nat}{s:By}{v:Value}{ts:List Tok}{t:Tok}{a e:Int}
def kH (p:UInt8×UInt8):List Value:=[.int .u8 p.1.toNat,.int .u8 p.2.toNat]
def Hx:List Value:=ir.flatMap kH
def ox (h:aD):Prop:=Lw.rowAt h 1 0 Hx
theorem ox.ax {h':aD}(k:ox h) (e:aF h h'):ox h':=e.rowAt (fun k=>k) k
theorem Jb (i:Nat) (hi:i<6):Hx.toArray.extract (i*2) (i*2+2)=(kH (ir.getD i (0,0))).toArray:=by
 match i,hi with
 | 0,_=>rfl
 | 1,_=>rfl
 | 2,_=>rfl
 | 3,_=>rfl
 | 4,_=>rfl
 | 5,_=>rfl
theorem Fu (p:UInt8×UInt8):∀v∈kH p,v.oneCell'=true:=fun v hv=>by simp[kH] at hv;rcases hv with rfl|rfl<;>rfl
theorem IQ (a b:UInt8):((a.toNat:Int)=(b.toNat:Int))↔a=b:=⟨fun h=>UInt8.toNat_inj.1 (Int.ofNat.inj h),fun h=>by rw[h]⟩
theorem mT {p:α→Bool}{l:List α}(h:∀a∈l.take i,p a=false) (hi:i=l.length):l.find? p=none:=by
 subst hi;rw[List.take_length] at h;rw[List.find?_eq_none];intro a ha;rw[h a ha];simp
theorem C8 {p:α→Bool}{l:List α}{a:α}(h:∀a∈l.take i,p a=false) (ha:l[i]? =some a) (hp:p a=true):l.find? p=some a:=by
 induction l generalizing i with
 |nil=>simp at ha
 |cons b l ih =>
  cases i with
  |zero=>simp at ha;subst ha;rw[List.find?_cons_of_pos hp]
  |succ i =>
   rw[List.find?_cons_of_neg (by rw[h b (by simp)];simp)];exact ih (i:=i) (fun a ha=>h a (by simp[ha])) (by simpa using ha)
theorem vY (hg:ox h) (s:By):ai Tryz.prog 46 #[.string (bs s)] h (cL fun r h'=>r= .int .u8 (rz s).toNat∧aF h h'):=by
 have hbs:=bp s;refine ai.of func46 rfl rfl ?_;refine aW func46 1 [0,2] rfl ?_;refine av rfl ?_;refine br func46 1 rfl ?_;refine xp rfl (aj.bG underlying9 rfl) ?_;refine aQ 1 [0,2,7] rfl ?_;refine aL rfl rfl (fun hlt=>?_) (fun hlt=>?_)
 · refine aW func46 1 [0,2,7] rfl ?_;refine G.ret func46 rfl rfl ?_;have h1:s[1]? =none:=List.getElem?_eq_none (by omega);exact⟨_,rfl,by unfold rz;rw[h1];rfl,Ext.refl _ _⟩
 · obtain⟨c,hc⟩:∃c,s[1]? =some c:=⟨_,List.getElem?_eq_getElem (show 1<s.length by omega)⟩
   have hE:rz s=Hy c:=by unfold rz;rw[hc]
   rw[hE];refine aE rfl ?_;refine av rfl ?_;refine xr func46 rfl ?_;refine xp rfl (aj.aG H.KZ H.JF rfl hg (by first|rfl|(simp;done)|(simp;omega))) ?_;refine aQ 1 [0,2,7,8,9] rfl ?_;refine G.block rfl rfl ?_;refine bE (σ:=Nat) (fun i=>[(0,.string (bs s)),(8,.agg Hx.toArray),(9,.int .i64 (i:Nat))]) (fun i h'=>aF h h'∧i≤6∧∀p∈ir.take i,(p.1 ==c)=false) (fun i=>6-i) (0) rfl ⟨rfl,rfl,rfl,trivial⟩ ⟨Ext.refl _ _,by omega,by simp⟩ ?_;rintro i g ⟨eg,hi,hin⟩ ih;refine aW func46 1 [0,8,9,10] rfl ?_;refine av rfl ?_;refine aL rfl rfl (fun hi6=>?_) (fun hi6=>?_)
   · have hil:i<6:=by omega
     obtain⟨p,hp⟩:∃p,ir[i]? =some p:=⟨_,List.getElem?_eq_getElem (show i<ir.length from hil)⟩
     have hpd:ir.getD i (0,0)=p:=by rw[List.getD_eq_getElem?_getD,hp];rfl
     have hcut:=Jb i hil;rw[hpd] at hcut;refine aE rfl ?_;refine av rfl ?_;refine G.block rfl rfl ?_;refine xr func46 rfl ?_;refine xp rfl (aj.Ei underlying168 H.wK H.IJ rfl rfl i rfl hil hcut) ?_;refine xo rfl (aC.aR H.Jz) ?_;rintro _ g1 ⟨rfl,k1,e1,z1⟩;refine RW.bZ rfl rfl rfl (aC.aB H.wK rfl rfl k1 (by first|rfl|(simp;done)|(simp;omega)) (by first|decide|exact of_decide_eq_true rfl|(simp;done)|(simp;omega)) (Fu p)) ?_;rintro _ g2 ⟨rfl,k2,x2,z2⟩;have k2:bq g2 g.size 167 (kH p):=k2;have e02:aF h g2:=aF.only (eg.trans e1) x2 (by have:=eg.size;omega);refine xd [0,4,8,9,10] rfl ?_;refine av rfl ?_;refine bV (fun b=>Array.size g2≤b) (fun i=>Nat.blt i 5) (sz:=5) (listed:= #[false,false,false,false,false]) func46 H.mixed rfl rfl rfl ?_;refine bI 0 1 (by kernel_rfl) rfl (fun h' e=>aj.cM underlying167 H.Jt rfl rfl 0 rfl (by decide)) ?_;refine bI 1 3 (by kernel_rfl) rfl (fun h' e=>ah H.KY rfl (e.old (k2.cell (i:=0) rfl))) ?_;refine b9 2 7 (by kernel_rfl) rfl ?_;refine bI 3 15 (by kernel_rfl) rfl (fun h' e=>aj.cm underlying9 rfl rfl 1 rfl (eF hc)) ?_;refine b9 4 31 (by kernel_rfl) rfl ?_;refine bg (by kernel_rfl) ?_;refine xu [0,4,8,9,10,16] rfl ?_;refine aL rfl rfl (fun he=>?_) (fun he=>?_)
     · have he:p.1=c:=(IQ _ _).1 (by omega);refine xr func46 rfl ?_;refine xp rfl (aj.cM underlying167 H.Jt rfl rfl 1 rfl (by decide)) ?_;refine xp rfl (ah H.KY rfl (k2.cell (i:=1) rfl)) ?_;refine aQ 1 [0,2,4,8,9,10,16] rfl ?_;refine G.ret func46 rfl rfl ?_;refine⟨_,rfl,?_,e02⟩;unfold Hy;rw[C8 hin hp (by rw[he];simp)];rfl
     · have he:¬p.1=c:=fun q=>he (by rw[q])
       refine aE rfl ?_;refine G.aN ?_;refine G.bT func46 rfl ?_;refine xp rfl (aj.bA rfl rfl ⟨by omega,by omega⟩) ?_;refine aQ 1 [0,4,8,9,10,16] rfl ?_;exact ih (i+1) _ _ ⟨rfl,rfl,rfl,trivial⟩ ⟨e02,by omega,fun q hq=>by rw[List.take_add_one,hp,List.mem_append] at hq;rcases hq with hq|hq;exact hin q hq;simp at hq;subst hq;simpa using he⟩ (by omega)
   · obtain rfl:i=6:=by omega
     refine bz rfl rfl ?_;refine br func46 1 rfl ?_;refine xp rfl (aj.cm underlying9 rfl rfl 1 rfl (eF hc)) ?_;refine aQ 1 [0,2,8,9,10] rfl ?_;refine G.ret func46 rfl rfl ?_;refine⟨_,rfl,?_,eg⟩;unfold Hy;rw[mT hin rfl];rfl
theorem we {tb:Nat}(hb:bq h tb 9 [.string (bs s)]) (t:Tok):ai Tryz.prog 87 #[.agg (fB t).toArray,ptr tb] h (cL fun r h'=>r= .bool (!C7 s t)∧aF h h'):=by
 have hbs:=bp s;refine ai.of func87 rfl rfl ?_;refine xr func87 rfl ?_;refine xo rfl (aC.fe rfl) ?_;rintro _ h1 ⟨rfl,k1,e1,z1⟩;have k1:bq h1 h.size 59 (fB t):=k1;have hb1:=hb.ax e1;refine aQ 1 [0,1,2,3] rfl ?_;refine av rfl ?_;refine G.bD [(3,.bool (!C7 s t))] [(0,_),(1,_),(2,_)] ⟨rfl,rfl,rfl,trivial⟩ func87 rfl ?_ ?_
 · refine xp rfl (af (off:=1) underlying59 rfl rfl H.bY rfl) ?_;refine xp rfl (ah H.cG rfl (k1.cell (i:=1) rfl)) ?_;refine aT 2 rfl ?_;refine aH (d:=7) rfl (fun g=>?_) (fun g=>?_)
   · have g:=of_decide_eq_true g;refine aT 14 rfl ?_;refine az rfl ?_;exact⟨rfl,aA rfl (by unfold C7;rw[decide_eq_false (by omega)];rfl),rfl,rfl,rfl,trivial⟩
   · have g:=of_decide_eq_false g;refine xp rfl (af (off:=2) underlying59 rfl rfl H.bY rfl) ?_;refine xp rfl (ah H.cG rfl (k1.cell (i:=2) rfl)) ?_;refine xp rfl (ah H.dO rfl (hb1.cell (i:=0) rfl)) ?_;refine xp rfl (aj.bG underlying9 rfl) ?_;refine aT 3 rfl ?_;refine aH (d:=14) rfl (fun g2=>?_) (fun g2=>?_)
     · have g2:=of_decide_eq_true g2;refine aT 7 rfl ?_;refine az rfl ?_;exact⟨rfl,aA rfl (by unfold C7;rw[decide_eq_true (show 0≤t.2.1 by omega),decide_eq_false (by omega)];rfl),rfl,rfl,rfl,trivial⟩
     · have g2:=of_decide_eq_false g2;refine xp rfl (af (off:=1) underlying59 rfl rfl H.bY rfl) ?_;refine xp rfl (ah H.cG rfl (k1.cell (i:=1) rfl)) ?_;refine xp rfl (af (off:=2) underlying59 rfl rfl H.bY rfl) ?_;refine xp rfl (ah H.cG rfl (k1.cell (i:=2) rfl)) ?_;refine aT 3 rfl ?_;refine az rfl ?_;exact⟨rfl,aA rfl (by unfold C7;rw[decide_eq_true (show 0≤t.2.1 by omega),decide_eq_true (show t.2.2≤s.length by omega),Bool.true_and,Bool.true_and,←decide_not,decide_eq_decide];omega),rfl,rfl,rfl,trivial⟩
 · refine G.ret func87 rfl rfl ?_;exact⟨_,rfl,rfl,e1⟩
theorem yL {gf:FuncId}{caps:List Value}(hf:H7 Tryz.prog gf) (hv:bU Jc h (fun _=>False) v ts) (p:Tok→Bool)
 (hp:∀t g,aF h g→ai Tryz.prog gf ([Value.agg (fB t).toArray]++caps).toArray g (cL fun r h'=>r= .bool (p t)∧aF g h')) :
 ai Tryz.prog 129 #[v,.func (.func gf) #[] caps.toArray] h (cL fun r h'=>(∃i:Int,r= .int .i64 i∧decide (0≤i)=ts.any p)∧aF h h'):=by
 obtain⟨va,vn,vc,rfl,hvs⟩:=hv.open;have hvl:ts.length=vn:=hvs.len;subst hvl;have hvm:=hvs.cap;have hvc:=hvs.le;simp only[maxLen] at hvm;refine ai.of func129 rfl rfl ?_;refine aW func129 1 [0,1,4] rfl ?_;refine av rfl ?_;refine br func129 1 rfl ?_;refine xp rfl (aj.aJ underlying23 rfl) ?_;refine aQ 1 [0,1,4,7,8] rfl ?_;refine G.block rfl rfl ?_;refine bE (σ:=Nat) (fun i=>[(0,.slice va ts.length vc),(1,.func (.func gf) #[] caps.toArray),(7,.int .i64 (ts.length:Nat)),(8,.int .i64 (i:Nat))]) (fun i h'=>aF h h'∧i≤ts.length∧(ts.take i).any p=false) (fun i=>ts.length-i) (0) rfl ⟨rfl,rfl,rfl,rfl,trivial⟩ ⟨Ext.refl _ _,Nat.zero_le _,by simp⟩ ?_;rintro i g ⟨eg,hi,hin⟩ ih;refine aW func129 1 [0,1,7,8,9] rfl ?_;refine av rfl ?_;refine aL rfl rfl (fun hlt=>?_) (fun hlt=>?_)
 · have hil:i<ts.length:=by omega
   have hvg:=hvs.mv (Mv.ax eg);obtain⟨b,o,t,ha,_,ht,hrow⟩:=hvg.wo hil;have hpt:=hp t g eg;refine aE rfl ?_;refine av rfl ?_;refine G.block rfl rfl ?_;refine aW func129 2 [0,1,5,7,8,9] rfl ?_;refine br func129 3 rfl ?_;refine xp rfl (aj.ay underlying23 H.lf rfl rfl i rfl ha (by omega)) ?_;refine xp rfl (aj.aG H.zf H.lf rfl hrow (by first|rfl|(simp;done)|(simp;omega))) ?_;refine xo rfl (aC.Gq (vs:=[_]) rfl hf rfl (ai.bw (hpt))) ?_;rintro _ g1 ⟨rfl,e1⟩;refine xd [0,1,5,7,8,9,16] rfl ?_;refine aI rfl rfl (fun hb=>?_) (fun hb=>?_)
   · have hb:p t=true:=hb;refine aW func129 2 [0,1,4,5,7,8,9,16] rfl ?_;refine G.ret func129 rfl rfl ?_;refine⟨_,rfl,⟨i,rfl,?_⟩,eg.trans e1⟩;rw[decide_eq_true (by omega)];exact(List.any_eq_true.2 ⟨t,List.mem_of_getElem? ht,hb⟩).symm
   · have hb:p t=false:=hb;refine aE rfl ?_;refine G.aN ?_;refine G.bT func129 rfl ?_;refine xp rfl (aj.bA rfl rfl ⟨by omega,by omega⟩) ?_;refine aQ 1 [0,1,5,7,8,9,16] rfl ?_;exact ih (i+1) _ _ ⟨rfl,rfl,rfl,rfl,trivial⟩ ⟨eg.trans e1,by omega,by rw[List.take_add_one,ht,List.any_append,hin];simp[hb]⟩ (by omega)
 · obtain rfl:i=ts.length:=by omega
   rw[List.take_length] at hin;refine bz rfl rfl ?_;refine aW func129 1 [0,1,4,7,8,9] rfl ?_;refine G.ret func129 rfl rfl ?_;exact⟨_,rfl,⟨-1,rfl,by rw[hin];rfl⟩,eg⟩
theorem sZ {h1:aD}(hv:bU Jc h1 (fun _=>False) v ts) (k1:bq h1 h.size 9 [.string (bs s)]):ai Tryz.prog 86 #[v,.func (.func 87) #[] #[ptr h.size]] h1 (cL fun r h'=>r= .bool (ts.any fun t=> !C7 s t)∧aF h1 h'):=by
 have hi:=yL (h:=h1) (gf:=87) (caps:=[ptr h.size]) ⟨_,func87,rfl,by kernel_rfl⟩ hv (fun t=> !C7 s t) (fun t g eg=>we (k1.ax eg) t);refine ai.of func86 rfl rfl ?_;refine aW func86 1 [0,1,4] rfl ?_;refine br func86 2 rfl ?_;refine xo rfl (aq (vs:=[_,_]) func129 rfl H.Kn rfl (ai.bw (hi))) ?_;rintro _ h2 ⟨⟨i,rfl,hi2⟩,e2⟩;refine aQ 2 [0,1,4] rfl ?_;refine G.ret func86 rfl rfl ?_;exact⟨_,rfl,by rw[←hi2];rfl,e2⟩
theorem vW (hv:bU Jc h (fun _=>False) v ts) (s:By):ai Tryz.prog 45 #[.string (bs s),v] h (cL fun r h'=>r= .bool (ts.all (C7 s))∧aF h h'):=by
 refine ai.of func45 rfl rfl ?_;refine xr func45 rfl ?_;refine xo rfl (aC.fe rfl) ?_;rintro _ h1 ⟨rfl,k1,e1,z1⟩;have hc:=sZ (hv.ax e1) (show bq h1 h.size 9 [.string (bs s)] from k1);refine aQ 1 [0,1,2,4] rfl ?_;refine br func45 1 rfl ?_;refine xp rfl (iP (vs:=[_]) rfl) ?_;refine xo rfl (aq (vs:=[_,_]) func86 rfl H.LA rfl (ai.bw (hc))) ?_;rintro _ h2 ⟨rfl,e2⟩;refine aQ 2 [0,1,2,4] rfl ?_;refine G.ret func45 rfl rfl ?_;refine⟨_,rfl,?_,e1.trans e2⟩;rw[List.all_eq_not_any_not];rfl
theorem F6 (h:C7 s t=true):∃f q:Nat,t.2.1=f∧t.2.2=q∧f≤q∧q≤s.length∧dz s t=(s.take q).drop f:=by
 unfold C7 at h;simp only[Bool.and_eq_true,decide_eq_true_eq] at h;obtain⟨⟨h1,h2⟩,h3⟩:=h;refine⟨t.2.1.toNat,t.2.2.toNat,by omega,by omega,by omega,by omega,?_⟩;unfold dz;rw[List.drop_take]
theorem Dz (s:By) (t:Tok):(dz s t).length≤s.length:=by
 unfold dz;rw[List.length_take,List.length_drop];omega
theorem BF (h:ts[i]? =some t) (out:List Un) (op:Bool) :
 pJ s (ts.drop i) out op=match lV s out op t with|.er a e=>.er a e|.go out op=>pJ s (ts.drop (i+1)) out op:=by
 obtain⟨hi,rfl⟩:=List.getElem?_eq_some_iff.1 h;rw[List.drop_eq_getElem_cons hi];rfl
theorem Fb (pre:List α) (u y:α):(pre++[u]).set pre.length y=pre++[y]:=by
 rw[List.set_append_right _ _ (Nat.le_refl _),Nat.sub_self];rfl
theorem Ew {T:TypeId}(c:UInt8):bU .byte (h.push (.cells #[.int .u8 c.toNat] T)) (fun _=>False) (.slice (some ⟨h.size,0,none⟩) 1 1) [c] :=
 CD.read (jo sX h T [c] 1 rfl (by decide) 0 (Nat.zero_le _) rfl) (fun _ _ k=>k)
def ME (h':aD) (r:Value):(Int×Int) ⊕ List Un→Prop
 |.inl p=>r=packed [.slice none 0 0,.int .i64 p.1,.int .i64 p.2]
 |.inr us=>us.length≤500∧∃uv,r=packed [uv,.int .i64 0,.int .i64 0]∧bU Mj h' (fun _=>False) uv us
theorem xP (hg:ox h) (hv:bU Jc h (fun _=>False) v ts) (s:By) (st:vV) (hb:ts.length*(s.length+2)≤1000000000000) (hsl:s.length≤1000000000000) :
 ai Tryz.prog 24 #[.string (bs s),v,.agg (cJ st).toArray] h (cL fun r h'=>aF h h'∧ME h' r (jL s ts st.1)):=by
 obtain⟨va,vn,vc,rfl,hvs⟩:=id hv.open;have hvl:ts.length=vn:=hvs.len;subst hvl;have hvm:=hvs.cap;have hvc:=hvs.le;simp only[maxLen] at hvm;refine ai.of func24 rfl rfl ?_;refine xr func24 rfl ?_;refine xo rfl (aC.fe rfl) ?_;rintro _ h1 ⟨rfl,k1,e1,z1⟩;refine aQ 3 [0,1,2,5,6,7,8] rfl ?_;refine av rfl ?_;refine br func24 2 rfl ?_;refine xo rfl (aq (vs:=[_,_]) func45 rfl H.LV rfl (ai.bw (vW (hv.ax e1) s))) ?_;rintro _ h2 ⟨rfl,e2⟩;have k1:bq h2 h.size 25 (cJ st):=k1.ax e2;have e02:=e1.trans e2;refine aQ 1 [0,1,2,5,6,7,8,16] rfl ?_;refine aI rfl rfl (fun hw=>?_) (fun hw=>?_)
 · have hw:ts.all (C7 s)=false:=by simpa using hw
   refine aW func24 3 [0,1,2,5,6,7,8,16] rfl ?_;refine G.ret func24 rfl rfl ?_;refine⟨_,rfl,e02,?_⟩;unfold jL;rw[if_neg (by rw[hw];simp)];rfl
 · have hw:ts.all (C7 s)=true:=by simpa using hw
   have hU:jL s ts st.1=match pJ s ts [] false with|.er a e=>.inl (a,e)|.go out op=>if op=true∨st.1≠0 then .inl (s.length,10) else .inr out:=by
    unfold jL;rw[if_pos hw];rfl
   rw[hU];generalize htg0:pJ s ts [] false=tgt;refine aE rfl ?_;refine aW func24 1 [0,1,2,5,6,7,8,9,16] rfl ?_;refine av rfl ?_;refine br func24 1 rfl ?_;refine xp rfl (aj.aJ underlying23 rfl) ?_;refine aQ 1 [0,1,2,5,6,7,8,9,16,17,18,19] rfl ?_;refine G.block rfl rfl ?_;refine bE (σ:=Nat×List Un×Bool×Value) (fun w=>[(0,.string (bs s)),(5,ptr h.size),(6,w.2.2.2),(9,.bool w.2.2.1),(17,.slice va ts.length vc),(18,.int .i64 (ts.length:Nat)),(19,.int .i64 (w.1:Nat))]) (fun w g=>w.1≤ts.length∧aF h2 g∧h2.size≤g.size∧kU 3 rD g h2.size 106 w.2.2.2 w.2.1∧pJ s (ts.drop w.1) w.2.1 w.2.2.1=tgt∧w.2.1.length≤500∧(w.2.2.1=true→w.2.1≠[])∧(∀u∈w.2.1,u.2.1.length≤w.1*(s.length+2))) (fun w=>ts.length-w.1) ((0,[],false,.slice none 0 0)) rfl ⟨rfl,rfl,rfl,rfl,rfl,rfl,rfl,trivial⟩ ⟨Nat.zero_le _,Ext.refl _ _,Nat.le_refl _,kU.nil _ _ _ _ _,htg0,by simp,(fun k=>by cases k),by simp⟩ ?_;rintro⟨i,out,op,ov⟩ g ⟨hi,eg,hz,how,htg,hol,hop,hut⟩ ih
   try dsimp only
   dsimp only at hi how htg hol hop hut;have hho:aS g h2.size 106 3 ov out.length (out.flatMap rD):=how;obtain⟨oa,oc,rfl,_⟩:=hho.open;refine aW func24 1 [0,5,6,9,17,18,19,20] rfl ?_;refine av rfl ?_;refine aL rfl rfl (fun hlt=>?_) (fun hlt=>?_)
   · have hil:i<ts.length:=by omega
     have hmul:(i+1)*(s.length+2)≤ts.length*(s.length+2):=Nat.mul_le_mul_right _ hil;have hsuc:(i+1)*(s.length+2)=i*(s.length+2)+(s.length+2):=Nat.succ_mul _ _;have hbig:∀n,n≤i*(s.length+2)→n≤(i+1)*(s.length+2):=fun n hn=>by omega
     have hvg:=hvs.mv (Mv.ax (e02.trans eg));obtain⟨b,o,t,ha,_,ht,hrow⟩:=hvg.wo hil;have hint:C7 s t=true:=List.all_eq_true.1 hw t (List.mem_of_getElem? ht);obtain⟨f,q,hf,hq,hfq,hqs,htx⟩:=F6 hint;have htl:=Dz s t;have hstep:=BF (s:=s) ht out op;have hbz:=bp s;refine aE rfl ?_;refine av rfl ?_;refine G.block rfl rfl ?_;refine xr func24 rfl ?_;refine xp rfl (aj.ay underlying23 H.lf rfl rfl i rfl ha (by omega)) ?_;refine xp rfl (aj.aG H.zf H.lf rfl hrow (by first|rfl|(simp;done)|(simp;omega))) ?_;refine xo rfl (aC.aR H.EL) ?_;rintro _ g1 ⟨rfl,k2,e3,z3⟩;refine RW.bZ rfl rfl rfl (aC.aB H.lf rfl rfl k2 (by first|rfl|(simp;done)|(simp;omega)) (by first|decide|exact of_decide_eq_true rfl|(simp;done)|(simp;omega)) (oz t)) ?_;rintro _ g2 ⟨rfl,kt,x2,z2⟩;have kt:bq g2 g.size 59 (fB t):=kt;have eg2:aF g g2:=aF.only e3 x2 (Nat.le_refl _);have how2:=how.ax eg2;have hho2:aS g2 h2.size 106 3 (.slice oa out.length oc) out.length (out.flatMap rD):=how2;have egg:=eg.trans eg2;refine xd [0,5,6,9,11,17,18,19,20] rfl ?_;refine br func24 1 rfl ?_;refine xp rfl (af (off:=1) underlying59 rfl rfl H.bY rfl) ?_;refine xp rfl (ah H.cG rfl (kt.cell (i:=1) rfl)) ?_;refine xp rfl (af (off:=2) underlying59 rfl rfl H.bY rfl) ?_;refine xp rfl (ah H.cG rfl (kt.cell (i:=2) rfl)) ?_;refine xp rfl (aj.mz underlying9 rfl rfl f hf rfl q hq hfq (by omega)) ?_;rw[qD _ _ _ hfq,←htx];refine aQ 1 [0,5,6,9,11,12,17,18,19,20] rfl ?_;refine av rfl ?_;refine G.block rfl rfl ?_;refine xr func24 rfl ?_;refine xp rfl (af (off:=0) underlying59 rfl rfl H.bY rfl) ?_;refine xp rfl (ah H.cG rfl (kt.cell (i:=0) rfl)) ?_;refine aQ 2 [0,5,6,9,11,12,17,18,19,20,29] rfl ?_;refine aL rfl rfl (fun h0=>?_) (fun h0=>?_)
     · have hu:lV s out op t= .er t.2.1 10:=by unfold lV;rw[if_pos h0]
       rw[hstep,hu] at htg;refine av rfl ?_;refine G.dB func24 H.mixed rfl (by kernel_rfl) ?_;refine RQ.au rfl rfl rfl rfl (af (off:=1) underlying59 rfl rfl H.bY rfl) ?_;refine RQ.au rfl rfl rfl rfl (ah H.cG rfl (kt.cell (i:=1) rfl)) ?_;refine RQ.au rfl rfl rfl rfl (aj.assign rfl) ?_;refine RQ.au rfl rfl rfl rfl (aj.assign rfl) ?_;refine RQ.au rfl rfl rfl rfl (aj.assign rfl) ?_;refine b8 rfl ?_;refine xu [0,5,6,7,8,9,11,12,17,18,19,20,29] rfl ?_;refine G.ret func24 rfl rfl ?_;exact⟨_,rfl,e02.trans egg,by rw[←htg];rfl⟩
     · rcases op with _|_
       · refine av rfl ?_;refine G.bD [(35,.bool false)] [(0,_),(5,_),(6,_),(9,_),(11,_),(12,_),(17,_),(18,_),(19,_),(20,_),(29,_)] ⟨rfl,rfl,rfl,rfl,rfl,rfl,rfl,rfl,rfl,rfl,rfl,trivial⟩ func24 rfl ?_ ?_
         · refine aT 2 rfl ?_;refine RW.cW (d:=37) (b':=false) rfl (rfl) ?_;refine aT 9 rfl ?_;refine az rfl ?_;exact⟨rfl,aA rfl (rfl),rfl,rfl,rfl,rfl,rfl,rfl,rfl,rfl,rfl,rfl,rfl,trivial⟩
         · refine aI rfl rfl (fun hc=>absurd hc (by simp)) (fun _=>?_);refine av rfl ?_;refine G.bD [(46,.bool false)] [(0,_),(5,_),(6,_),(9,_),(11,_),(12,_),(17,_),(18,_),(19,_),(20,_),(29,_),(35,_)] ⟨rfl,rfl,rfl,rfl,rfl,rfl,rfl,rfl,rfl,rfl,rfl,rfl,trivial⟩ func24 rfl ?_ ?_
           · refine aT 2 rfl ?_;refine RW.cW (d:=48) (b':=false) rfl (rfl) ?_;refine aT 5 rfl ?_;refine az rfl ?_;exact⟨rfl,aA rfl (rfl),rfl,rfl,rfl,rfl,rfl,rfl,rfl,rfl,rfl,rfl,rfl,rfl,trivial⟩
           · refine aI rfl rfl (fun hc=>absurd hc (by simp)) (fun _=>?_);refine aW func24 2 [0,5,6,9,11,12,17,18,19,20,29,35,46,67] rfl ?_;refine aI rfl rfl (fun hc=>absurd hc (by simp)) (fun _=>?_)
             have hu0:lV s out false t=(if t.1=1∨t.1=2∨t.1=11 then .go out false else if out.length=500 then .er t.2.1 3 else .go (out++[(t.1,if t.1=9 then [] else dz s t,t.2.1)]) (decide (t.1=9))):=by
              unfold lV;rw[if_neg h0];rfl
             refine av rfl ?_;refine xr func24 rfl ?_;refine xp rfl (af (off:=0) underlying59 rfl rfl H.bY rfl) ?_;refine xp rfl (ah H.cG rfl (kt.cell (i:=0) rfl)) ?_;refine aQ 2 [0,5,6,9,11,12,17,18,19,20,29,35,46,67,80] rfl ?_;refine aL rfl rfl (fun c1=>?_) (fun c1=>?_)
             · refine aE rfl ?_;refine aI rfl rfl (fun _=>?_) (fun hc=>absurd hc (by simp[c1]));refine bz rfl rfl ?_;refine G.bT func24 rfl ?_;refine xp rfl (aj.bA rfl rfl ⟨by omega,by omega⟩) ?_;refine aQ 1 [0,5,6,9,11,12,17,18,19,20,29,35,46,67,80] rfl ?_;exact ih (i+1,out,false,(.slice oa out.length oc)) _ _ ⟨rfl,rfl,rfl,rfl,rfl,rfl,rfl,trivial⟩ ⟨by show i+1≤ts.length;omega,egg,by have:=(egg).size;omega,how2,by rw[hstep,(hu0.trans (if_pos (.inl c1)))] at htg;exact htg,hol,(fun k=>by cases k),(fun u hu=>hbig _ (hut u hu))⟩ (by show ts.length-(i+1)<ts.length-i;omega)
             · refine xr func24 rfl ?_;refine xp rfl (af (off:=0) underlying59 rfl rfl H.bY rfl) ?_;refine xp rfl (ah H.cG rfl (kt.cell (i:=0) rfl)) ?_;refine aQ 2 [0,5,6,9,11,12,17,18,19,20,29,35,46,67,80] rfl ?_;refine aL rfl rfl (fun c2=>?_) (fun c2=>?_)
               · refine aE rfl ?_;refine aI rfl rfl (fun _=>?_) (fun hc=>absurd hc (by simp[c2]));refine bz rfl rfl ?_;refine G.bT func24 rfl ?_;refine xp rfl (aj.bA rfl rfl ⟨by omega,by omega⟩) ?_;refine aQ 1 [0,5,6,9,11,12,17,18,19,20,29,35,46,67,80] rfl ?_;exact ih (i+1,out,false,(.slice oa out.length oc)) _ _ ⟨rfl,rfl,rfl,rfl,rfl,rfl,rfl,trivial⟩ ⟨by show i+1≤ts.length;omega,egg,by have:=(egg).size;omega,how2,by rw[hstep,(hu0.trans (if_pos (.inr (.inl c2))))] at htg;exact htg,hol,(fun k=>by cases k),(fun u hu=>hbig _ (hut u hu))⟩ (by show ts.length-(i+1)<ts.length-i;omega)
               · refine G.bT func24 rfl ?_;refine xp rfl (af (off:=0) underlying59 rfl rfl H.bY rfl) ?_;refine xp rfl (ah H.cG rfl (kt.cell (i:=0) rfl)) ?_;refine aQ 2 [0,5,6,9,11,12,17,18,19,20,29,35,46,67,80] rfl ?_;refine aL rfl rfl (fun c3=>?_) (fun c3=>?_)
                 · refine bz rfl rfl ?_;refine G.bT func24 rfl ?_;refine xp rfl (aj.bA rfl rfl ⟨by omega,by omega⟩) ?_;refine aQ 1 [0,5,6,9,11,12,17,18,19,20,29,35,46,67,80] rfl ?_;exact ih (i+1,out,false,(.slice oa out.length oc)) _ _ ⟨rfl,rfl,rfl,rfl,rfl,rfl,rfl,trivial⟩ ⟨by show i+1≤ts.length;omega,egg,by have:=(egg).size;omega,how2,by rw[hstep,(hu0.trans (if_pos (.inr (.inr c3))))] at htg;exact htg,hol,(fun k=>by cases k),(fun u hu=>hbig _ (hut u hu))⟩ (by show ts.length-(i+1)<ts.length-i;omega)
                 · rw[if_neg (fun q=>by omega)] at hu0;refine xr func24 rfl ?_;refine xp rfl (af (off:=0) underlying59 rfl rfl H.bY rfl) ?_;refine xp rfl (ah H.cG rfl (kt.cell (i:=0) rfl)) ?_;refine aQ 2 [0,5,6,9,11,12,17,18,19,20,29,35,46,67,80,90] rfl ?_;refine aL rfl rfl (fun c9=>?_) (fun c9=>?_)
                   · refine G.bT func24 rfl ?_;refine aQ 2 [0,5,6,9,11,12,17,18,19,20,29,35,46,67,80,90] rfl ?_;refine G.aN ?_;refine av rfl ?_;refine br func24 1 rfl ?_;refine xp rfl (aj.aJ underlying64 rfl) ?_;refine aQ 1 [0,5,6,9,11,12,17,18,19,20,29,35,46,67,80,90,96] rfl ?_;refine aL rfl rfl (fun c500=>?_) (fun c500=>?_)
                     · have c500:out.length=500:=by omega
                       rw[if_pos c500] at hu0;rw[hstep,hu0] at htg;refine av rfl ?_;refine G.dB func24 H.mixed rfl (by kernel_rfl) ?_;refine RQ.au rfl rfl rfl rfl (af (off:=1) underlying59 rfl rfl H.bY rfl) ?_;refine RQ.au rfl rfl rfl rfl (ah H.cG rfl (kt.cell (i:=1) rfl)) ?_;refine RQ.au rfl rfl rfl rfl (aj.assign rfl) ?_;refine RQ.au rfl rfl rfl rfl (aj.assign rfl) ?_;refine RQ.au rfl rfl rfl rfl (aj.assign rfl) ?_;refine b8 rfl ?_;refine xu [0,5,6,7,8,9,11,12,17,18,19,20,29,35,46,67,80,90,96] rfl ?_;refine G.ret func24 rfl rfl ?_;exact⟨_,rfl,e02.trans egg,by rw[←htg];rfl⟩
                     · have c500:¬out.length=500:=by omega
                       rw[if_neg c500] at hu0;refine aE rfl ?_;refine G.bT func24 rfl ?_;refine bP 1 rfl rfl (af (off:=0) underlying59 rfl rfl H.bY rfl) ?_;refine xp rfl (ah H.cG rfl (kt.cell (i:=0) rfl)) ?_;refine bP 1 rfl rfl (af (off:=1) underlying59 rfl rfl H.bY rfl) ?_;refine xp rfl (ah H.cG rfl (kt.cell (i:=1) rfl)) ?_;refine xp rfl (aP (H.sG _ _ _) rfl) ?_;refine xo rfl (aC.cx (cs:=[_,_,_]) underlying64 H.Db rfl rfl (by decide)) ?_;rintro _ _ ⟨rfl,rfl⟩;refine xo rfl (aC.bO underlying64 H.Db rfl rfl (hho2) rfl rfl (xW (t.1,([]:By),t.2.1)) (by omega) (by decide) (by omega)) ?_;rintro v2 g4 ⟨ho4,hx4,hx4',hv4⟩;have ho5:kU 3 rD g4 h2.size 106 v2 (out++[(t.1,([]:By),t.2.1)]):=kU.of ho4 rfl rfl;have e24:aF h2 g4:=Ext.own egg hho2 (Nat.le_refl _) hx4;have hu1:lV s out false t= .go (out++[(t.1,([]:By),t.2.1)]) true:=hu0.trans (by simp[c9]);refine aQ 1 [0,5,6,9,11,12,17,18,19,20,29,35,46,67,80,90,96] rfl ?_;refine G.aN ?_;refine G.bT func24 rfl ?_;refine xp rfl (aj.bA rfl rfl ⟨by omega,by omega⟩) ?_;refine aQ 1 [0,5,6,9,11,12,17,18,19,20,29,35,46,67,80,90,96] rfl ?_;exact ih (i+1,(out++[(t.1,([]:By),t.2.1)]),true,v2) _ _ ⟨rfl,rfl,rfl,rfl,rfl,rfl,rfl,trivial⟩ ⟨by show i+1≤ts.length;omega,e24,by have:=(e24).size;omega,ho5,by rw[hstep,hu1] at htg;exact htg,(by rw[List.length_append];simp only[List.length_singleton];omega),(fun _=>by simp),(fun u hu=>(List.mem_append.1 hu).elim (fun hu=>hbig _ (hut u hu)) (fun hu=>by simp only[List.mem_singleton] at hu;subst hu;show List.length (([]:By))≤(i+1)*(s.length+2);have hz0:List.length ([]:By)=0:=rfl;omega))⟩ (by show ts.length-(i+1)<ts.length-i;omega)
                   · refine aE rfl ?_;refine G.aN ?_;refine av rfl ?_;refine br func24 1 rfl ?_;refine xp rfl (aj.aJ underlying64 rfl) ?_;refine aQ 1 [0,5,6,9,11,12,17,18,19,20,29,35,46,67,80,90,96] rfl ?_;refine aL rfl rfl (fun c500=>?_) (fun c500=>?_)
                     · have c500:out.length=500:=by omega
                       rw[if_pos c500] at hu0;rw[hstep,hu0] at htg;refine av rfl ?_;refine G.dB func24 H.mixed rfl (by kernel_rfl) ?_;refine RQ.au rfl rfl rfl rfl (af (off:=1) underlying59 rfl rfl H.bY rfl) ?_;refine RQ.au rfl rfl rfl rfl (ah H.cG rfl (kt.cell (i:=1) rfl)) ?_;refine RQ.au rfl rfl rfl rfl (aj.assign rfl) ?_;refine RQ.au rfl rfl rfl rfl (aj.assign rfl) ?_;refine RQ.au rfl rfl rfl rfl (aj.assign rfl) ?_;refine b8 rfl ?_;refine xu [0,5,6,7,8,9,11,12,17,18,19,20,29,35,46,67,80,90,96] rfl ?_;refine G.ret func24 rfl rfl ?_;exact⟨_,rfl,e02.trans egg,by rw[←htg];rfl⟩
                     · have c500:¬out.length=500:=by omega
                       rw[if_neg c500] at hu0;refine aE rfl ?_;refine G.bT func24 rfl ?_;refine bP 1 rfl rfl (af (off:=0) underlying59 rfl rfl H.bY rfl) ?_;refine xp rfl (ah H.cG rfl (kt.cell (i:=0) rfl)) ?_;refine bP 1 rfl rfl (af (off:=1) underlying59 rfl rfl H.bY rfl) ?_;refine xp rfl (ah H.cG rfl (kt.cell (i:=1) rfl)) ?_;refine xp rfl (aP (H.sG _ _ _) rfl) ?_;refine xo rfl (aC.cx (cs:=[_,_,_]) underlying64 H.Db rfl rfl (by decide)) ?_;rintro _ _ ⟨rfl,rfl⟩;refine xo rfl (aC.bO underlying64 H.Db rfl rfl (hho2) rfl rfl (xW (t.1,(dz s t),t.2.1)) (by omega) (by decide) (by omega)) ?_;rintro v2 g4 ⟨ho4,hx4,hx4',hv4⟩;have ho5:kU 3 rD g4 h2.size 106 v2 (out++[(t.1,(dz s t),t.2.1)]):=kU.of ho4 rfl rfl;have e24:aF h2 g4:=Ext.own egg hho2 (Nat.le_refl _) hx4;have hu1:lV s out false t= .go (out++[(t.1,(dz s t),t.2.1)]) false:=hu0.trans (by simp[c9]);refine aQ 1 [0,5,6,9,11,12,17,18,19,20,29,35,46,67,80,90,96] rfl ?_;refine G.aN ?_;refine G.bT func24 rfl ?_;refine xp rfl (aj.bA rfl rfl ⟨by omega,by omega⟩) ?_;refine aQ 1 [0,5,6,9,11,12,17,18,19,20,29,35,46,67,80,90,96] rfl ?_;exact ih (i+1,(out++[(t.1,(dz s t),t.2.1)]),false,v2) _ _ ⟨rfl,rfl,rfl,rfl,rfl,rfl,rfl,trivial⟩ ⟨by show i+1≤ts.length;omega,e24,by have:=(e24).size;omega,ho5,by rw[hstep,hu1] at htg;exact htg,(by rw[List.length_append];simp only[List.length_singleton];omega),(fun _=>by simp),(fun u hu=>(List.mem_append.1 hu).elim (fun hu=>hbig _ (hut u hu)) (fun hu=>by simp only[List.mem_singleton] at hu;subst hu;show List.length ((dz s t))≤(i+1)*(s.length+2);have hz0:List.length ([]:By)=0:=rfl;omega))⟩ (by show ts.length-(i+1)<ts.length-i;omega)
       · have hne:=hop rfl
         obtain⟨pre,u,hpre⟩:∃pre u,out=pre++[u]:=by
          rcases List.eq_nil_or_concat out with q|⟨p,u,q⟩
          · exact absurd q hne
          · exact⟨p,u,by simpa using q⟩
         have hlen:out.length=pre.length+1:=by rw[hpre];simp
         have hgu:out[pre.length]? =some u:=by rw[hpre];simp
         have hul:=hut u (by rw[hpre];simp);obtain⟨gb,gc,hgv,hgb,hgl,hgr,hgf,hgs⟩:=kU.put (enc:=rD) (fun _=>rfl) how2 hgu;have hga:oa=some ⟨gb,0,none⟩:=by cases hgv;rfl
         have hu0:lV s out true t=(if t.1=9∧dz s t=[34] then .go out false else if t.1=10 then .go (kO [rz (dz s t)] out) true else .go (kO (dz s t) out) true):=by
          unfold lV;rw[if_neg h0];rfl
         have hadd:∀x,kO x out=pre++[(u.1,u.2.1++x,u.2.2)]:=fun x=>by rw[hpre];exact xK x pre u
         have hset:∀x,out.set pre.length (u.1,u.2.1++x,u.2.2)=kO x out:=fun x=>by rw[hadd,hpre];exact Fb _ _ _
         have hadl:∀x,x.length≤s.length+1→∀u∈kO x out,u.2.1.length≤(i+1)*(s.length+2):=fun x hx u' hu'=>by
          rw[hadd,List.mem_append] at hu'
          rcases hu' with hu'|hu'
          · exact hbig _ (hut u' (by rw[hpre];simp[hu']))
          · simp only[List.mem_singleton] at hu';subst hu';simp only[List.length_append];omega
         have hown:∀x g',g'=ey g2 ⟨gb,0+pre.length*3+1,none⟩ x→aF h2 g':=fun x g' hg'=>by rw[hg'];exact aF.set egg hgb x
         refine av rfl ?_;refine G.bD [(35,.bool (decide (t.1=9∧dz s t=[34])))] [(0,_),(5,_),(6,_),(9,_),(11,_),(12,_),(17,_),(18,_),(19,_),(20,_),(29,_)] ⟨rfl,rfl,rfl,rfl,rfl,rfl,rfl,rfl,rfl,rfl,rfl,trivial⟩ func24 rfl ?_ ?_
         · refine aT 2 rfl ?_;refine RW.cW (d:=37) (b':=true) rfl (rfl) ?_;refine xp rfl (af (off:=0) underlying59 rfl rfl H.bY rfl) ?_;refine xp rfl (ah H.cG rfl (kt.cell (i:=0) rfl)) ?_;refine aT 3 rfl ?_;refine aH (d:=42) rfl (fun g9=>?_) (fun g9=>?_)
           · have g9:=of_decide_eq_true g9;refine bP 1 rfl rfl (aj.cI rfl rfl) ?_;refine aT 2 rfl ?_;refine az rfl ?_;exact⟨rfl,aA rfl (by rw[Bool.eq_iff_iff,decide_eq_true_iff,decide_eq_true_iff];exact⟨fun q=>⟨g9,dx q⟩,fun q=>congrArg bs q.2⟩),rfl,rfl,rfl,rfl,rfl,rfl,rfl,rfl,rfl,rfl,rfl,trivial⟩
           · have g9:=of_decide_eq_false g9;refine aT 4 rfl ?_;refine az rfl ?_;exact⟨rfl,aA rfl (by rw[decide_eq_false (fun q=>g9 q.1)]),rfl,rfl,rfl,rfl,rfl,rfl,rfl,rfl,rfl,rfl,rfl,trivial⟩
         · refine aL rfl rfl (fun c9=>?_) (fun c9=>?_)
           · rw[if_pos c9] at hu0;refine aW func24 1 [0,5,6,9,11,12,17,18,19,20,29,35] rfl ?_;refine bz rfl rfl ?_;refine G.bT func24 rfl ?_;refine xp rfl (aj.bA rfl rfl ⟨by omega,by omega⟩) ?_;refine aQ 1 [0,5,6,9,11,12,17,18,19,20,29,35] rfl ?_;exact ih (i+1,out,false,(.slice oa out.length oc)) _ _ ⟨rfl,rfl,rfl,rfl,rfl,rfl,rfl,trivial⟩ ⟨by show i+1≤ts.length;omega,egg,by have:=(egg).size;omega,how2,by rw[hstep,hu0] at htg;exact htg,hol,(fun k=>by cases k),(fun u hu=>hbig _ (hut u hu))⟩ (by show ts.length-(i+1)<ts.length-i;omega)
           · rw[if_neg c9] at hu0;refine av rfl ?_;refine G.bD [(46,.bool (decide (t.1=10)))] [(0,_),(5,_),(6,_),(9,_),(11,_),(12,_),(17,_),(18,_),(19,_),(20,_),(29,_),(35,_)] ⟨rfl,rfl,rfl,rfl,rfl,rfl,rfl,rfl,rfl,rfl,rfl,rfl,trivial⟩ func24 rfl ?_ ?_
             · refine aT 2 rfl ?_;refine RW.cW (d:=48) (b':=true) rfl (rfl) ?_;refine xp rfl (af (off:=0) underlying59 rfl rfl H.bY rfl) ?_;refine xp rfl (ah H.cG rfl (kt.cell (i:=0) rfl)) ?_;refine aT 3 rfl ?_;refine az rfl ?_;exact⟨rfl,aA rfl (rfl),rfl,rfl,rfl,rfl,rfl,rfl,rfl,rfl,rfl,rfl,rfl,rfl,trivial⟩
             · refine aL rfl rfl (fun c10=>?_) (fun c10=>?_)
               · rw[if_pos c10] at hu0;refine av rfl ?_;refine bV (fun _=>False) (fun i=>Nat.blt i 14) (sz:=15) (listed:= #[false,false,false,false,false,false,false,false,false,false,false,false,false,false,false]) func24 H.mixed rfl rfl rfl ?_;refine b9 0 1 (by kernel_rfl) rfl ?_;refine b9 1 3 (by kernel_rfl) rfl ?_;refine bI 2 7 (by kernel_rfl) rfl (fun h' e=>aj.aJ underlying64 rfl) ?_;refine bI 3 15 (by kernel_rfl) rfl (fun h' e=>aj.iF rfl rfl ⟨by omega,by omega⟩) ?_;refine bI 4 31 (by kernel_rfl) rfl (fun h' e=>aj.ay underlying64 H.kf rfl rfl pre.length (by omega) hga (by omega)) ?_;refine bI 5 63 (by kernel_rfl) rfl (fun h' e=>af (off:=1) underlying106 rfl rfl H.dA rfl) ?_;refine bI 6 127 (by kernel_rfl) rfl (fun h' e=>ah H.dO rfl (e.cell (fun k=>k) (hgr 1 _ rfl))) ?_;refine b9 7 255 (by kernel_rfl) rfl ?_;refine cU 8 511 (by kernel_rfl) rfl (aq (vs:=[_]) func46 rfl H.LU rfl (ai.bw (vY (hg.ax (e02.trans egg)) (dz s t)))) ?_;rintro _ g3 ⟨rfl,e3'⟩;refine⟨fun _=>e3',?_⟩;refine cU 9 1023 (by kernel_rfl) rfl (aC.aZ (us:=[_]) underlying56 H.Lc rfl rfl (by decide) (by simp[Value.oneCell'])) ?_;rintro _ g4 ⟨rfl,hg4⟩;refine⟨fun _=>(by rw[hg4];exact Ext.push _ _ _),?_⟩;have e34:aF g3 g4:=by rw[hg4];exact Ext.push _ _ _
                 have e24:aF g2 g4:=e3'.trans e34;have hby:bU .byte g4 (fun _=>False) (.slice (some ⟨g3.size,0,none⟩) 1 1) [rz (dz s t)]:=by rw[hg4];exact Ew _
                 obtain⟨gb',gc',hgv',hgb',hgl',hgr',hgf',hgs'⟩:=kU.put (enc:=rD) (fun _=>rfl) (how2.ax e24) hgu;obtain rfl:gb=gb':=by rw[hga] at hgv';cases hgv';rfl
                 have hbu:=bp u.2.1;refine bI 10 2047 (by kernel_rfl) rfl (fun h' e=>aj.xF underlying56 underlying5 underlying9 rfl (hby.ax e)) ?_;refine bI 11 4095 (by kernel_rfl) rfl (fun h' e=>aj.bf rfl rfl (by show (bs u.2.1).size+1≤_;omega)) ?_;refine cU 12 8191 (by kernel_rfl) rfl (aj.bw (aj.ay underlying64 H.kf rfl rfl pre.length (by omega) hga (by omega))) ?_;rintro _ hq_ ⟨rfl,hqe_⟩;replace hqe_:=hqe_.symm;subst hqe_;refine⟨fun _=>Ext.refl _ _,?_⟩;refine bI 13 16383 (by kernel_rfl) rfl (fun h' e=>af (off:=1) underlying106 rfl rfl H.dA rfl) ?_;refine fS 14 32767 (by kernel_rfl) rfl (cE H.dA rfl rfl rfl (hgr' 1 _ rfl) (hgf' _)) ?_;rintro _ g5 ⟨rfl,hg5⟩;refine⟨fun hk=>(nomatch hk),?_⟩
                 have hfin:kU 3 rD g5 h2.size 106 (.slice oa out.length oc) (kO [rz (dz s t)] out):=by
                  rw[hg5,←hset];exact hgs' 1 _ _ (by decide) (by show [Value.int .i64 u.1,Value.string (bs u.2.1++⟨[rz (dz s t)].toArray⟩),Value.int .i64 u.2.2]=_;rw[show (⟨[rz (dz s t)].toArray⟩:ByteArray)=bs [rz (dz s t)] from rfl,bB];rfl)
                 have e25:aF h2 g5:=by rw[hg5];exact aF.set (egg.trans e24) hgb _
                 have hlena:(kO [rz (dz s t)] out).length=out.length:=vF _ _;refine bg (by kernel_rfl) ?_;refine xu [0,5,6,9,11,12,17,18,19,20,29,35,46] rfl ?_;refine bz rfl rfl ?_;refine G.bT func24 rfl ?_;refine xp rfl (aj.bA rfl rfl ⟨by omega,by omega⟩) ?_;refine aQ 1 [0,5,6,9,11,12,17,18,19,20,29,35,46] rfl ?_;exact ih (i+1,kO [rz (dz s t)] out,true,.slice oa out.length oc) _ _ ⟨rfl,rfl,rfl,rfl,rfl,rfl,rfl,trivial⟩ ⟨by show i+1≤ts.length;omega,e25,by have:=e25.size;omega,hfin,by rw[hstep,hu0] at htg;exact htg,by show (kO _ out).length≤500;omega,fun _ q=>hne (List.eq_nil_of_length_eq_zero (hlena.symm.trans (congrArg List.length q))),hadl _ (by simp)⟩ (by show ts.length-(i+1)<ts.length-i;omega)
               · rw[if_neg c10] at hu0;refine aW func24 2 [0,5,6,9,11,12,17,18,19,20,29,35,46,67] rfl ?_;refine aI rfl rfl (fun _=>?_) (fun hc=>absurd hc (by simp));have hbu:=bp u.2.1;have hbt:=bp (dz s t);refine br func24 2 rfl ?_;refine xp rfl (aj.aJ underlying64 rfl) ?_;refine xp rfl (aj.iF rfl rfl ⟨by omega,by omega⟩) ?_;refine xp rfl (aj.ay underlying64 H.kf rfl rfl pre.length (by omega) hga (by omega)) ?_;refine xp rfl (af (off:=1) underlying106 rfl rfl H.dA rfl) ?_;refine xp rfl (ah H.dO rfl (hgr 1 _ rfl)) ?_;refine bP 1 rfl rfl (aj.bf rfl rfl (by omega)) ?_;refine xp rfl (aj.ay underlying64 H.kf rfl rfl pre.length (by omega) hga (by omega)) ?_;refine xp rfl (af (off:=1) underlying106 rfl rfl H.dA rfl) ?_;refine RW.bZ rfl rfl rfl (cE H.dA rfl rfl rfl (hgr 1 _ rfl) (hgf _)) ?_;rintro _ g5 ⟨rfl,hg5⟩
                 have hfin:kU 3 rD g5 h2.size 106 (.slice oa out.length oc) (kO (dz s t) out):=by
                  rw[hg5,←hset];exact hgs 1 _ _ (by decide) (by show [Value.int .i64 u.1,Value.string (bs u.2.1++bs (dz s t)),Value.int .i64 u.2.2]=_;rw[bB];rfl)
                 have e25:aF h2 g5:=hown _ _ hg5;have hlena:(kO (dz s t) out).length=out.length:=vF _ _;refine xd [0,5,6,9,11,12,17,18,19,20,29,35,46,67] rfl ?_;refine bz rfl rfl ?_;refine G.bT func24 rfl ?_;refine xp rfl (aj.bA rfl rfl ⟨by omega,by omega⟩) ?_;refine aQ 1 [0,5,6,9,11,12,17,18,19,20,29,35,46,67] rfl ?_;exact ih (i+1,kO (dz s t) out,true,.slice oa out.length oc) _ _ ⟨rfl,rfl,rfl,rfl,rfl,rfl,rfl,trivial⟩ ⟨by show i+1≤ts.length;omega,e25,by have:=e25.size;omega,hfin,by rw[hstep,hu0] at htg;exact htg,by show (kO _ out).length≤500;omega,fun _ q=>hne (List.eq_nil_of_length_eq_zero (hlena.symm.trans (congrArg List.length q))),hadl (dz s t) (by omega)⟩ (by show ts.length-(i+1)<ts.length-i;omega)
   · obtain rfl:i=ts.length:=by omega
     rw[List.drop_length] at htg;have htg:UR.go out op=tgt:=htg;rw[←htg];dsimp only;refine bz rfl rfl ?_;refine av rfl ?_;refine av rfl ?_;refine G.bD [(114,.bool (decide (op=true∨st.1≠0)))] [(0,_),(5,_),(6,_),(9,_),(17,_),(18,_),(19,_),(20,_)] ⟨rfl,rfl,rfl,rfl,rfl,rfl,rfl,rfl,trivial⟩ func24 rfl ?_ ?_
     · rcases op with _|_
       · refine aT 2 rfl ?_;refine RW.cW (d:=110) (b':=false) rfl (rfl) ?_;refine xp rfl (af (off:=0) underlying25 rfl rfl H.bY rfl) ?_;refine xp rfl (ah H.cG rfl ((k1.ax eg).cell (i:=0) rfl)) ?_;refine aT 2 rfl ?_;refine az rfl ?_;exact⟨rfl,aA rfl (by simp),rfl,rfl,rfl,rfl,rfl,rfl,rfl,rfl,trivial⟩
       · refine aT 2 rfl ?_;refine RW.cW (d:=110) (b':=true) rfl (rfl) ?_;refine aT 4 rfl ?_;refine az rfl ?_;exact⟨rfl,aA rfl (by simp),rfl,rfl,rfl,rfl,rfl,rfl,rfl,rfl,trivial⟩
     · refine aL rfl rfl (fun co=>?_) (fun co=>?_)
       · rw[if_pos co];refine br func24 1 rfl ?_;refine xp rfl (aj.bG underlying9 rfl) ?_;refine aQ 3 [0,5,6,7,8,9,17,18,19,20,114] rfl ?_;refine G.ret func24 rfl rfl ?_;have hbz:=bp s;exact⟨_,rfl,e02.trans eg,by rw[←hbz];rfl⟩
       · rw[if_neg co];refine aE rfl ?_;refine aW func24 4 [0,5,6,7,8,9,17,18,19,20,114] rfl ?_;refine G.ret func24 rfl rfl ?_;exact⟨_,rfl,e02.trans eg,hol,_,rfl,kU.read how (fun _ _ k=>k)⟩
theorem ER {out:List Un}{op:Bool}(h:lV s out op t= .er a e):e≠0:=by
 unfold lV at h;split at h
 · cases h;decide
 · split at h
   · split at h
     · cases h
     · split at h<;>cases h
   · split at h
     · cases h
     · split at h
       · cases h;decide
       · cases h
theorem zK {s:By}{a e:Int}:∀(l:List Tok) (out:List Un) (op:Bool),pJ s l out op= .er a e→e≠0
 | [],_,_,h=>by cases h
 |t::l,out,op,h=>by
  rw[pJ] at h;split at h
  · rename_i q;cases h;exact ER q
  · exact zK l _ _ h
theorem Dy {l:List Tok}{m:Int}(h:jL s l m= .inl (a,e)):e≠0:=by
 unfold jL at h;split at h
 · split at h
   · rename_i q;cases h;exact zK _ _ _ q
   · split at h
     · cases h;decide
     · cases h
 · cases h;decide
theorem Fm {us:List Un}{b:Bool}{m:Int}{s:PS}(h:Mm us i b m s):(b=false→s.len=us.length-i)∧(b=true→s= .bad m)∧s.dm=b:=by
 cases s with
 |ok r=>obtain⟨rfl,rfl⟩:=h;exact⟨fun _=>by simp[PS.len],fun k=>(by cases k),rfl⟩
 |bad k=>obtain⟨rfl,rfl⟩:=h;exact⟨fun k=>(by cases k),fun _=>rfl,rfl⟩
theorem ze {s:PS}(h:s.dm=true):s.len=0∧∀e,dM e s=s:=by cases s with|ok r=>cases h|bad m=>exact⟨rfl,fun _=>rfl⟩
theorem rZ {n:Nat}{l:List Tr}{s:PS} {y} (h:jP e n l s=some y) (h0:s.len=0):y=(l,s):=by
 cases n with
 |zero=>cases h
 |succ n=>rw[jP,if_pos h0] at h;exact(Option.some.inj h).symm
def Ml (c:PC) (hb g:aD) (kv:Value) (l:List Tr) (s:PS):Prop :=
 qL c g s∧Ext (fun b=>b=c.pb) hb g∧dD eN (fun b=>b<hb.size) g hb.size 39 kv l
theorem xR (hg:ox h) (hv:bU Jc h (fun _=>False) v ts) (s:By) (st:vV) (hb:ts.length*(s.length+2)≤1000000000000) (hsl:s.length≤1000000000000)
 {k:List Tr}(hP:ic s ts st.1 k a e) :
 ai Tryz.prog 9 #[.string (bs s),v,.agg (cJ st).toArray] h (cL fun r h'=>aF h h'∧∃lv,r=packed [lv,.int .i64 a,.int .i64 e]∧bU eN h' (fun b=>b<h.size) lv k):=by
 have hbz:=bp s;refine ai.of func9 rfl rfl ?_;refine xr func9 rfl ?_;refine xo rfl (aC.fe rfl) ?_;rintro _ h1 ⟨rfl,k1,e1,z1⟩;have k1:bq h1 h.size 25 (cJ st):=k1;have hun:=xP (hg.ax e1) (hv.ax e1) s st hb hsl
 rcases hU:jL s ts st.1 with ⟨a1,c1⟩|us
 · rw[hU] at hun;have hce:=Dy hU
   obtain⟨rfl,rfl,rfl⟩:k=[]∧a=a1∧e=c1:=by
    cases hP with
    |units h=>rw[hU] at h;cases h;exact⟨rfl,rfl,rfl⟩
    |bad h _=>rw[hU] at h;cases h
    |ok h _=>rw[hU] at h;cases h
   refine aQ 3 [0,1,2,5,6,7,8] rfl ?_;refine br func9 2 rfl ?_;refine xp rfl (aj.aG H.iC H.eH rfl k1.row (by first|rfl|(simp;done)|(simp;omega))) ?_;refine xo rfl (aq (vs:=[_,_,_]) func24 rfl H.J4 rfl (ai.bw (hun))) ?_;rintro _ h2 ⟨e2,rfl⟩;refine aQ 7 [0,1,2,5,6,7,8,9] rfl ?_;refine av rfl ?_;refine aW func9 2 [0,1,2,5,6,7,8,9,22] rfl ?_;refine aI rfl rfl (fun _=>?_) (fun hc=>absurd hc (by simpa using hce));refine aW func9 5 [0,1,2,5,6,7,8,9,22] rfl ?_;refine G.ret func9 rfl rfl ?_;exact⟨_,rfl,e1.trans e2,_,rfl,bU.nil _ _ _⟩
 · rw[hU] at hun
   obtain⟨n,K,F,hm,hend⟩:∃n K F,jP s.length n [] (.ok us)=some (K,F)∧(∀m,F= .bad m→k=[]∧a=m∧e=10)∧(F.dm=false→k=K∧a=0∧e=0):=by
    cases hP with
    |units h=>rw[hU] at h;cases h
    |bad h h2=>rw[hU] at h;cases h;exact⟨_,_,_,h2,fun m q=>by cases q;exact⟨rfl,rfl,rfl⟩,fun q=>by cases q⟩
    |ok h h2=>rw[hU] at h;cases h;exact⟨_,_,_,h2,fun m q=>(by cases q),fun _=>⟨rfl,rfl,rfl⟩⟩
   refine aQ 3 [0,1,2,5,6,7,8] rfl ?_;refine br func9 2 rfl ?_;refine xp rfl (aj.aG H.iC H.eH rfl k1.row (by first|rfl|(simp;done)|(simp;omega))) ?_;refine xo rfl (aq (vs:=[_,_,_]) func24 rfl H.J4 rfl (ai.bw (hun))) ?_;rintro _ h2 ⟨e2,hu500,uv,rfl,huv⟩;refine aQ 7 [0,1,2,5,6,7,8,9] rfl ?_;refine av rfl ?_;refine aW func9 2 [0,1,2,5,6,7,8,9,22] rfl ?_;refine aI rfl rfl (fun hc=>absurd hc (by simp)) (fun _=>?_);obtain⟨ua,un,uc,rfl,huvs⟩:=huv.open;refine aE rfl ?_;refine br func9 2 rfl ?_;refine xp rfl (aj.bG underlying9 rfl) ?_;refine xp rfl (aP (H.Gv _ _ _ _) rfl) ?_;refine xo rfl (aC.fe rfl) ?_;rintro _ h3 ⟨rfl,kp,e3,z3⟩;have kp:bq h3 h2.size 69 [.slice ua un uc,.int .i64 (0:Nat),.int .i64 (s.length:Nat),.bool false,.int .i64 0]:=by rw[hbz] at kp;exact kp
   have e13:aF h h3:=(e1.trans e2).trans e3;obtain⟨c,hc⟩:∃c:PC,c=⟨h2.size,.slice ua un uc,h3.size,us,s.length⟩:=⟨_,rfl⟩
   have hz13:=e13.size;have hz2:=e2.size;have hz1:=e1.size;have hpb:c.pb=h2.size:=by rw[hc]
   have hce:c.e=s.length:=by rw[hc]
   have hcu:c.us=us:=by rw[hc]
   have hst3:qL c h3 (.ok us):=by
    rw[hc];exact⟨0,false,0,kp,huv.mv (Mv.dc e3 fun b hb _=>⟨fun k=>k,fun q=>by have:=e3.size;dsimp only at q;omega⟩),Nat.zero_le _,⟨rfl,rfl⟩,by show h2.size<h3.size;omega,Nat.le_refl _,by show us.length≤1000;omega⟩
   rw[←hce] at hm;have hI3:Ml c h3 h3 (.slice none 0 0) [] (.ok us):=⟨hst3,Ext.refl _ _,dD.nil _ _ _ _ _⟩
   rw[←hpb];refine aQ 1 [0,1,2,5,6,7,8,9,10,22] rfl ?_;refine av rfl ?_;refine G.block rfl rfl ?_;refine bE (σ:=Nat×List Tr×Value×PS) (fun w=>[(6,w.2.2.1),(10,ptr c.pb)]) (fun w g=>Ml c h3 g w.2.2.1 w.2.1 w.2.2.2∧(w.2.2.2.dm=true→w.2.2.2=F)∧(w.2.2.2.dm=false→jP c.e w.1 w.2.1 w.2.2.2=some (K,F)∧w.2.1.length+w.2.2.2.len≤us.length)) (fun w=>w.1) ((n,[],.slice none 0 0,.ok us)) rfl ⟨rfl,rfl,trivial⟩ ⟨hI3,fun q=>(by cases q),fun _=>⟨hm,by simp[PS.len]⟩⟩ ?_;rintro⟨m,l,kv,sI⟩ g ⟨⟨hst,xg,how⟩,hbad,hok⟩ ih
   try dsimp only
   dsimp only at hst how hbad hok;obtain⟨pi,pbb,pm,pk,psl,pil,ps,_⟩:=id hst;obtain⟨pl1,pl2,pl3⟩:=Fm ps;rw[hcu] at pl1;have hpil:pi≤us.length:=by rw[←hcu];exact pil
   have hlv:c.lv= .slice ua us.length uc:=by rw[hc];have:=huvs.len;subst this;rfl
   rw[hlv] at pk;have hsize:c.pb<h3.size:=by rw[hpb];omega
   have how0:aS g h3.size 39 3 kv l.length _:=(how.own).choose_spec;obtain⟨ka,kc,rfl,_⟩:=how0.open;have kown:∀b,(Value.slice ka l.length kc).ownBlock=some b→h3.size≤b∧b<g.size:=fun b q=>how0.lt q
   refine av rfl ?_;refine av rfl ?_;refine G.yS [(46,.bool (decide (sI.len≠0)))] [(6,_),(10,_)] ⟨rfl,rfl,trivial⟩ (fun b=>Array.size g≤b) (fun i=>Nat.blt i 17) (sz:=17) (listed:= #[false,false,false,false,false,false,false,false,false,false,false,false,false,false,false,false,false]) func9 H.mixed rfl rfl rfl ?_ ?_
   · refine b9 0 1 (by kernel_rfl) rfl ?_;refine b9 1 3 (by kernel_rfl) rfl ?_;refine bI 2 7 (by kernel_rfl) rfl (fun h' e=>af (off:=1) underlying69 rfl rfl H.bY rfl) ?_;refine bI 3 15 (by kernel_rfl) rfl (fun h' e=>ah H.cG rfl (e.old (pk.cell (i:=1) rfl))) ?_;refine b9 4 31 (by kernel_rfl) rfl ?_;refine b9 5 63 (by kernel_rfl) rfl ?_;refine bI 6 127 (by kernel_rfl) rfl (fun h' e=>af (off:=0) underlying69 rfl rfl H.nP rfl) ?_;refine bI 7 255 (by kernel_rfl) rfl (fun h' e=>ah H.nU rfl (e.old (pk.cell (i:=0) rfl))) ?_;refine bI 8 511 (by kernel_rfl) rfl (fun h' e=>aj.aJ underlying64 rfl) ?_;refine b9 9 1023 (by kernel_rfl) rfl ?_;refine b9 10 2047 (by kernel_rfl) rfl ?_;refine vN (d:=40) rfl (fun g1=>?_) (fun g1=>?_)
     · have g1:=of_decide_eq_true g1;refine b9 11 4095 (by kernel_rfl) rfl ?_;refine b9 12 8191 (by kernel_rfl) rfl ?_;refine bI 13 16383 (by kernel_rfl) rfl (fun h' e=>af (off:=3) underlying69 rfl rfl H.mg rfl) ?_;refine bI 14 32767 (by kernel_rfl) rfl (fun h' e=>ah H.vC rfl (e.old (pk.cell (i:=3) rfl))) ?_;refine b9 15 65535 (by kernel_rfl) rfl ?_;refine b9 16 131071 (by kernel_rfl) rfl ?_;refine bg (by kernel_rfl) ?_;exact⟨rfl,aA rfl (by cases pbb with|true=>rw[pl2 rfl];rfl|false=>rw[pl1 rfl,decide_eq_true (by omega)];rfl),rfl,rfl,trivial⟩
     · have g1:=of_decide_eq_false g1;refine zx 11 4095 (by kernel_rfl) rfl ?_;refine zx 12 8191 (by kernel_rfl) rfl ?_;refine zx 13 16383 (by kernel_rfl) rfl ?_;refine zx 14 32767 (by kernel_rfl) rfl ?_;refine zx 15 65535 (by kernel_rfl) rfl ?_;refine b9 16 131071 (by kernel_rfl) rfl ?_;refine bg (by kernel_rfl) ?_;exact⟨rfl,aA rfl (by cases pbb with|true=>rw[pl2 rfl];rfl|false=>rw[pl1 rfl,decide_eq_false (by omega)]),rfl,rfl,trivial⟩
   · refine aL rfl rfl (fun hgo=>?_) (fun hgo=>?_)
     · obtain⟨r,hr⟩:∃r,sI= .ok r:=by cases sI with|ok r=>exact⟨r,rfl⟩|bad q=>exact absurd rfl hgo
       obtain⟨hm,hll⟩:=hok (by rw[hr];rfl);obtain⟨m,rfl⟩:∃m',m=m'+1:=by cases m with|zero=>cases hm|succ m=>exact⟨m,rfl⟩
       rw[jP,if_neg hgo] at hm
       rcases hv1:pM c.e m .stmt sI with _|⟨tv,s2⟩
       rw[hv1] at hm;cases hm;rw[hv1] at hm;simp only[Option.bind_some] at hm;have hvl:=Fs hv1;refine aE rfl ?_;refine G.block rfl rfl ?_;refine br func9 2 rfl ?_;refine xo rfl (aq (vs:=[_]) func25 rfl H.J3 rfl (ai.bw ((G5 m).stmt _ _ _ _ _ hst hv1))) ?_;rintro r6 h6 ⟨y6,hp6,t6,hn6,ht6⟩;have z6:=y6.size;obtain⟨mk,mt,ma,mn,mc,rfl,hr6⟩:=hn6.get;have ho6:=how.pG y6 (fun b q q2=>by have:=kown b q;omega) (fun b hb q=>by omega) (fun _ _ q=>q);obtain⟨css,hc1,hc2,hc3⟩:=id ho6;refine xo rfl (aC.cx (cs:=[_,_,_]) underlying28 H.gR rfl rfl (by decide)) ?_;rintro _ _ ⟨rfl,rfl⟩;refine xo rfl (aC.bO underlying28 H.gR rfl rfl (hc2) rfl rfl (by first|decide|simp[Value.oneCell']) (by omega) (by decide) (by omega)) ?_;rintro v7 h7 ⟨ho7,hx7,hx7',hv7⟩;have z7:=hx7.size
       have hr6':eN.R h6 (fun b=>cT (Value.slice ka l.length kc).ownBlock b∨b<h3.size) [.int .i64 mk,.string (bs mt),.slice ma mn mc] t6:=aX hr6 (Ext.refl (fun _=>False) _) (fun b hb q=>⟨fun k=>k,fun q2=>by
        rcases q2 with q2|q2
        · have:=kown _ q2.symm;omega
        · have:=xg.size;omega⟩)
       have ho7x:dD eN (fun b=>b<h3.size) h7 h3.size 39 v7 (l++[t6]):=dD.fV hc1 hc3 ho7 hx7 hv7 hr6';have hst7:qL c h7 s2:=hp6.ext hx7 (fun b hb q=>by have:=kown _ q.symm;rw[hc] at hb;dsimp only at hb;omega);have x7:Ext (fun b=>b=c.pb) h3 h7:=(xg.trans y6).fo hx7 (fun i hi q=>by have:=kown _ q.symm;omega);refine aQ 1 [6,10,46] rfl ?_;refine br func9 1 rfl ?_;refine xo rfl (aC.aZ (us:=[_]) underlying93 H.nT rfl rfl (by decide) (by simp[Value.oneCell'])) ?_;rintro _ w9 ⟨rfl,hw9⟩;have y9:aF h7 w9:=by rw[hw9];exact Ext.push _ _ _
       have ts9:bU mV w9 (fun _=>False) (.slice (some ⟨Array.size h7,0,none⟩) 1 1) [[59]]:=by rw[hw9];exact cj _ [[59]] _ rfl (by simp[maxLen]) rfl
       refine xo rfl (aq (vs:=[_,_,_]) func26 rfl H.iY rfl (ai.bw (cg ((hst7).ax y9) 6 ts9))) ?_;rintro _ h9 ⟨rfl,hp9,x9⟩;have x9:=y9.of.trans x9
       rcases hq9:dL 6 [[59]] s2 with ⟨o9,s9⟩
       rw[hq9] at hp9 hm;have hp9:qL c h9 s9:=hp9;have how9:=ho7x.pG x9 (fun b q q2=>by have:=ho7.lt q;omega) (fun b hb q=>by omega) (fun _ _ q=>q);have x39:=x7.trans x9;have hgood:∀sN:PS,(sN.dm=false→s9.dm=false)→sN.dm=false→t6=tv:=fun sN q1 q2=>ht6 (cw hq9 (q1 q2))
       have hfinB:∀sN:PS,jP c.e m (l++[tv]) sN=some (K,F)→sN.dm=true→sN=F:=fun sN q1 q2=>by have:=rZ q1 (ze q2).1;cases this;rfl
       rcases o9 with _|w9
       · simp only at hm;have e9:=eD hq9;obtain⟨qi,qbb,qm,qk,qsl,qil,qs,_⟩:=(show qL c h9 s9 from hp9)
         obtain⟨ql1,ql2,ql3⟩:=Fm qs;rw[hcu] at ql1;rw[hlv] at qk;refine aQ 5 [6,10,12,46] rfl ?_;refine av rfl ?_;refine G.yS [(71,.bool (decide (qi<us.length)))] [(6,_),(10,_),(12,_),(46,_)] ⟨rfl,rfl,rfl,rfl,trivial⟩ (fun b=>Array.size h9≤b) (fun i=>Nat.blt i 14) (sz:=14) (listed:= #[false,false,false,false,false,false,false,false,false,false,false,false,false,false]) func9 H.mixed rfl rfl rfl ?_ ?_
         · refine b9 0 1 (by kernel_rfl) rfl ?_;refine b9 1 3 (by kernel_rfl) rfl ?_;refine b9 2 7 (by kernel_rfl) rfl ?_;refine RD.cW (d:=60) (b':=true) rfl (rfl) ?_;refine b9 3 15 (by kernel_rfl) rfl ?_;refine b9 4 31 (by kernel_rfl) rfl ?_;refine bI 5 63 (by kernel_rfl) rfl (fun h' e=>af (off:=1) underlying69 rfl rfl H.bY rfl) ?_;refine bI 6 127 (by kernel_rfl) rfl (fun h' e=>ah H.cG rfl (e.old (qk.cell (i:=1) rfl))) ?_;refine b9 7 255 (by kernel_rfl) rfl ?_;refine b9 8 511 (by kernel_rfl) rfl ?_;refine bI 9 1023 (by kernel_rfl) rfl (fun h' e=>af (off:=0) underlying69 rfl rfl H.nP rfl) ?_;refine bI 10 2047 (by kernel_rfl) rfl (fun h' e=>ah H.nU rfl (e.old (qk.cell (i:=0) rfl))) ?_;refine bI 11 4095 (by kernel_rfl) rfl (fun h' e=>aj.aJ underlying64 rfl) ?_;refine b9 12 8191 (by kernel_rfl) rfl ?_;refine b9 13 16383 (by kernel_rfl) rfl ?_;refine bg (by kernel_rfl) ?_;exact⟨rfl,aA rfl (by rw[decide_eq_decide];omega),rfl,rfl,rfl,rfl,trivial⟩
         · refine aL rfl rfl (fun hgo2=>?_) (fun hgo2=>?_)
           · have hsN:(if s9.len=0 then s9 else dM c.e s9)=dM c.e s9:=by
              split
              · rename_i q;cases qbb with
                |true=>exact((ze ql3).2 _).symm
                |false=>have:=ql1 rfl;omega
              · rfl
             rw[hsN] at hm;have hfb:(dM c.e s9).dm=true:=by obtain⟨q,hq⟩:=xE c.e s9;rw[hq];rfl
             refine G.bT func9 rfl ?_;refine aT 1 rfl ?_;refine xo rfl (aq (vs:=[_]) func27 rfl H.wq rfl (ai.bw (eI hp9))) ?_;rintro _ h10 ⟨rfl,hp10,x10⟩;have how10:=how9.pG x10 (fun b q q2=>by have:=ho7.lt q;omega) (fun b hb q=>by omega) (fun _ _ q=>q);refine xd [6,10,12,46,71] rfl ?_;refine G.aN ?_;exact ih (m,l++[t6],v7,dM c.e s9) _ _ ⟨rfl,rfl,trivial⟩ ⟨⟨hp10,x39.trans x10,how10⟩,fun q=>hfinB _ hm q,fun q=>(by have q:(dM c.e s9).dm=false:=q;rw[hfb] at q;cases q)⟩ (Nat.lt_succ_self _)
           · have hs0:s9.len=0:=by
              cases qbb with
              |true=>exact(ze ql3).1
              |false=>have:=ql1 rfl;omega
             rw[if_pos hs0] at hm;refine aE rfl ?_;refine G.aN ?_;exact ih (m,l++[t6],v7,s9) _ _ ⟨rfl,rfl,trivial⟩ ⟨⟨hp9,x39,how9⟩,fun q=>hfinB _ hm q,fun q=>⟨by dsimp only;rw[hgood s9 id q];exact hm,by dsimp only;rw[List.length_append,List.length_singleton,hs0];omega⟩⟩ (Nat.lt_succ_self _)
       · simp only at hm;have hl9:=qo hq9;refine aQ 5 [6,10,12,46] rfl ?_;refine av rfl ?_;refine G.yS [(71,.bool false)] [(6,_),(10,_),(12,_),(46,_)] ⟨rfl,rfl,rfl,rfl,trivial⟩ (fun b=>Array.size h9≤b) (fun i=>Nat.blt i 14) (sz:=14) (listed:= #[false,false,false,false,false,false,false,false,false,false,false,false,false,false]) func9 H.mixed rfl rfl rfl ?_ ?_
         · refine b9 0 1 (by kernel_rfl) rfl ?_;refine b9 1 3 (by kernel_rfl) rfl ?_;refine b9 2 7 (by kernel_rfl) rfl ?_;refine RD.cW (d:=60) (b':=false) rfl (rfl) ?_;refine zx 3 15 (by kernel_rfl) rfl ?_;refine zx 4 31 (by kernel_rfl) rfl ?_;refine zx 5 63 (by kernel_rfl) rfl ?_;refine zx 6 127 (by kernel_rfl) rfl ?_;refine zx 7 255 (by kernel_rfl) rfl ?_;refine zx 8 511 (by kernel_rfl) rfl ?_;refine zx 9 1023 (by kernel_rfl) rfl ?_;refine zx 10 2047 (by kernel_rfl) rfl ?_;refine zx 11 4095 (by kernel_rfl) rfl ?_;refine zx 12 8191 (by kernel_rfl) rfl ?_;refine b9 13 16383 (by kernel_rfl) rfl ?_;refine bg (by kernel_rfl) ?_;exact⟨rfl,aA rfl (rfl),rfl,rfl,rfl,rfl,trivial⟩
         · refine aI rfl rfl (fun hc=>absurd hc (by simp)) (fun _=>?_);refine aE rfl ?_;refine G.aN ?_;exact ih (m,l++[t6],v7,s9) _ _ ⟨rfl,rfl,trivial⟩ ⟨⟨hp9,x39,how9⟩,fun q=>hfinB _ hm q,fun q=>⟨by dsimp only;rw[hgood s9 id q];exact hm,by dsimp only;rw[List.length_append,List.length_singleton];omega⟩⟩ (Nat.lt_succ_self _)
     · have h0:sI.len=0:=by simpa using hgo
       refine bz rfl rfl ?_;refine av rfl ?_;refine br func9 2 rfl ?_;refine xp rfl (af (off:=3) underlying69 rfl rfl H.mg rfl) ?_;refine xp rfl (ah H.vC rfl (pk.cell (i:=3) rfl)) ?_;refine xd [6,10,46,77] rfl ?_
       rcases pbb with _|_
       · refine aI rfl rfl (fun hc=>absurd hc (by simp)) (fun _=>?_);obtain⟨r,hr⟩:∃r,sI= .ok r:=by cases sI with|ok r=>exact⟨r,rfl⟩|bad q=>cases pl3
         obtain⟨hm,hll⟩:=hok (by rw[hr];rfl);have hz:=rZ hm h0;obtain⟨rfl,rfl,rfl⟩:=hend.2 (by cases hz;rw[hr];rfl);have hKl:k=l:=by cases hz;rfl
         refine aE rfl ?_;refine aW func9 4 [6,7,8,10,46,77] rfl ?_;refine G.ret func9 rfl rfl ?_;exact⟨_,rfl,aF.only e13 xg (by omega),_,rfl,by rw[hKl];exact how.read (fun b hb q=>by omega) (fun b hb q=>by omega)⟩
       · have hF:F= .bad pm:=by rw[←hbad pl3];exact pl2 rfl
         obtain⟨rfl,rfl,rfl⟩:=hend.1 pm hF;refine aI rfl rfl (fun _=>?_) (fun hc=>absurd hc (by simp));refine av rfl ?_;refine G.dB func9 H.mixed rfl (by kernel_rfl) ?_;refine RQ.au rfl rfl rfl rfl (aK rfl) ?_;refine RQ.au rfl rfl rfl rfl (aO rfl) ?_;refine RQ.au rfl rfl rfl rfl (af (off:=4) underlying69 rfl rfl H.bY rfl) ?_;refine RQ.au rfl rfl rfl rfl (ah H.cG rfl (pk.cell (i:=4) rfl)) ?_;refine RQ.au rfl rfl rfl rfl (aj.assign rfl) ?_;refine RQ.au rfl rfl rfl rfl (aj.assign rfl) ?_;refine RQ.au rfl rfl rfl rfl (aj.assign rfl) ?_;refine b8 rfl ?_;refine xu [6,7,8,10,46,77] rfl ?_;refine G.ret func9 rfl rfl ?_;exact⟨_,rfl,aF.only e13 xg (by omega),_,rfl,bU.nil _ _ _⟩
end
end Go.Proofs.YtedocgkapmeceaaGreatDoor

/- What the proof of the statement leans on (part 26). -/
import Derived.Below
import Derived.Lib.TrimUEq
import Derived.Test.YtmehdcdbeafljaaGreatDoorQy

namespace Go.Proofs.YtmehdcdbeafljaaGreatDoor
open Go.Proofs.Tryz
open Go Go.Lw
set_option maxRecDepth 20000
section
variable {h:az}{p:Value}
def J3 (h:az):Prop:=(∀c,c<256->cellAt h ⟨5,c,none⟩=some (.int .u8 (Lib.firstT c))) /\
 (∀i,i<16->cellAt h ⟨6,2*i,none⟩=some (.int .u8 (Lib.accLo i))/\cellAt h ⟨6,2*i+1,none⟩=some (.int .u8 (Lib.accHi i)))
structure Ce (h:az):Prop where
 sg:∃lim,lim<=h.size/\Sg h lim
 tens:ud h
 rules:mJ h
 utf:J3 h
 most:∃m,cellAt h ⟨9,0,none⟩=some (.int .i64 m)
theorem Ce.ax {h h':az}(k:Ce h) (e:aD h h'):Ce h':=by
 obtain⟨⟨lim,h1,h2⟩,h3,h4,h5,m,h6⟩:=k;have hz:=e.size;exact⟨⟨lim,by omega,h2.ext e (fun _ k=>k.elim)⟩,h3.ax e,h4.ax e,⟨fun c hc=>e.cell (fun k=>k) (h5.1 c hc),fun i hi=>⟨e.cell (fun k=>k) (h5.2 i hi).1,e.cell (fun k=>k) (h5.2 i hi).2⟩⟩,m,e.cell (fun k=>k) h6⟩
theorem Ab (hg:Ce h) (l:By) (hl:l≠[]):ah Tryz.prog 111 #[.string (bs l)] h (dh fun r h'=>(∃x:Nat,r= .tuple #[.int .i32 (x:Nat),.int .i64 (qJ l:Nat)])/\aD h h'):=by
 refine ah.zy fun w hw=>?_
 subst hw;have hT:Lib.Utf8Tabs 5 6 w:=⟨fun c hc=>by rw[dS];exact hg.utf.1 c hc,fun i hi=>⟨by rw[dS];exact(hg.utf.2 i hi).1,by rw[dS];exact(hg.utf.2 i hi).2⟩⟩
 refine(Tryz.utf8_DecodeRuneInString (bs l) w hT).mono ?_;rintro e w' ⟨rfl,hb⟩
 have hn:(Lib.decodeGo (bs l)).2=qJ l:=by
  have h0:¬(bs l).size=0:=by rw[bD];have:=List.length_pos_iff.2 hl;omega
  unfold Lib.decodeGo;rw[if_neg h0,Lib.decode_N,iu];rfl
 refine⟨_,rfl,⟨⟨(Lib.decodeGo (bs l)).1,by rw[hn]⟩,⟨hb.size,fun b hlt _=>hb.block b hlt⟩⟩,hb.os,hb.tape,hb.output⟩
theorem nU (hg:Ce h) (s t:By) (hs:s.length<=1000000):ah Tryz.prog 113 #[.string (bs s),.string (bs t)] h (dh fun r h'=>r= .bool (Lib.contains s t)/\h'=h):=by
 obtain⟨m,hm⟩:=hg.most;refine ah.zy fun w hw=>?_
 subst hw;refine(Tryz.strings_Contains (bs s) (bs t) m w (by rw[bD];omega) (by rw[dS];exact hm)).mono ?_;rintro e w' ⟨rfl,rfl⟩;rw[iu,iu];exact⟨_,rfl,⟨rfl,rfl⟩,rfl,rfl,rfl⟩
theorem uA (hg:Ce h) (s:By) (hs:s.length<=1000000):ah Tryz.prog 67 #[.string (bs s)] h (dh fun r h'=>r= .bool (bQ s)/\h'=h):=by
 have hbs:=bD s
 have e1:((⟨#[32]⟩:ByteArray)++bs s)++⟨#[32]⟩=bs (32::(s++[32])):=by
  rw[show (⟨#[32]⟩:ByteArray)=bs [32] from rfl,dL,dL];rfl
 have w1:(⟨#[32]⟩:ByteArray).size=1:=rfl;refine ah.of func67 rfl rfl ?_;refine aZ func67 1 [0,2] rfl ?_;refine av rfl ?_;refine G.bF [(2,.bool (bQ s))] [(0,_)] ⟨rfl,trivial⟩ func67 rfl ?_ ?_
 · refine cD 1 rfl rfl (aj.pU rfl rfl) ?_;refine bh 1 rfl ?_;refine aP (d:=5) rfl (fun hc=>?_) (fun hc=>?_)
   · have hc':decide (s≠[])=true:=decide_eq_true (fun e=>of_decide_eq_true hc (by rw[e];rfl));refine bh 1 rfl ?_;refine xo rfl (aq (vs:=[_,_]) func113 rfl H.JM rfl (ah.bw (nU hg s [32] hs))) ?_;rintro _ h0 ⟨rfl,hh0⟩;subst hh0;refine bh 3 rfl ?_;refine aP (d:=10) rfl (fun hc2=>?_) (fun hc2=>?_)
     · refine cD 1 rfl rfl (aj.cx rfl rfl (by omega)) ?_;refine xp rfl (aj.cx rfl rfl (by rw[ByteArray.size_append];omega)) ?_;rw[e1];refine xo rfl (aq (vs:=[_,_]) func113 rfl H.JM rfl (ah.bw (nU hg FN (32::(s++[32])) (by decide)))) ?_;rintro _ h1 ⟨rfl,hh1⟩;subst hh1;refine bh 2 rfl ?_;refine aE rfl ?_;exact⟨rfl,aF rfl (by rw[bQ,hc',hc2,Bool.true_and,Bool.true_and]),rfl,trivial⟩
     · refine bh 6 rfl ?_;refine aE rfl ?_;exact⟨rfl,aF rfl (by rw[bQ,hc',hc2,Bool.true_and,Bool.false_and]),rfl,trivial⟩
   · refine bh 11 rfl ?_;refine aE rfl ?_;exact⟨rfl,aF rfl (by rw[bQ,decide_eq_false (fun k=>of_decide_eq_false hc (fun e=>k (eT (m:=[]) e))),Bool.false_and]),rfl,trivial⟩
 · refine G.ret func67 rfl rfl ?_;exact⟨_,rfl,rfl,rfl⟩
theorem Fa {m:Nat}(hm:m<3){i:Nat}:(pO m)[i]?.map (fun r=>(r.2.1,r.2.2))=(qY m)[i]? :=by
 have h:(pO m).map (fun r=>(r.2.1,r.2.2))=qY m:=by
  match m,hm with
  | 0,_=>decide
  | 1,_=>decide
  | 2,_=>decide
 rw[<-h,List.getElem?_map]
theorem sj {m:Int}(h:m<0\/3<=m):qY m=[]:=by
 unfold qY;rw[if_neg (by omega),if_neg (by omega),if_neg (by omega)]
theorem Fk {α:Type}{l:List α}{kn:Nat}{n:Int}(hk:l.length=kn) (hn:¬n<0):decide ((kn:Int)<=n)= !(l[n.toNat]?).isSome:=by
 cases hq:l[n.toNat]? with
 |none=>have:=List.getElem?_eq_none_iff.1 hq;simp;omega
 |some v=>have:=(List.getElem?_eq_some_iff.1 hq).1;simp;omega
theorem vM (hg:Ce h) (m n:Int):ah Tryz.prog 112 #[.int .i64 m,.int .i64 n] h (dh fun r h'=>(∃x:By×Int×Int,r= .tuple #[.agg (fF x).toArray,.bool (je m n).isSome]/\∀p,je m n=some p->(x.2.1,x.2.2)=p)/\aD h h'):=by
 refine ah.of func112 rfl rfl ?_;refine xr func112 rfl ?_;refine xo rfl (aA.aY H.Ax) ?_;rintro _ h1 ⟨rfl,k1,e1,z1⟩;have k1:bp h1 h.size 144 [.string ⟨#[]⟩,.int .i64 0,.int .i64 0]:=k1
 have hrow:∀mm:Nat,mm<3->∃oa kn kc,cellAt h1 ⟨0,0+mm*1,none⟩=some (.slice oa kn kc)/\Sl KI h1 (fun _=>False) oa kn kc (pO mm):=fun mm hmm=>by
  obtain⟨v,hv,hsl⟩:=(hg.rules.ax e1) mm hmm;obtain⟨oa,kn,kc,rfl,h2⟩:=hsl.open;exact⟨oa,kn,kc,by rw[Nat.mul_one,Nat.zero_add];exact hv,h2⟩
 have hlenT:∀mm:Nat,mm<3->(pO mm).length=(qY mm).length:=fun mm hmm=>by
  match mm,hmm with
  | 0,_=>rfl
  | 1,_=>rfl
  | 2,_=>rfl
 refine aS 1 [0,1,4,5] rfl ?_;refine av rfl ?_;refine av rfl ?_;refine G.bF [(23,.bool (!(je m n).isSome))] [(0,_),(1,_),(4,_),(5,_)] ⟨rfl,rfl,rfl,rfl,trivial⟩ func112 rfl ?_ ?_
 · refine bh 3 rfl ?_;refine aP (d:=8) rfl (fun c1=>?_) (fun c1=>?_)
   · have c1':=of_decide_eq_true c1;refine bh 15 rfl ?_;refine aE rfl ?_;exact⟨rfl,aF rfl (by rw[je,sj (.inl c1')];simp),rfl,rfl,rfl,rfl,trivial⟩
   · have c1':=of_decide_eq_false c1;refine bh 4 rfl ?_;refine aP (d:=12) rfl (fun c2=>?_) (fun c2=>?_)
     · have c2':=of_decide_eq_true c2;refine bh 11 rfl ?_;refine aE rfl ?_;exact⟨rfl,aF rfl (by rw[je,sj (.inr c2')];simp),rfl,rfl,rfl,rfl,trivial⟩
     · have c2':=of_decide_eq_false c2;refine bh 4 rfl ?_;refine aP (d:=16) rfl (fun c3=>?_) (fun c3=>?_)
       · have c3':=of_decide_eq_true c3;refine bh 7 rfl ?_;refine aE rfl ?_;exact⟨rfl,aF rfl (by rw[je,if_pos c3'];rfl),rfl,rfl,rfl,rfl,trivial⟩
       · have c3':=of_decide_eq_false c3;obtain⟨mm,rfl⟩:=Int.eq_ofNat_of_zero_le (show 0<=m by omega);have hmm:mm<3:=by omega
         obtain⟨oa,kn,kc,hv,hsl⟩:=hrow mm hmm;have hkl:=hsl.len;rw[hlenT mm hmm] at hkl;refine cD 2 rfl rfl (aj.cX underlying145 H.F4 rfl rfl mm rfl (by omega)) ?_;refine xp rfl (ai H.Ek rfl hv) ?_;refine xp rfl (aj.aJ underlying142 rfl) ?_;refine bh 2 rfl ?_;refine aE rfl ?_;exact⟨rfl,aF rfl (by rw[je,if_neg c3'];exact Fk hkl c3'),rfl,rfl,rfl,rfl,trivial⟩
 · rcases hf:je m n with _|p
   · refine aI rfl rfl (fun _=>?_) (fun hc=>absurd hc (by simp));refine xr func112 rfl ?_;refine xp rfl (aN (H.KP ) rfl) ?_;refine RW.cu rfl rfl rfl (aA.aB H.kW rfl rfl k1 (by first|rfl|(simp;done)|(simp;omega)) (by first|decide|exact of_decide_eq_true rfl|(simp;done)|(simp;omega)) (by first|decide|simp[Value.oneCell'])) ?_;rintro _ h2 ⟨rfl,k2,x2,z2⟩;refine aS 1 [0,1,4,5,23] rfl ?_;have k2:bp h2 h.size 144 (fF ([],0,0)):=k2;refine G.cU func112 rfl (.cons (bl.cM H.B5 H.kW rfl (k2.row) (by first|rfl|(simp;done)|(simp;omega))) (.cons (bl.tmp rfl) (.nil))) ?_;exact⟨_,rfl,⟨([],0,0),rfl,fun p hp=>by cases hp⟩,e1.only x2 (Nat.le_refl _)⟩
   · have hn0:0<=n:=by
      by_cases q:n<0
      · rw[je,if_pos q] at hf;cases hf
      · omega
     have hm0:0<=m/\m<3:=by
      by_cases q:m<0\/3<=m
      · rw[je,sj q] at hf;simp at hf
      · omega
     obtain⟨mm,rfl⟩:=Int.eq_ofNat_of_zero_le hm0.1;obtain⟨i,rfl⟩:=Int.eq_ofNat_of_zero_le hn0;have hmm:mm<3:=by omega
     obtain⟨oa,kn,kc,hv,hsl⟩:=hrow mm hmm;have hkl:=hsl.len;rw[je,if_neg (by omega),Int.toNat_natCast,<-Fa hmm] at hf;obtain⟨r,hr,hrp⟩:=Option.map_eq_some_iff.1 hf;obtain⟨b3,o3,cs3,ha3,_,hrow3,rfl⟩:=hsl.get i r hr;have hil:=(List.getElem?_eq_some_iff.1 hr).1;refine aI rfl rfl (fun hc=>absurd hc (by simp)) (fun _=>?_);refine aC rfl ?_;refine bq func112 1 rfl ?_;refine xp rfl (aj.cX underlying145 H.F4 rfl rfl mm rfl (by omega)) ?_;refine xp rfl (ai H.Ek rfl hv) ?_;refine cD 1 rfl rfl (aj.ay underlying142 H.kW rfl rfl i rfl ha3 (by omega)) ?_;refine xp rfl (aj.aH H.B5 H.kW rfl hrow3 (by first|rfl|(simp;done)|(simp;omega))) ?_;refine RW.cu rfl rfl rfl (aA.aB H.kW rfl rfl k1 (by first|rfl|(simp;done)|(simp;omega)) (by first|decide|exact of_decide_eq_true rfl|(simp;done)|(simp;omega)) (qH r)) ?_;rintro _ h2 ⟨rfl,k2,x2,z2⟩;refine aS 1 [0,1,4,5,23] rfl ?_;have k2:bp h2 h.size 144 (fF r):=k2;refine G.cU func112 rfl (.cons (bl.cM H.B5 H.kW rfl (k2.row) (by first|rfl|(simp;done)|(simp;omega))) (.cons (bl.tmp rfl) (.nil))) ?_;exact⟨_,rfl,⟨r,rfl,fun p hp=>by cases hp;exact hrp⟩,e1.only x2 (Nat.le_refl _)⟩
theorem CZ (hg:Ce h) (m n:Int):ah Tryz.prog 66 #[.int .i64 m,.int .i64 n] h (dh fun r h'=>r= .int .i64 (fu m n)/\aD h h'):=by
 refine ah.of func66 rfl rfl ?_;refine aZ func66 1 [0,1,4] rfl ?_;refine bq func66 2 rfl ?_;refine xo rfl (aq (vs:=[_,_]) func112 rfl H.JN rfl (ah.bw (vM hg m n))) ?_;rintro _ h1 ⟨⟨x,rfl,hx⟩,e1⟩;refine bh 3 rfl ?_;refine xo rfl (aA.aY H.Ax) ?_;rintro _ h2 ⟨rfl,k2,e2,z2⟩;refine RW.cu rfl rfl rfl (aA.aB H.kW rfl rfl k2 (by first|rfl|(simp;done)|(simp;omega)) (by first|decide|exact of_decide_eq_true rfl|(simp;done)|(simp;omega)) (qH x)) ?_;rintro _ h3 ⟨rfl,k3,x3,z3⟩;have k3:bp h3 h1.size 144 (fF x):=k3;have e3:aD h1 h3:=e2.only x3 (Nat.le_refl _)
 rcases hf:je m n with _|p
 · refine aS 1 [0,1,4,5,6] rfl ?_;refine av rfl ?_;refine aZ func66 2 [0,1,4,5,6,14] rfl ?_;refine aI rfl rfl (fun _=>?_) (fun hc=>absurd hc (by simp));refine aZ func66 1 [0,1,4,5,6,14] rfl ?_;refine G.ret func66 rfl rfl ?_;exact⟨_,rfl,by rw[fu,hf];rfl,e1.trans e3⟩
 · have hp:=hx p hf;refine aS 1 [0,1,4,5,6] rfl ?_;refine av rfl ?_;refine aZ func66 2 [0,1,4,5,6,14] rfl ?_;refine aI rfl rfl (fun hc=>absurd hc (by simp)) (fun _=>?_);refine aC rfl ?_;refine xr func66 rfl ?_;refine xp rfl (af (off:=1) underlying144 rfl rfl H.cA rfl) ?_;refine xp rfl (ai H.de rfl (k3.cell (i:=1) rfl)) ?_;refine aS 1 [0,1,4,5,6,14] rfl ?_;refine G.ret func66 rfl rfl ?_;exact⟨_,rfl,by rw[fu,hf,<-hp];rfl,e1.trans e3⟩
def cO (s:ur):List Value:=[.int .i64 s.1,.int .i64 s.2]
theorem iU (s:ur):∀v∈cO s,v.oneCell'=true:=fun v hv=>by simp[cO] at hv;rcases hv with rfl|rfl<;>rfl
def Ia (i:Int):Prop:= -9223372036854775808<=i/\i<=9223372036854775807
theorem tL (hg:Ce h) (s:ur) (n:Int) (hs:Ia s.2):ah Tryz.prog 68 #[.agg (cO s).toArray,.int .i64 n] h (dh fun r h'=>r= .agg (cO (fG s n)).toArray/\aD h h'):=by
 obtain⟨m,d⟩:=s;obtain⟨hd1,hd2⟩:=hs;simp only at hd1 hd2;refine ah.of func68 rfl rfl ?_;refine xr func68 rfl ?_;refine xo rfl (aA.gP rfl) ?_;rintro _ h1 ⟨rfl,k1,e1,z1⟩;refine xo rfl (aA.aY H.Cf) ?_;rintro _ h2 ⟨rfl,k2,e2,z2⟩;have k1:bp h1 h.size 41 [.int .i64 m,.int .i64 d]:=k1;have k2:bp h2 h1.size 41 [.int .i64 0,.int .i64 0]:=k2;have e02:=e1.trans e2;have q1:=k1.ax e2;refine xd [0,1,2,4] rfl ?_;refine xr func68 rfl ?_;refine xp rfl (af (off:=0) underlying41 rfl rfl H.cA rfl) ?_;refine xp rfl (ai H.de rfl (q1.cell (i:=0) rfl)) ?_;refine bh 1 rfl ?_;refine xo rfl (aq (vs:=[_,_]) func112 rfl H.JN rfl (ah.bw (vM (hg.ax e02) m n))) ?_;rintro _ h3 ⟨⟨x,rfl,hx⟩,e3⟩;refine bh 3 rfl ?_;refine xo rfl (aA.aY H.Ax) ?_;rintro _ h4 ⟨rfl,k4,e4,z4⟩;refine RW.cu rfl rfl rfl (aA.aB H.kW rfl rfl k4 (by first|rfl|(simp;done)|(simp;omega)) (by first|decide|exact of_decide_eq_true rfl|(simp;done)|(simp;omega)) (qH x)) ?_;rintro _ h5 ⟨rfl,k5,x5,z5⟩;have k5:bp h5 h3.size 144 (fF x):=k5;have e45:aD h3 h5:=e4.only x5 (Nat.le_refl _);have e25:=e3.trans e45;have e05:=e02.trans e25;have s1:=q1.ax e25;have s2:=k2.ax e25;have hz1:=e1.size;have hz2:=e2.size;have hz5:=e25.size;have hne:¬h.size=h1.size:=by omega
 have hout:∀{g:az},Ext (fun b=>b=h1.size) h5 g->aD h g:=fun e=>aD.only e05 e hz1
 rcases hf:je m n with _|p
 · have haf:fG (m,d) n=(m,d):=by unfold fG;rw[hf]
   refine aS 1 [0,1,2,4,5,6] rfl ?_;refine av rfl ?_;refine G.block rfl rfl ?_;refine av rfl ?_;refine aZ func68 3 [0,1,2,4,5,6,14] rfl ?_;refine aI rfl rfl (fun _=>?_) (fun hc=>absurd hc (by simp));refine aC rfl ?_;refine aI rfl rfl (fun _=>?_) (fun hc=>absurd hc (by simp));refine xr func68 rfl ?_;refine xp rfl (aj.aH H.jq H.eW rfl s1.row (by first|rfl|(simp;done)|(simp;omega))) ?_;refine RW.cu rfl rfl rfl (aA.aB H.eW rfl rfl s2 (by first|rfl|(simp;done)|(simp;omega)) (by first|decide|exact of_decide_eq_true rfl|(simp;done)|(simp;omega)) (by first|decide|simp[Value.oneCell'])) ?_;rintro _ h6 ⟨rfl,k6,x6,z6⟩;refine xd [0,1,2,4,5,6,14] rfl ?_;have k6:bp h6 h1.size 41 (cO (m,d)):=k6;refine G.cU func68 rfl (.cons (bl.cM H.jq H.eW rfl (k6.row) (by first|rfl|(simp;done)|(simp;omega))) (.nil)) ?_;exact⟨_,rfl,by rw[haf];rfl,hout x6⟩
 · have hp:=hx p hf;obtain⟨hp1,hp2⟩:=Prod.mk.inj hp;have haf:fG (m,d) n=if x.2.2=0 then (m,d) else if x.2.2=1 then (1,0) else if x.2.2=3 then (2,min (max d 0) 16383+1) else if x.2.2=4/\1<d then (m,d-1) else (0,0):=by unfold fG;rw[hf,<-hp]
   refine aS 1 [0,1,2,4,5,6] rfl ?_;refine av rfl ?_;refine G.block rfl rfl ?_;refine av rfl ?_;refine aZ func68 3 [0,1,2,4,5,6,14] rfl ?_;refine aI rfl rfl (fun hc=>absurd hc (by simp)) (fun _=>?_);refine G.cz func68 rfl ?_;refine xp rfl (af (off:=2) underlying144 rfl rfl H.cA rfl) ?_;refine xp rfl (ai H.de rfl (k5.cell (i:=2) rfl)) ?_;refine aS 2 [0,1,2,4,5,6,14] rfl ?_;refine aO rfl rfl (fun h0=>?_) (fun h0=>?_)
   · rw[if_pos h0] at haf;refine xr func68 rfl ?_;refine xp rfl (aj.aH H.jq H.eW rfl s1.row (by first|rfl|(simp;done)|(simp;omega))) ?_;refine RW.cu rfl rfl rfl (aA.aB H.eW rfl rfl s2 (by first|rfl|(simp;done)|(simp;omega)) (by first|decide|exact of_decide_eq_true rfl|(simp;done)|(simp;omega)) (by first|decide|simp[Value.oneCell'])) ?_;rintro _ h6 ⟨rfl,k6,x6,z6⟩;refine xd [0,1,2,4,5,6,14] rfl ?_;have k6:bp h6 h1.size 41 (cO (m,d)):=k6;refine G.cU func68 rfl (.cons (bl.cM H.jq H.eW rfl (k6.row) (by first|rfl|(simp;done)|(simp;omega))) (.nil)) ?_;exact⟨_,rfl,by rw[haf];rfl,hout x6⟩
   · rw[if_neg h0] at haf;refine xr func68 rfl ?_;refine xp rfl (af (off:=2) underlying144 rfl rfl H.cA rfl) ?_;refine xp rfl (ai H.de rfl (k5.cell (i:=2) rfl)) ?_;refine aS 2 [0,1,2,4,5,6,14,21] rfl ?_;refine aO rfl rfl (fun h1'=>?_) (fun h1'=>?_)
     · rw[if_pos h1'] at haf;refine xr func68 rfl ?_;refine xp rfl (aN (H.KN _) rfl) ?_;refine RW.cu rfl rfl rfl (aA.aB H.eW rfl rfl s2 (by first|rfl|(simp;done)|(simp;omega)) (by first|decide|exact of_decide_eq_true rfl|(simp;done)|(simp;omega)) (by first|decide|simp[Value.oneCell'])) ?_;rintro _ h6 ⟨rfl,k6,x6,z6⟩;refine xd [0,1,2,4,5,6,14,21] rfl ?_;have k6:bp h6 h1.size 41 (cO (1,0)):=k6;refine G.cU func68 rfl (.cons (bl.cM H.jq H.eW rfl (k6.row) (by first|rfl|(simp;done)|(simp;omega))) (.nil)) ?_;exact⟨_,rfl,by rw[haf];rfl,hout x6⟩
     · rw[if_neg h1'] at haf;refine xr func68 rfl ?_;refine xp rfl (af (off:=2) underlying144 rfl rfl H.cA rfl) ?_;refine xp rfl (ai H.de rfl (k5.cell (i:=2) rfl)) ?_;refine aS 2 [0,1,2,4,5,6,14,21,26] rfl ?_;refine aO rfl rfl (fun h3'=>?_) (fun h3'=>?_)
       · rw[if_pos h3'] at haf;refine xr func68 rfl ?_;refine xp rfl (af (off:=1) underlying41 rfl rfl H.cA rfl) ?_;refine xp rfl (ai H.de rfl (s1.cell (i:=1) rfl)) ?_;refine xp rfl (aj.max2 rfl rfl) ?_;refine xp rfl (aj.min2 rfl rfl) ?_;refine xp rfl (aj.bE rfl rfl ⟨by omega,by omega⟩) ?_;refine xp rfl (aN (H.HJ _ _) rfl) ?_;refine RW.cu rfl rfl rfl (aA.aB H.eW rfl rfl s2 (by first|rfl|(simp;done)|(simp;omega)) (by first|decide|exact of_decide_eq_true rfl|(simp;done)|(simp;omega)) (by first|decide|simp[Value.oneCell'])) ?_;rintro _ h6 ⟨rfl,k6,x6,z6⟩;refine xd [0,1,2,4,5,6,14,21,26] rfl ?_;have hmm:(if (16383:Int)<if d<0 then 0 else d then 16383 else if d<0 then 0 else d)=min (max d 0) 16383:=by split<;>split<;>omega
         have k6:bp h6 h1.size 41 (cO (2,min (max d 0) 16383+1)):=by rw[<-hmm];exact k6
         refine G.cU func68 rfl (.cons (bl.cM H.jq H.eW rfl (k6.row) (by first|rfl|(simp;done)|(simp;omega))) (.nil)) ?_;exact⟨_,rfl,by rw[haf];rfl,hout x6⟩
       · rw[if_neg h3'] at haf;refine av rfl ?_;refine G.bF [(36,.bool (decide (x.2.2=4/\1<d)))] [(0,_),(1,_),(2,_),(4,_),(5,_),(6,_),(14,_),(21,_),(26,_)] ⟨rfl,rfl,rfl,rfl,rfl,rfl,rfl,rfl,rfl,trivial⟩ func68 rfl ?_ ?_
         · refine xp rfl (af (off:=2) underlying144 rfl rfl H.cA rfl) ?_;refine xp rfl (ai H.de rfl (k5.cell (i:=2) rfl)) ?_;refine bh 2 rfl ?_;refine aP (d:=40) rfl (fun hc=>?_) (fun hc=>?_)
           · have hc':=of_decide_eq_true hc;refine xp rfl (af (off:=1) underlying41 rfl rfl H.cA rfl) ?_;refine xp rfl (ai H.de rfl (s1.cell (i:=1) rfl)) ?_;refine bh 3 rfl ?_;refine aE rfl ?_;exact⟨rfl,aF rfl (by simp[hc']),rfl,rfl,rfl,rfl,rfl,rfl,rfl,rfl,rfl,trivial⟩
           · have hc':=of_decide_eq_false hc;refine bh 5 rfl ?_;refine aE rfl ?_;exact⟨rfl,aF rfl (by simp[hc']),rfl,rfl,rfl,rfl,rfl,rfl,rfl,rfl,rfl,trivial⟩
         · refine aO rfl rfl (fun h4'=>?_) (fun h4'=>?_)
           · rw[if_pos h4'] at haf;refine xr func68 rfl ?_;refine xp rfl (af (off:=1) underlying41 rfl rfl H.cA rfl) ?_;refine xp rfl (ai H.de rfl (s1.cell (i:=1) rfl)) ?_;refine xp rfl (aj.jt rfl rfl ⟨by omega,by omega⟩) ?_;refine xp rfl (af (off:=1) underlying41 rfl rfl H.cA rfl) ?_;refine RW.cu rfl rfl rfl (cL H.cA rfl rfl rfl (s1.cell (i:=1) rfl) s1.nf) ?_;rintro _ h6 ⟨rfl,hg6⟩;have s6:=s1.set 1 (.int .i64 (d-1));have x6:Ext (fun b=>b=h.size) h5 h6:=by rw[hg6];exact Ext.eJ _ _ _ rfl
             have s6:bp h6 h.size 41 (cO (m,d-1)):=by rw[hg6];exact s6
             refine xd [0,1,2,4,5,6,14,21,26,36] rfl ?_;refine xr func68 rfl ?_;refine xp rfl (aj.aH H.jq H.eW rfl s6.row (by first|rfl|(simp;done)|(simp;omega))) ?_;refine RW.cu rfl rfl rfl (aA.aB H.eW rfl rfl (s2.ext x6 (fun k=>by omega)) (by first|rfl|(simp;done)|(simp;omega)) (by first|decide|exact of_decide_eq_true rfl|(simp;done)|(simp;omega)) (iU _)) ?_;rintro _ h7 ⟨rfl,k7,x7,z7⟩;refine xd [0,1,2,4,5,6,14,21,26,36] rfl ?_;have k7:bp h7 h1.size 41 (cO (m,d-1)):=k7;refine G.cU func68 rfl (.cons (bl.cM H.jq H.eW rfl (k7.row) (by first|rfl|(simp;done)|(simp;omega))) (.nil)) ?_;have hz6:=x6.size;exact⟨_,rfl,by rw[haf];rfl,aD.only (aD.only e05 x6 (Nat.le_refl _)) x7 hz1⟩
           · rw[if_neg h4'] at haf;refine aC rfl ?_;refine G.aR ?_;refine xr func68 rfl ?_;refine xp rfl (aN (H.Mw ) rfl) ?_;refine RW.cu rfl rfl rfl (aA.aB H.eW rfl rfl s2 (by first|rfl|(simp;done)|(simp;omega)) (by first|decide|exact of_decide_eq_true rfl|(simp;done)|(simp;omega)) (by first|decide|simp[Value.oneCell'])) ?_;rintro _ h6 ⟨rfl,k6,x6,z6⟩;refine xd [0,1,2,4,5,6,14,21,26,36] rfl ?_;have k6:bp h6 h1.size 41 (cO (0,0)):=k6;refine G.cU func68 rfl (.cons (bl.cM H.jq H.eW rfl (k6.row) (by first|rfl|(simp;done)|(simp;omega))) (.nil)) ?_;exact⟨_,rfl,by rw[haf];rfl,hout x6⟩
theorem BT (hg:Ce h) (s:By) (k:Nat) (hk:k<s.length) (hs:s.length<=1000000):ah Tryz.prog 65 #[.string (bs s),.int .i64 (k:Nat)] h (dh fun r h'=>(∃(x:Nat) (ok:Bool),r= .tuple #[.int .i32 (x:Nat),.int .i64 (qJ (s.drop k):Nat),.bool ok])/\aD h h'):=by
 have hbs:=bD s;have hne:s.drop k≠[]:=fun e=>by have:=congrArg List.length e;rw[List.length_drop] at this;simp at this;omega
 refine ah.of func65 rfl rfl ?_;refine aZ func65 3 [0,1,4,5,6] rfl ?_;refine av rfl ?_;refine av rfl ?_;refine G.bF [(14,.bool false)] [(0,_),(1,_),(4,_),(5,_),(6,_)] ⟨rfl,rfl,rfl,rfl,rfl,trivial⟩ func65 rfl ?_ ?_
 · refine bh 3 rfl ?_;refine RW.dw (d:=9) (b':=false) rfl ((by simp)) ?_;refine cD 2 rfl rfl (aj.bM underlying9 rfl) ?_;refine bh 2 rfl ?_;refine aE rfl ?_;exact⟨rfl,aF rfl (by simp;omega),rfl,rfl,rfl,rfl,rfl,trivial⟩
 · refine aI rfl rfl (fun hc=>absurd hc (by decide)) (fun _=>?_);refine aC rfl ?_;refine bq func65 2 rfl ?_;refine xp rfl (aj.iG underlying9 rfl rfl k rfl (by omega)) ?_;rw[oE];refine xo rfl (aq (vs:=[_]) func111 rfl H.LY rfl (ah.bw (Ab hg (s.drop k) hne))) ?_;rintro _ h1 ⟨⟨x,rfl⟩,e1⟩;generalize hn:qJ (s.drop k)=n;refine aS 5 [0,1,4,5,6,14] rfl ?_;refine av rfl ?_;refine G.bF [(4,.int .i32 (x:Nat)),(5,.int .i64 (n:Nat)),(6,.bool (decide (¬(x:Int)=65533\/(1:Int)<n)))] [(0,_),(1,_),(14,_)] ⟨rfl,rfl,rfl,trivial⟩ func65 rfl ?_ ?_
   · refine bh 5 rfl ?_;refine aP (d:=26) rfl (fun hc=>?_) (fun hc=>?_)
     · have hc':=of_decide_eq_true hc;refine bh 6 rfl ?_;refine aE rfl ?_;exact⟨rfl,rfl,rfl,aF rfl (by rw[decide_eq_true (Or.inl hc')]),rfl,rfl,rfl,trivial⟩
     · have hc':=of_decide_eq_false hc;refine bh 6 rfl ?_;refine aE rfl ?_;exact⟨rfl,rfl,rfl,aF rfl (by simp only[decide_eq_decide];exact⟨fun q=>.inr q,fun q=>q.resolve_left hc'⟩),rfl,rfl,rfl,trivial⟩
   · refine G.ret func65 rfl rfl ?_;exact⟨_,rfl,⟨x,_,rfl⟩,e1⟩
theorem Bz (k:oh h p):ah Tryz.prog 63 #[p] h (dh fun r h'=>r= .bool false/\h'=h):=by
 obtain⟨lb,vm,rfl,hk,⟨oa,n,c,rfl,hl,_⟩⟩:=k;have hl:n=3:=by rw[<-hl];rfl
 subst hl;refine ah.of func63 rfl rfl ?_;refine aZ func63 1 [0,2] rfl ?_;refine av rfl ?_;refine G.bF [(2,.bool false)] [(0,_)] ⟨rfl,trivial⟩ func63 rfl ?_ ?_
 · refine cD 1 rfl rfl (aj.sr underlying29 rfl rfl) ?_;refine bh 1 rfl ?_;refine RW.dw (d:=5) (b':=false) rfl (rfl) ?_;refine cD 2 rfl rfl (af (off:=0) underlying83 rfl rfl H.EB rfl) ?_;refine xp rfl (ai H.I9 rfl (hk.cell (i:=0) rfl)) ?_;refine xp rfl (aj.aJ underlying81 rfl) ?_;refine bh 3 rfl ?_;refine aE rfl ?_;exact⟨rfl,aF rfl (rfl),rfl,trivial⟩
 · refine G.ret func63 rfl rfl ?_;exact⟨_,rfl,rfl,rfl⟩
def CU (m:Int) (l:By):Int:=if 0<=m/\m<3 then (bu (mo (oK m)) l 0 0 (0,-1)).2.2 else 0
theorem E6 (m:Nat) (hm:m<3) (s:By) (k:Nat) (hk:k<=s.length):dO (mo (oK m)) s k=((dR m (s.drop k)).1,(dR m (s.drop k)).2,CU m (s.drop k)):=by
 obtain⟨ss,st,h1,h2,h3,h4,h5⟩:=vp m hm;have hok:=oC h2;have hsp:=yg hok.1 hok.2;have htl:=Cu hok.1 hsp.1 hsp.2.2.2.2 hok.2 hsp.2.1 (fun w=>(hsp.2.2.2.1 w).symm) s k;have htm:=AM h2 s k;have hst:=(gK h1).stl
 have hM:zC (iI m) s k=dR m (s.drop k):=by
  unfold zC CQ;rw[h1];simp only;rw[if_neg (by omega),Int.toNat_natCast,h4]
 rw[hM] at htm
 have hA:(dO (mo (oK m)) s k).2.2=CU m (s.drop k):=by
  rw[CU,if_pos (show (0:Int)<=m/\(m:Int)<3 by omega),dO,if_neg (by have:=hsp.2.1;omega),Int.toNat_natCast]
 rw[<-hA];refine Prod.ext ?_ (Prod.ext ?_ rfl)
 · rw[<-htl.1];exact(Prod.mk.inj htm).1
 · rw[<-htl.2.1];exact(Prod.mk.inj htm).2
theorem G1 {m:Int}(h:m<0\/3<=m) (l:By):dR m l=(0,-1):=by
 unfold dR;rw[if_neg (by omega),if_neg (by omega),if_neg (by omega)]
theorem zD (k:oh h p) (s:By) (i:Nat) (hi:i<=s.length) (hs:s.length<=1000000) (m:Int) :
 ah Tryz.prog 64 #[p,.string (bs s),.int .i64 (i:Nat),.int .i64 m] h (dh fun r h'=>r= .tuple #[.int .i64 (dR m (s.drop i)).1,.int .i64 (dR m (s.drop i)).2,.int .i64 (CU m (s.drop i))]/\h'=h):=by
 obtain⟨lb,vm,rfl,hk,hv⟩:=k;obtain⟨oa,n,c,rfl,hsl⟩:=hv.open;have hl:n=3:=by rw[<-hsl.len];rfl
 subst hl;refine ah.of func64 rfl rfl ?_;refine aZ func64 3 [0,1,2,3,8,9,10] rfl ?_;refine av rfl ?_;refine av rfl ?_;refine G.bF [(21,.bool (decide (m<0\/3<=m)))] [(0,_),(1,_),(2,_),(3,_),(8,_),(9,_),(10,_)] ⟨rfl,rfl,rfl,rfl,rfl,rfl,rfl,trivial⟩ func64 rfl ?_ ?_
 · refine bh 3 rfl ?_;refine aP (d:=13) rfl (fun hc=>?_) (fun hc=>?_)
   · have hc':=of_decide_eq_true hc;refine bh 8 rfl ?_;refine aE rfl ?_;exact⟨rfl,aF rfl (by simp[hc']),rfl,rfl,rfl,rfl,rfl,rfl,rfl,trivial⟩
   · have hc':=of_decide_eq_false hc;refine cD 3 rfl rfl (af (off:=0) underlying83 rfl rfl H.EB rfl) ?_;refine xp rfl (ai H.I9 rfl (hk.cell (i:=0) rfl)) ?_;refine xp rfl (aj.aJ underlying81 rfl) ?_;refine bh 2 rfl ?_;refine aE rfl ?_;exact⟨rfl,aF rfl (by simp only[decide_eq_decide];omega),rfl,rfl,rfl,rfl,rfl,rfl,rfl,trivial⟩
 · refine aO rfl rfl (fun hout=>?_) (fun hout=>?_)
   · rw[G1 hout];refine aZ func64 3 [0,1,2,3,8,9,10,21] rfl ?_;refine G.ret func64 rfl rfl ?_;exact⟨_,rfl,by rw[CU,if_neg (by omega)];rfl,rfl⟩
   · obtain⟨mm,rfl⟩:=Int.eq_ofNat_of_zero_le (show 0<=m by omega);have hmm:mm<3:=by omega
     have hx:(vq 3)[mm]? =some (mo (oK mm)):=by
      match mm,hmm with
      | 0,_=>rfl
      | 1,_=>rfl
      | 2,_=>rfl
     obtain⟨b3,o3,cs3,ha3,_,hrow3,db,rfl,htab⟩:=hsl.get mm _ hx;obtain⟨ss,st,h1,h2,h3,h4,h5⟩:=vp mm hmm;have hok:=oC h2;have hsp:=yg hok.1 hok.2;refine aC rfl ?_;refine bq func64 2 rfl ?_;refine xp rfl (af (off:=0) underlying83 rfl rfl H.EB rfl) ?_;refine xp rfl (ai H.I9 rfl (hk.cell (i:=0) rfl)) ?_;refine cD 1 rfl rfl (aj.ay underlying81 H.MZ rfl rfl mm rfl ha3 (by omega)) ?_;refine xp rfl (ai H.NI rfl (hrow3 0 _ rfl)) ?_;refine bh 2 rfl ?_;refine xo rfl (aq (vs:=[_,_,_]) func110 rfl H.LZ rfl (ah.bw (zY (s:=s) (a:=(i:Int)) (.inr ⟨db,rfl,htab.rd⟩) hsp.1 hs))) ?_;rintro _ h0 ⟨rfl,hh0⟩;subst hh0;rw[E6 mm hmm s i hi];refine aS 6 [0,1,2,3,8,9,10,21] rfl ?_;refine G.ret func64 rfl rfl ?_;exact⟨_,rfl,rfl,rfl⟩
def fU (t:Tk):List Value:=[.int .i64 t.1,.int .i64 t.2.1,.int .i64 t.2.2]
theorem pN (t:Tk):∀v∈fU t,v.oneCell'=true:=fun v hv=>by simp[fU] at hv;rcases hv with rfl|rfl|rfl<;>rfl
theorem FB {s:ur}(h:Ia s.2) (n:Int):Ia (fG s n).2:=by
 unfold Ia at *;unfold fG;split
 · exact h
 · split
   · exact h
   · split
     · simp only;omega
     · split
       · simp only;omega
       · split
         · simp only;omega
         · simp only;omega
theorem Iv {s:ur}(h:Ia s.2) (l:By):Ia (nD l s).2:=by
 unfold nD;split
 · exact h
 · exact FB h _
theorem lf {h':az}{b:Nat}{t:TypeId}{cs:List Value}(k:bp h b t cs) (k':bp h' b t cs) (e:Ext (fun x=>x=b) h h'):aD h h':=⟨e.size,fun x hx _=>by
 by_cases q:x=b
 · subst q;exact k'.trans k.symm
 · exact e.block x hx q⟩
def Ko (s:By) (i:Nat) (st:ur):Value:=.tuple #[.agg (fU (mY (s.drop i) st.1,(i:Int),((i+ef (s.drop i) st.1:Nat):Int))).toArray,.agg (cO (nD (s.drop i) st)).toArray,.int .i64 (CU st.1 (s.drop i))]
theorem EW (hg:Ce h) (k:oh h p) (s:By) (i:Nat) (hi:i<s.length) (hs:s.length<=1000000) (st:ur) (hst:Ia st.2) :
 ah Tryz.prog 34 #[p,.string (bs s),.int .i64 (i:Nat),.agg (cO st).toArray] h (dh fun r h'=>r=Ko s i st/\aD h h'):=by
 have hbs:=bD s;unfold Ko;have hne:s.drop i≠[]:=fun e=>by have:=congrArg List.length e;rw[List.length_drop] at this;simp at this;omega
 have hll:=BB st.1 (s.drop i);have hrl:=A4 hne;rw[List.length_drop] at hll hrl;refine ah.of func34 rfl rfl ?_;refine xr func34 rfl ?_;refine xo rfl (aA.gP rfl) ?_;rintro _ h1 ⟨rfl,k7,e1,z1⟩;refine xo rfl (aA.aY H.FJ) ?_;rintro _ h2 ⟨rfl,k8,e2,z2⟩;refine xo rfl (aA.aY H.Cf) ?_;rintro _ h3 ⟨rfl,k9,e3,z3⟩;have k7:bp h1 h.size 41 (cO st):=k7;have k8:bp h2 h1.size 46 (fU (0,0,0)):=k8;have k9:bp h3 h2.size 41 (cO (0,0)):=k9;have e03:=(e1.trans e2).trans e3;have q7:=(k7.ax e2).ax e3;have q8:=k8.ax e3;have y1:=e1.size;have y2:=e2.size;have hout:∀{g g2 g3:az},aD h3 g->Ext (fun b=>b=h1.size) g g2->Ext (fun b=>b=h2.size) g2 g3->aD h g3:=fun ea eb ec=>aD.only (aD.only (e03.trans ea) eb (by omega)) ec (by omega)
 refine aS 1 [0,1,2,3,7,8,9,10] rfl ?_;refine av rfl ?_;refine av rfl ?_;refine G.bF [(27,.bool false)] [(0,_),(1,_),(2,_),(3,_),(7,_),(8,_),(9,_),(10,_)] ⟨rfl,rfl,rfl,rfl,rfl,rfl,rfl,rfl,trivial⟩ func34 rfl ?_ ?_
 · refine bh 1 rfl ?_;refine xo rfl (aq (vs:=[_]) func63 rfl H.Lx rfl (ah.bw (Bz (k.ax e03)))) ?_;rintro _ h4 ⟨rfl,hh4⟩;subst hh4;refine bh 1 rfl ?_;refine RW.dw (d:=18) (b':=false) rfl (rfl) ?_;refine bh 4 rfl ?_;refine RW.dw (d:=22) (b':=false) rfl ((by simp)) ?_;refine cD 2 rfl rfl (aj.bM underlying9 rfl) ?_;refine bh 2 rfl ?_;refine aE rfl ?_;exact⟨rfl,aF rfl (by simp;omega),rfl,rfl,rfl,rfl,rfl,rfl,rfl,rfl,trivial⟩
 · refine aI rfl rfl (fun hc=>absurd hc (by decide)) (fun _=>?_);refine aC rfl ?_;refine bq func34 3 rfl ?_;refine xp rfl (af (off:=0) underlying41 rfl rfl H.cA rfl) ?_;refine xp rfl (ai H.de rfl (q7.cell (i:=0) rfl)) ?_;refine xo rfl (aq (vs:=[_,_,_,_]) func64 rfl H.Nb rfl (ah.bw (zD (k.ax e03) s i (by omega) hs st.1))) ?_;rintro _ h4 ⟨rfl,hh4⟩;subst hh4;refine aS 7 [0,1,2,3,7,8,9,10,11,12,27] rfl ?_;refine av rfl ?_;refine aZ func34 2 [0,1,2,3,7,8,9,10,11,12,27,41] rfl ?_;refine aO rfl rfl (fun hz=>?_) (fun hz=>?_)
   · have hlen:ef (s.drop i) st.1=qJ (s.drop i):=by rw[ef,if_pos hz]
     have hknd:mY (s.drop i) st.1=0:=by rw[mY,if_pos hz]
     have hnxt:nD (s.drop i) st=st:=by rw[nD,if_pos hz]
     rw[hlen,hknd,hnxt];refine bq func34 2 rfl ?_;refine xo rfl (aq (vs:=[_,_]) func65 rfl H.Na rfl (ah.bw (BT (hg.ax e03) s i hi hs))) ?_;rintro _ h5 ⟨⟨x,ok,rfl⟩,e5⟩;have r7:=q7.ax e5;have r8:=q8.ax e5;have r9:=k9.ax e5;have y5:=e5.size;have hM7:¬(h.size=h1.size\/h.size=h2.size\/Array.size h5<=h.size):=by have:=e03.size;omega
     refine aS 7 [0,1,2,3,7,8,9,10,11,12,14,27,41] rfl ?_;refine av rfl ?_;refine b6 (fun b=>b=Array.size h1\/b=Array.size h2\/Array.size h5<=b) (fun i=>Nat.blt i 9) (sz:=10) (listed:= #[false,false,false,false,false,false,false,false,false,false]) func34 H.mixed rfl rfl rfl ?_;refine cg 0 1 (by kernel_rfl) rfl ?_;refine cg 1 3 (by kernel_rfl) rfl ?_;refine cg 2 7 (by kernel_rfl) rfl ?_;refine bL 3 15 (by kernel_rfl) rfl (fun h' e=>aj.bE rfl rfl ⟨by omega,by omega⟩) ?_;refine bL 4 31 (by kernel_rfl) rfl (fun h' e=>aN (H.wu _ _ _) rfl) ?_;refine bL 5 63 (by kernel_rfl) rfl (fun h' e=>aj.aH H.jq H.eW rfl (e.rowAt hM7 r7.row) (by first|rfl|(simp;done)|(simp;omega))) ?_;refine cg 6 127 (by kernel_rfl) rfl ?_;refine mN 7 255 (by kernel_rfl) rfl (aA.aB H.lV rfl rfl r8 (by first|rfl|(simp;done)|(simp;omega)) (by first|decide|exact of_decide_eq_true rfl|(simp;done)|(simp;omega)) (by first|decide|simp[Value.oneCell'])) ?_;rintro _ h6 ⟨rfl,w8,x6,z6⟩;refine⟨fun _=>x6.mono (fun _ _ k=>.inl k),?_⟩;refine mN 8 511 (by kernel_rfl) rfl (aA.aB H.eW rfl rfl (r9.ext x6 (fun k=>by omega)) (by first|rfl|(simp;done)|(simp;omega)) (by first|decide|exact of_decide_eq_true rfl|(simp;done)|(simp;omega)) (iU st)) ?_;rintro _ h7 ⟨rfl,w9,x7,z7⟩;refine⟨fun _=>x7.mono (fun _ _ k=>.inr (.inl k)),?_⟩;have w8:bp h6 h1.size 46 (fU (0,(i:Int),((i+qJ (s.drop i):Nat):Int))):=by rw[Int.natCast_add];exact w8
     have w8:=w8.ext x7 (show ¬h1.size=h2.size by omega);have w9:bp h7 h2.size 41 (cO st):=w9;refine cg 9 1023 (by kernel_rfl) rfl ?_;refine br (by kernel_rfl) ?_;refine xu [0,1,2,3,7,8,9,10,11,12,14,27,41] rfl ?_;refine G.cU func34 rfl (.cons (bl.cM H.Al H.lV rfl (w8.row) (by first|rfl|(simp;done)|(simp;omega))) (.cons (bl.cM H.jq H.eW rfl (w9.row) (by first|rfl|(simp;done)|(simp;omega))) (.cons (bl.tmp rfl) (.nil)))) ?_;exact⟨_,rfl,rfl,hout e5 x6 x7⟩
   · obtain⟨L,hL⟩:=Int.eq_ofNat_of_zero_le hll.1;have hL0:0<L:=by omega
     have hlen:ef (s.drop i) st.1=L:=by rw[ef,if_neg hz,hL];rfl
     have hknd:mY (s.drop i) st.1=if fu st.1 (dR st.1 (s.drop i)).2=3/\bQ ((s.drop i).take L)=true then 4 else fu st.1 (dR st.1 (s.drop i)).2:=by rw[mY,if_neg hz,hL];rfl
     have hnxt:nD (s.drop i) st=fG st (dR st.1 (s.drop i)).2:=by rw[nD,if_neg hz]
     rw[hlen,hknd,hnxt,hL];generalize (dR st.1 (s.drop i)).2=rl at *;rw[hL] at hll;refine aC rfl ?_;refine xr func34 rfl ?_;refine xp rfl (af (off:=0) underlying41 rfl rfl H.cA rfl) ?_;refine xp rfl (ai H.de rfl (q7.cell (i:=0) rfl)) ?_;refine bh 1 rfl ?_;refine xo rfl (aq (vs:=[_,_]) func66 rfl H.M9 rfl (ah.bw (CZ (hg.ax e03) st.1 rl))) ?_;rintro _ h5 ⟨rfl,e5⟩;refine cD 3 rfl rfl (aj.bE rfl rfl ⟨by omega,by omega⟩) ?_;refine xp rfl (aN (H.wu _ _ _) rfl) ?_;refine RW.cu rfl rfl rfl (aA.aB H.lV rfl rfl (q8.ax e5) (by first|rfl|(simp;done)|(simp;omega)) (by first|decide|exact of_decide_eq_true rfl|(simp;done)|(simp;omega)) (by first|decide|simp[Value.oneCell'])) ?_;rintro _ h6 ⟨rfl,w8,x6,z6⟩;have w8:bp h6 h1.size 46 (fU (fu st.1 rl,(i:Int),((i+L:Nat):Int))):=by rw[Int.natCast_add];exact w8
     generalize fu st.1 rl=kd at *;have hcut:(bs s).extract i (i+L)=bs ((s.drop i).take L):=by rw[Ef s i (i+L) (by omega),List.drop_take,Nat.add_sub_cancel_left]
     have y6:=x6.size;have e06:aD h h6:=aD.only (e03.trans e5) x6 (by omega);have r7:=(q7.ax e5).ext x6 (show ¬h.size=h1.size by omega);have r9:=(k9.ax e5).ext x6 (show ¬h2.size=h1.size by omega);refine xd [0,1,2,3,7,8,9,10,11,12,27,41] rfl ?_;refine av rfl ?_;refine av rfl ?_;refine G.bF [(76,.bool (decide (kd=3/\bQ ((s.drop i).take L)=true)))] [(0,_),(1,_),(2,_),(3,_),(7,_),(8,_),(9,_),(10,_),(11,_),(12,_),(27,_),(41,_)] ⟨rfl,rfl,rfl,rfl,rfl,rfl,rfl,rfl,rfl,rfl,rfl,rfl,trivial⟩ func34 rfl ?_ ?_
     · refine xp rfl (af (off:=0) underlying46 rfl rfl H.cA rfl) ?_;refine xp rfl (ai H.de rfl (w8.cell (i:=0) rfl)) ?_;refine bh 2 rfl ?_;refine aP (d:=68) rfl (fun hc=>?_) (fun hc=>?_)
       · have hc':kd=3:=of_decide_eq_true hc;refine cD 1 rfl rfl (af (off:=1) underlying46 rfl rfl H.cA rfl) ?_;refine xp rfl (ai H.de rfl (w8.cell (i:=1) rfl)) ?_;refine xp rfl (af (off:=2) underlying46 rfl rfl H.cA rfl) ?_;refine xp rfl (ai H.de rfl (w8.cell (i:=2) rfl)) ?_;refine xp rfl (aj.AU underlying9 rfl rfl i rfl rfl (i+L) rfl (by omega) (by omega)) ?_;rw[hcut];refine xo rfl (aq (vs:=[_]) func67 rfl H.Lv rfl (ah.bw (uA (hg.ax e06) ((s.drop i).take L) (by rw[List.length_take,List.length_drop];omega)))) ?_;rintro _ h7 ⟨rfl,hh7⟩;subst hh7;refine bh 1 rfl ?_;refine aE rfl ?_;exact⟨rfl,aF rfl (by simp[hc']),rfl,rfl,rfl,rfl,rfl,rfl,rfl,rfl,rfl,rfl,rfl,rfl,trivial⟩
       · have hc':¬kd=3:=of_decide_eq_false hc;refine bh 8 rfl ?_;refine aE rfl ?_;exact⟨rfl,aF rfl (by simp[hc']),rfl,rfl,rfl,rfl,rfl,rfl,rfl,rfl,rfl,rfl,rfl,rfl,trivial⟩
     · refine aO rfl rfl (fun hw=>?_) (fun hw=>?_)
       · refine G.cz func34 rfl ?_;refine xp rfl (af (off:=0) underlying46 rfl rfl H.cA rfl) ?_;refine RW.cu rfl rfl rfl (cL H.cA rfl rfl rfl (w8.cell (i:=0) rfl) w8.nf) ?_;rintro _ h7 ⟨rfl,hg7⟩;have w7:=w8.set 0 (.int .i64 4);have x7:Ext (fun b=>b=h1.size) h6 h7:=by rw[hg7];exact Ext.eJ _ _ _ rfl
         have w7:bp h7 h1.size 46 (fU (4,(i:Int),((i+L:Nat):Int))):=by rw[hg7];exact w7
         have y7:=x7.size;have e07:aD h h7:=aD.only e06 x7 (by omega);have p7:=r7.ext x7 (show ¬h.size=h1.size by omega);have p9:=r9.ext x7 (show ¬h2.size=h1.size by omega);have hMa:¬(h1.size=h2.size\/Array.size h7<=h1.size):=by have:=e03.size;have:=e5.size;omega
         have hMb:¬(h.size=h2.size\/Array.size h7<=h.size):=by have:=e03.size;have:=e5.size;omega
         refine xd [0,1,2,3,7,8,9,10,11,12,27,41,76] rfl ?_;refine av rfl ?_;refine b6 (fun b=>b=Array.size h2\/Array.size h7<=b) (fun i=>Nat.blt i 7) (sz:=8) (listed:= #[false,false,false,false,false,false,false,false]) func34 H.mixed rfl rfl rfl ?_;refine bL 0 1 (by kernel_rfl) rfl (fun h' e=>aj.aH H.Al H.lV rfl (e.rowAt hMa w7.row) (by first|rfl|(simp;done)|(simp;omega))) ?_;refine bL 1 3 (by kernel_rfl) rfl (fun h' e=>aj.aH H.jq H.eW rfl (e.rowAt hMb p7.row) (by first|rfl|(simp;done)|(simp;omega))) ?_;refine cg 2 7 (by kernel_rfl) rfl ?_;refine cg 4 23 (by kernel_rfl) rfl ?_;refine eM 3 31 (by kernel_rfl) rfl (aq (vs:=[_,_]) func68 rfl H.Lu rfl (ah.bw (tL (hg.ax e07) st rl hst))) ?_;rintro _ h8 ⟨rfl,e8⟩;refine⟨fun _=>e8.mono (fun _ _ k=>k.elim),?_⟩;have w8':=w7.ax e8;refine mN 5 63 (by kernel_rfl) rfl (aA.aB H.lV rfl rfl w8' (by first|rfl|(simp;done)|(simp;omega)) (by first|decide|exact of_decide_eq_true rfl|(simp;done)|(simp;omega)) (pN _)) ?_;rintro _ h9 ⟨rfl,w9',x9,z9⟩;refine⟨fun _=>(lf w8' w9' x9).mono (fun _ _ k=>k.elim),?_⟩;have w9':bp h9 h1.size 46 (fU (4,(i:Int),((i+L:Nat):Int))):=w9';have e9:=lf w8' w9' x9;have p9':=(p9.ax e8).ax e9;refine mN 6 127 (by kernel_rfl) rfl (aA.aB H.eW rfl rfl p9' (by first|rfl|(simp;done)|(simp;omega)) (by first|decide|exact of_decide_eq_true rfl|(simp;done)|(simp;omega)) (iU _)) ?_;rintro _ h10 ⟨rfl,w10,x10,z10⟩;refine⟨fun _=>x10.mono (fun _ _ k=>.inl k),?_⟩;have w10:bp h10 h2.size 41 (cO (fG st rl)):=w10;have w11:=w9'.ext x10 (show ¬h1.size=h2.size by omega);refine cg 7 255 (by kernel_rfl) rfl ?_;refine br (by kernel_rfl) ?_;refine xu [0,1,2,3,7,8,9,10,11,12,27,41,76] rfl ?_;refine G.cU func34 rfl (.cons (bl.cM H.Al H.lV rfl (w11.row) (by first|rfl|(simp;done)|(simp;omega))) (.cons (bl.cM H.jq H.eW rfl (w10.row) (by first|rfl|(simp;done)|(simp;omega))) (.cons (bl.tmp rfl) (.nil)))) ?_;have y10:=x10.size;exact⟨_,rfl,by rw[if_pos hw];rfl,aD.only ((e07.trans e8).trans e9) x10 (by omega)⟩
       · have hMa:¬(h1.size=h2.size\/Array.size h6<=h1.size):=by have:=e03.size;have:=e5.size;omega
         have hMb:¬(h.size=h2.size\/Array.size h6<=h.size):=by have:=e03.size;have:=e5.size;omega
         refine aC rfl ?_;refine av rfl ?_;refine b6 (fun b=>b=Array.size h2\/Array.size h6<=b) (fun i=>Nat.blt i 7) (sz:=8) (listed:= #[false,false,false,false,false,false,false,false]) func34 H.mixed rfl rfl rfl ?_;refine bL 0 1 (by kernel_rfl) rfl (fun h' e=>aj.aH H.Al H.lV rfl (e.rowAt hMa w8.row) (by first|rfl|(simp;done)|(simp;omega))) ?_;refine bL 1 3 (by kernel_rfl) rfl (fun h' e=>aj.aH H.jq H.eW rfl (e.rowAt hMb r7.row) (by first|rfl|(simp;done)|(simp;omega))) ?_;refine cg 2 7 (by kernel_rfl) rfl ?_;refine cg 4 23 (by kernel_rfl) rfl ?_;refine eM 3 31 (by kernel_rfl) rfl (aq (vs:=[_,_]) func68 rfl H.Lu rfl (ah.bw (tL (hg.ax e06) st rl hst))) ?_;rintro _ h8 ⟨rfl,e8⟩;refine⟨fun _=>e8.mono (fun _ _ k=>k.elim),?_⟩;have w8':=w8.ax e8;refine mN 5 63 (by kernel_rfl) rfl (aA.aB H.lV rfl rfl w8' (by first|rfl|(simp;done)|(simp;omega)) (by first|decide|exact of_decide_eq_true rfl|(simp;done)|(simp;omega)) (pN _)) ?_;rintro _ h9 ⟨rfl,w9',x9,z9⟩;refine⟨fun _=>(lf w8' w9' x9).mono (fun _ _ k=>k.elim),?_⟩;have w9':bp h9 h1.size 46 (fU (kd,(i:Int),((i+L:Nat):Int))):=w9';have e9:=lf w8' w9' x9;have p9':=(r9.ax e8).ax e9;refine mN 6 127 (by kernel_rfl) rfl (aA.aB H.eW rfl rfl p9' (by first|rfl|(simp;done)|(simp;omega)) (by first|decide|exact of_decide_eq_true rfl|(simp;done)|(simp;omega)) (iU _)) ?_;rintro _ h10 ⟨rfl,w10,x10,z10⟩;refine⟨fun _=>x10.mono (fun _ _ k=>.inl k),?_⟩;have w10:bp h10 h2.size 41 (cO (fG st rl)):=w10;have w11:=w9'.ext x10 (show ¬h1.size=h2.size by omega);refine cg 7 255 (by kernel_rfl) rfl ?_;refine br (by kernel_rfl) ?_;refine xu [0,1,2,3,7,8,9,10,11,12,27,41,76] rfl ?_;refine G.cU func34 rfl (.cons (bl.cM H.Al H.lV rfl (w11.row) (by first|rfl|(simp;done)|(simp;omega))) (.cons (bl.cM H.jq H.eW rfl (w10.row) (by first|rfl|(simp;done)|(simp;omega))) (.cons (bl.tmp rfl) (.nil)))) ?_;have y10:=x10.size;exact⟨_,rfl,by rw[if_neg hw];rfl,aD.only ((e06.trans e8).trans e9) x10 (by omega)⟩
end
end Go.Proofs.YtmehdcdbeafljaaGreatDoor
namespace Go.Proofs.YtmehdcdbeafljaaGreatDoor
open Go
theorem B4 (n a:Nat) (st:ur):fO n [] a st=([],st):=by cases n<;>simp[fO]
theorem iP {n:Nat}{l:By}(hl:l≠[]) (hn:l.length<=n) (a:Nat) (st:ur) :
 fO n l a st=((mY l st.1,(a:Int),((a+ef l st.1:Nat):Int))::(fO n (l.drop (ef l st.1)) (a+ef l st.1) (nD l st)).1,(fO n (l.drop (ef l st.1)) (a+ef l st.1) (nD l st)).2):=by
 have hp:=List.length_pos_iff.2 hl;have hk:=nL hl st.1;obtain⟨m,rfl⟩:∃m,n=m+1:=⟨n-1,by omega⟩
 rw[sD (m+1) (m+1) (l.drop (ef l st.1)) _ _ (by rw[List.length_drop];omega) (by rw[List.length_drop];omega),<-sD m (m+1) (l.drop (ef l st.1)) (a+ef l st.1) (nD l st) (by rw[List.length_drop];omega) (by rw[List.length_drop];omega)];rw[fO,if_neg hl]
theorem wC:∀(n:Nat) (l:By) (a:Nat) (st:ur),(fO n l a st).1.length<=l.length
 | 0,l,a,st=>by simp[fO]
 |n+1,l,a,st=>by
  rw[fO];split
  · simp
  · rename_i h;have h1:=nL h st.1;have h2:=wC n (l.drop (ef l st.1)) (a+ef l st.1) (nD l st);rw[List.length_drop] at h2;simp only[List.length_cons];omega
end Go.Proofs.YtmehdcdbeafljaaGreatDoor
namespace Go.Proofs.YtmehdcdbeafljaaGreatDoor
open Go.Proofs.Tryz
open Go Go.Lw
set_option maxRecDepth 20000
section
variable {h:az}{b i:Nat}{α:Type}{s:By}{v:Value}{ts:List Tok}{t:Tok}{a e:Int}
theorem Iu {p:Value}{b:Bool}(hn:∀g,aD h g->ah Tryz.prog 63 #[p] g (dh fun r h'=>r= .bool b/\h'=g)) (s:By) (i:Int) (hs:s.length<=1000000) (st:ur) (hb:b=true\/i<0\/(s.length:Int)<=i) :
 ah Tryz.prog 34 #[p,.string (bs s),.int .i64 i,.agg (cO st).toArray] h (dh fun r h'=>r= .tuple #[.agg (fU (0,0,0)).toArray,.agg (cO st).toArray,.int .i64 0]/\aD h h'):=by
 have hbs:=bD s;refine ah.of func34 rfl rfl ?_;refine xr func34 rfl ?_;refine xo rfl (aA.gP rfl) ?_;rintro _ h1 ⟨rfl,k7,e1,z1⟩;refine xo rfl (aA.aY H.FJ) ?_;rintro _ h2 ⟨rfl,k8,e2,z2⟩;refine xo rfl (aA.aY H.Cf) ?_;rintro _ h3 ⟨rfl,k9,e3,z3⟩;have k7:bp h1 h.size 41 (cO st):=k7;have k8:bp h2 h1.size 46 (fU (0,0,0)):=k8;have k9:bp h3 h2.size 41 (cO (0,0)):=k9;have e03:=(e1.trans e2).trans e3;have q7:=(k7.ax e2).ax e3;have q8:=k8.ax e3;have y1:=e1.size;have y2:=e2.size;refine aS 1 [0,1,2,3,7,8,9,10] rfl ?_;refine av rfl ?_;refine av rfl ?_;refine G.bF [(27,.bool true)] [(0,_),(1,_),(2,_),(3,_),(7,_),(8,_),(9,_),(10,_)] ⟨rfl,rfl,rfl,rfl,rfl,rfl,rfl,rfl,trivial⟩ func34 rfl ?_ ?_
 · refine bh 1 rfl ?_;refine xo rfl (aq (vs:=[_]) func63 rfl H.Lx rfl (ah.bw (hn _ e03))) ?_;rintro _ h4 ⟨rfl,hh4⟩;subst hh4;refine bh 1 rfl ?_;refine aP (d:=18) rfl (fun c1=>?_) (fun c1=>?_)
   · refine bh 9 rfl ?_;refine aE rfl ?_;exact⟨rfl,aF rfl (rfl),rfl,rfl,rfl,rfl,rfl,rfl,rfl,rfl,trivial⟩
   · refine bh 4 rfl ?_;refine aP (d:=22) rfl (fun c2=>?_) (fun c2=>?_)
     · refine bh 5 rfl ?_;refine aE rfl ?_;exact⟨rfl,aF rfl (rfl),rfl,rfl,rfl,rfl,rfl,rfl,rfl,rfl,trivial⟩
     · have c2':=of_decide_eq_false c2;refine cD 2 rfl rfl (aj.bM underlying9 rfl) ?_;refine bh 2 rfl ?_;refine aE rfl ?_;exact⟨rfl,aF rfl (by rw[decide_eq_true_iff];rcases hb with k|k|k;rw[c1] at k;cases k;exact absurd k c2';omega),rfl,rfl,rfl,rfl,rfl,rfl,rfl,rfl,trivial⟩
 · refine aI rfl rfl (fun _=>?_) (fun hc=>absurd hc (by decide));have hM:¬(h.size=h1.size\/Array.size h3<=h.size):=by have:=e03.size;omega
   refine av rfl ?_;refine b6 (fun b=>b=Array.size h1\/Array.size h3<=b) (fun i=>Nat.blt i 3) (sz:=5) (listed:= #[false,false,false,false,false]) func34 H.mixed rfl rfl rfl ?_;refine bL 0 1 (by kernel_rfl) rfl (fun h' e=>aN (H.Mu ) rfl) ?_;refine bL 1 3 (by kernel_rfl) rfl (fun h' e=>aj.aH H.jq H.eW rfl (e.rowAt hM q7.row) (by first|rfl|(simp;done)|(simp;omega))) ?_;refine mN 2 7 (by kernel_rfl) rfl (aA.aB H.lV rfl rfl q8 (by first|rfl|(simp;done)|(simp;omega)) (by first|decide|exact of_decide_eq_true rfl|(simp;done)|(simp;omega)) (by first|decide|simp[Value.oneCell'])) ?_;rintro _ h4 ⟨rfl,w8,x4,zz4⟩;refine⟨fun _=>x4.mono (fun _ _ k=>.inl k),?_⟩;have w8:bp h4 h1.size 46 (fU (0,0,0)):=w8;refine mN 3 15 (by kernel_rfl) rfl (aA.aB H.eW rfl rfl (k9.ext x4 (show ¬h2.size=h1.size by omega)) (by first|rfl|(simp;done)|(simp;omega)) (by first|decide|exact of_decide_eq_true rfl|(simp;done)|(simp;omega)) (iU st)) ?_;rintro _ h5 ⟨rfl,w9,x5,z5⟩;refine⟨fun hk=>(nomatch hk),?_⟩;refine cg 4 31 (by kernel_rfl) rfl ?_;refine br (by kernel_rfl) ?_;refine xu [0,1,2,3,7,8,9,10,27] rfl ?_;have w9:bp h5 h2.size 41 (cO st):=w9;have w8:=w8.ext x5 (show ¬h1.size=h2.size by omega);refine G.cU func34 rfl (.cons (bl.cM H.Al H.lV rfl (w8.row) (by first|rfl|(simp;done)|(simp;omega))) (.cons (bl.cM H.jq H.eW rfl (w9.row) (by first|rfl|(simp;done)|(simp;omega))) (.cons (bl.tmp rfl) (.nil)))) ?_;exact⟨_,rfl,rfl,aD.only (aD.only e03 x4 (by omega)) x5 (by omega)⟩
def JU:iA Tk:=.record 3 (by decide) fU (fun _=>rfl) pN
def lD (p:UInt8×UInt8):List Value:=[.int .u8 p.1.toNat,.int .u8 p.2.toNat]
def IW:List Value:=jj.flatMap lD
def pJ (h:az):Prop:=Lw.rowAt h 1 0 IW
theorem pJ.ax {h':az}(k:pJ h) (e:aD h h'):pJ h':=e.rowAt (fun k=>k) k
theorem KH (i:Nat) (hi:i<6):IW.toArray.extract (i*2) (i*2+2)=(lD (jj.getD i (0,0))).toArray:=by
 match i,hi with
 | 0,_=>rfl
 | 1,_=>rfl
 | 2,_=>rfl
 | 3,_=>rfl
 | 4,_=>rfl
 | 5,_=>rfl
theorem Gy (p:UInt8×UInt8):∀v∈lD p,v.oneCell'=true:=fun v hv=>by simp[lD] at hv;rcases hv with rfl|rfl<;>rfl
theorem Ka (a b:UInt8):((a.toNat:Int)=(b.toNat:Int))↔a=b:=⟨fun h=>UInt8.toNat_inj.1 (Int.ofNat.inj h),fun h=>by rw[h]⟩
theorem nS {p:α->Bool}{l:List α}(h:∀a∈l.take i,p a=false) (hi:i=l.length):l.find? p=none:=by
 subst hi;rw[List.take_length] at h;rw[List.find?_eq_none];intro a ha;rw[h a ha];simp
theorem DZ {p:α->Bool}{l:List α}{a:α}(h:∀a∈l.take i,p a=false) (ha:l[i]? =some a) (hp:p a=true):l.find? p=some a:=by
 induction l generalizing i with
 |nil=>simp at ha
 |cons b l ih =>
  cases i with
  |zero=>simp at ha;subst ha;rw[List.find?_cons_of_pos hp]
  |succ i =>
   rw[List.find?_cons_of_neg (by rw[h b (by simp)];simp)];exact ih (i:=i) (fun a ha=>h a (by simp[ha])) (by simpa using ha)
theorem wY (hg:pJ h) (s:By):ah Tryz.prog 87 #[.string (bs s)] h (dh fun r h'=>r= .int .u8 (oL s).toNat/\aD h h'):=by
 have hbs:=bD s;refine ah.of func87 rfl rfl ?_;refine aZ func87 1 [0,2] rfl ?_;refine av rfl ?_;refine bq func87 1 rfl ?_;refine xp rfl (aj.bM underlying9 rfl) ?_;refine aS 1 [0,2,7] rfl ?_;refine aO rfl rfl (fun hlt=>?_) (fun hlt=>?_)
 · refine aZ func87 1 [0,2,7] rfl ?_;refine G.ret func87 rfl rfl ?_;have h1:s[1]? =none:=List.getElem?_eq_none (by omega);exact⟨_,rfl,by unfold oL;rw[h1];rfl,Ext.refl _ _⟩
 · obtain⟨c,hc⟩:∃c,s[1]? =some c:=⟨_,List.getElem?_eq_getElem (show 1<s.length by omega)⟩
   have hE:oL s=C6 c:=by unfold oL;rw[hc]
   rw[hE];refine aC rfl ?_;refine av rfl ?_;refine xr func87 rfl ?_;refine xp rfl (aj.aH H.Mz H.Lb rfl hg (by first|rfl|(simp;done)|(simp;omega))) ?_;refine aS 1 [0,2,7,8,9] rfl ?_;refine G.block rfl rfl ?_;refine bG (σ:=Nat) (fun i=>[(0,.string (bs s)),(8,.agg IW.toArray),(9,.int .i64 (i:Nat))]) (fun i h'=>aD h h'/\i<=6/\∀p∈jj.take i,(p.1 ==c)=false) (fun i=>6-i) (0) rfl ⟨rfl,rfl,rfl,trivial⟩ ⟨Ext.refl _ _,by omega,by simp⟩ ?_;rintro i g ⟨eg,hi,hin⟩ ih;refine aZ func87 1 [0,8,9,10] rfl ?_;refine av rfl ?_;refine aO rfl rfl (fun hi6=>?_) (fun hi6=>?_)
   · have hil:i<6:=by omega
     obtain⟨p,hp⟩:∃p,jj[i]? =some p:=⟨_,List.getElem?_eq_getElem (show i<jj.length from hil)⟩
     have hpd:jj.getD i (0,0)=p:=by rw[List.getD_eq_getElem?_getD,hp];rfl
     have hcut:=KH i hil;rw[hpd] at hcut;refine aC rfl ?_;refine av rfl ?_;refine G.block rfl rfl ?_;refine xr func87 rfl ?_;refine xp rfl (aj.Fg underlying215 H.xN H.J1 rfl rfl i rfl hil hcut) ?_;refine xo rfl (aA.aY H.K4) ?_;rintro _ g1 ⟨rfl,k1,e1,z1⟩;refine RW.cu rfl rfl rfl (aA.aB H.xN rfl rfl k1 (by first|rfl|(simp;done)|(simp;omega)) (by first|decide|exact of_decide_eq_true rfl|(simp;done)|(simp;omega)) (Gy p)) ?_;rintro _ g2 ⟨rfl,k2,x2,z2⟩;have k2:bp g2 g.size 214 (lD p):=k2;have e02:aD h g2:=aD.only (eg.trans e1) x2 (by have:=eg.size;omega);refine xd [0,4,8,9,10] rfl ?_;refine av rfl ?_;refine b6 (fun b=>Array.size g2<=b) (fun i=>Nat.blt i 5) (sz:=5) (listed:= #[false,false,false,false,false]) func87 H.mixed rfl rfl rfl ?_;refine bL 0 1 (by kernel_rfl) rfl (fun h' e=>aj.cX underlying214 H.KX rfl rfl 0 rfl (by decide)) ?_;refine bL 1 3 (by kernel_rfl) rfl (fun h' e=>ai H.My rfl (e.old (k2.cell (i:=0) rfl))) ?_;refine cg 2 7 (by kernel_rfl) rfl ?_;refine bL 3 15 (by kernel_rfl) rfl (fun h' e=>aj.dz underlying9 rfl rfl 1 rfl (iD hc)) ?_;refine cg 4 31 (by kernel_rfl) rfl ?_;refine br (by kernel_rfl) ?_;refine xu [0,4,8,9,10,16] rfl ?_;refine aO rfl rfl (fun he=>?_) (fun he=>?_)
     · have he:p.1=c:=(Ka _ _).1 (by omega);refine xr func87 rfl ?_;refine xp rfl (aj.cX underlying214 H.KX rfl rfl 1 rfl (by decide)) ?_;refine xp rfl (ai H.My rfl (k2.cell (i:=1) rfl)) ?_;refine aS 1 [0,2,4,8,9,10,16] rfl ?_;refine G.ret func87 rfl rfl ?_;refine⟨_,rfl,?_,e02⟩;unfold C6;rw[DZ hin hp (by rw[he];simp)];rfl
     · have he:¬p.1=c:=fun q=>he (by rw[q])
       refine aC rfl ?_;refine G.aR ?_;refine G.cz func87 rfl ?_;refine xp rfl (aj.bE rfl rfl ⟨by omega,by omega⟩) ?_;refine aS 1 [0,4,8,9,10,16] rfl ?_;exact ih (i+1) _ _ ⟨rfl,rfl,rfl,trivial⟩ ⟨e02,by omega,fun q hq=>by rw[List.take_add_one,hp,List.mem_append] at hq;rcases hq with hq|hq;exact hin q hq;simp at hq;subst hq;simpa using he⟩ (by omega)
   · obtain rfl:i=6:=by omega
     refine bA rfl rfl ?_;refine bq func87 1 rfl ?_;refine xp rfl (aj.dz underlying9 rfl rfl 1 rfl (iD hc)) ?_;refine aS 1 [0,2,8,9,10] rfl ?_;refine G.ret func87 rfl rfl ?_;refine⟨_,rfl,?_,eg⟩;unfold C6;rw[nS hin rfl];rfl
theorem xe {tb:Nat}(hb:bp h tb 9 [.string (bs s)]) (t:Tok):ah Tryz.prog 126 #[.agg (fU t).toArray,ptr tb] h (dh fun r h'=>r= .bool (!zQ s t)/\aD h h'):=by
 have hbs:=bD s;refine ah.of func126 rfl rfl ?_;refine xr func126 rfl ?_;refine xo rfl (aA.gP rfl) ?_;rintro _ h1 ⟨rfl,k1,e1,z1⟩;have k1:bp h1 h.size 46 (fU t):=k1;have hb1:=hb.ax e1;refine aS 1 [0,1,2,3] rfl ?_;refine av rfl ?_;refine G.bF [(3,.bool (!zQ s t))] [(0,_),(1,_),(2,_)] ⟨rfl,rfl,rfl,trivial⟩ func126 rfl ?_ ?_
 · refine xp rfl (af (off:=1) underlying46 rfl rfl H.cA rfl) ?_;refine xp rfl (ai H.de rfl (k1.cell (i:=1) rfl)) ?_;refine bh 2 rfl ?_;refine aP (d:=7) rfl (fun g=>?_) (fun g=>?_)
   · have g:=of_decide_eq_true g;refine bh 14 rfl ?_;refine aE rfl ?_;exact⟨rfl,aF rfl (by unfold zQ;rw[decide_eq_false (by omega)];rfl),rfl,rfl,rfl,trivial⟩
   · have g:=of_decide_eq_false g;refine xp rfl (af (off:=2) underlying46 rfl rfl H.cA rfl) ?_;refine xp rfl (ai H.de rfl (k1.cell (i:=2) rfl)) ?_;refine xp rfl (ai H.gj rfl (hb1.cell (i:=0) rfl)) ?_;refine xp rfl (aj.bM underlying9 rfl) ?_;refine bh 3 rfl ?_;refine aP (d:=14) rfl (fun g2=>?_) (fun g2=>?_)
     · have g2:=of_decide_eq_true g2;refine bh 7 rfl ?_;refine aE rfl ?_;exact⟨rfl,aF rfl (by unfold zQ;rw[decide_eq_true (show 0<=t.2.1 by omega),decide_eq_false (by omega)];rfl),rfl,rfl,rfl,trivial⟩
     · have g2:=of_decide_eq_false g2;refine xp rfl (af (off:=1) underlying46 rfl rfl H.cA rfl) ?_;refine xp rfl (ai H.de rfl (k1.cell (i:=1) rfl)) ?_;refine xp rfl (af (off:=2) underlying46 rfl rfl H.cA rfl) ?_;refine xp rfl (ai H.de rfl (k1.cell (i:=2) rfl)) ?_;refine bh 3 rfl ?_;refine aE rfl ?_;exact⟨rfl,aF rfl (by unfold zQ;rw[decide_eq_true (show 0<=t.2.1 by omega),decide_eq_true (show t.2.2<=s.length by omega),Bool.true_and,Bool.true_and,<-decide_not,decide_eq_decide];omega),rfl,rfl,rfl,trivial⟩
 · refine G.ret func126 rfl rfl ?_;exact⟨_,rfl,rfl,e1⟩
theorem zO {gf:FuncId}{caps:List Value}(hf:Jp Tryz.prog gf) (hv:bX JU h (fun _=>False) v ts) (p:Tok->Bool)
 (hp:∀t g,aD h g->ah Tryz.prog gf ([Value.agg (fU t).toArray]++caps).toArray g (dh fun r h'=>r= .bool (p t)/\aD g h')) :
 ah Tryz.prog 160 #[v,.func (.func gf) #[] caps.toArray] h (dh fun r h'=>(∃i:Int,r= .int .i64 i/\decide (0<=i)=ts.any p)/\aD h h'):=by
 obtain⟨va,vn,vc,rfl,hvs⟩:=hv.open;have hvl:ts.length=vn:=hvs.len;subst hvl;have hvm:=hvs.cap;have hvc:=hvs.le;simp only[maxLen] at hvm;refine ah.of func160 rfl rfl ?_;refine aZ func160 1 [0,1,4] rfl ?_;refine av rfl ?_;refine bq func160 1 rfl ?_;refine xp rfl (aj.aJ underlying39 rfl) ?_;refine aS 1 [0,1,4,7,8] rfl ?_;refine G.block rfl rfl ?_;refine bG (σ:=Nat) (fun i=>[(0,.slice va ts.length vc),(1,.func (.func gf) #[] caps.toArray),(7,.int .i64 (ts.length:Nat)),(8,.int .i64 (i:Nat))]) (fun i h'=>aD h h'/\i<=ts.length/\(ts.take i).any p=false) (fun i=>ts.length-i) (0) rfl ⟨rfl,rfl,rfl,rfl,trivial⟩ ⟨Ext.refl _ _,Nat.zero_le _,by simp⟩ ?_;rintro i g ⟨eg,hi,hin⟩ ih;refine aZ func160 1 [0,1,7,8,9] rfl ?_;refine av rfl ?_;refine aO rfl rfl (fun hlt=>?_) (fun hlt=>?_)
 · have hil:i<ts.length:=by omega
   have hvg:=hvs.mv (Mv.ax eg);obtain⟨b,o,t,ha,_,ht,hrow⟩:=hvg.xl hil;have hpt:=hp t g eg;refine aC rfl ?_;refine av rfl ?_;refine G.block rfl rfl ?_;refine aZ func160 2 [0,1,5,7,8,9] rfl ?_;refine bq func160 3 rfl ?_;refine xp rfl (aj.ay underlying39 H.lV rfl rfl i rfl ha (by omega)) ?_;refine xp rfl (aj.aH H.Al H.lV rfl hrow (by first|rfl|(simp;done)|(simp;omega))) ?_;refine xo rfl (aA.HE (vs:=[_]) rfl hf rfl (ah.bw (hpt))) ?_;rintro _ g1 ⟨rfl,e1⟩;refine xd [0,1,5,7,8,9,16] rfl ?_;refine aI rfl rfl (fun hb=>?_) (fun hb=>?_)
   · have hb:p t=true:=hb;refine aZ func160 2 [0,1,4,5,7,8,9,16] rfl ?_;refine G.ret func160 rfl rfl ?_;refine⟨_,rfl,⟨i,rfl,?_⟩,eg.trans e1⟩;rw[decide_eq_true (by omega)];exact(List.any_eq_true.2 ⟨t,List.mem_of_getElem? ht,hb⟩).symm
   · have hb:p t=false:=hb;refine aC rfl ?_;refine G.aR ?_;refine G.cz func160 rfl ?_;refine xp rfl (aj.bE rfl rfl ⟨by omega,by omega⟩) ?_;refine aS 1 [0,1,5,7,8,9,16] rfl ?_;exact ih (i+1) _ _ ⟨rfl,rfl,rfl,rfl,trivial⟩ ⟨eg.trans e1,by omega,by rw[List.take_add_one,ht,List.any_append,hin];simp[hb]⟩ (by omega)
 · obtain rfl:i=ts.length:=by omega
   rw[List.take_length] at hin;refine bA rfl rfl ?_;refine aZ func160 1 [0,1,4,7,8,9] rfl ?_;refine G.ret func160 rfl rfl ?_;exact⟨_,rfl,⟨-1,rfl,by rw[hin];rfl⟩,eg⟩
theorem tW {h1:az}(hv:bX JU h1 (fun _=>False) v ts) (k1:bp h1 h.size 9 [.string (bs s)]):ah Tryz.prog 125 #[v,.func (.func 126) #[] #[ptr h.size]] h1 (dh fun r h'=>r= .bool (ts.any fun t=> !zQ s t)/\aD h1 h'):=by
 have hi:=zO (h:=h1) (gf:=126) (caps:=[ptr h.size]) ⟨_,func126,rfl,by kernel_rfl⟩ hv (fun t=> !zQ s t) (fun t g eg=>xe (k1.ax eg) t);refine ah.of func125 rfl rfl ?_;refine aZ func125 1 [0,1,4] rfl ?_;refine bq func125 2 rfl ?_;refine xo rfl (aq (vs:=[_,_]) func160 rfl H.LO rfl (ah.bw (hi))) ?_;rintro _ h2 ⟨⟨i,rfl,hi2⟩,e2⟩;refine aS 2 [0,1,4] rfl ?_;refine G.ret func125 rfl rfl ?_;exact⟨_,rfl,by rw[<-hi2];rfl,e2⟩
theorem wW (hv:bX JU h (fun _=>False) v ts) (s:By):ah Tryz.prog 86 #[.string (bs s),v] h (dh fun r h'=>r= .bool (ts.all (zQ s))/\aD h h'):=by
 refine ah.of func86 rfl rfl ?_;refine xr func86 rfl ?_;refine xo rfl (aA.gP rfl) ?_;rintro _ h1 ⟨rfl,k1,e1,z1⟩;have hc:=tW (hv.ax e1) (show bp h1 h.size 9 [.string (bs s)] from k1);refine aS 1 [0,1,2,4] rfl ?_;refine bq func86 1 rfl ?_;refine xp rfl (aj.makeFunc (vs:=[_]) rfl) ?_;refine xo rfl (aq (vs:=[_,_]) func125 rfl H.LX rfl (ah.bw (hc))) ?_;rintro _ h2 ⟨rfl,e2⟩;refine aS 2 [0,1,2,4] rfl ?_;refine G.ret func86 rfl rfl ?_;refine⟨_,rfl,?_,e1.trans e2⟩;rw[List.all_eq_not_any_not];rfl
theorem Hh (h:zQ s t=true):∃f q:Nat,t.2.1=f/\t.2.2=q/\f<=q/\q<=s.length/\cV s t=(s.take q).drop f:=by
 unfold zQ at h;simp only[Bool.and_eq_true,decide_eq_true_eq] at h;obtain⟨⟨h1,h2⟩,h3⟩:=h;refine⟨t.2.1.toNat,t.2.2.toNat,by omega,by omega,by omega,by omega,?_⟩;unfold cV;rw[List.drop_take]
theorem Ey (s:By) (t:Tok):(cV s t).length<=s.length:=by
 unfold cV;rw[List.length_take,List.length_drop];omega
theorem Cq (h:ts[i]? =some t) (out:List Un) (op:Bool) :
 eo s (ts.drop i) out op=match fk s out op t with|.er a e=>.er a e|.go out op=>eo s (ts.drop (i+1)) out op:=by
 obtain⟨hi,rfl⟩:=List.getElem?_eq_some_iff.1 h;rw[List.drop_eq_getElem_cons hi];rfl
theorem Gc (pre:List α) (u y:α):(pre++[u]).set pre.length y=pre++[y]:=by
 rw[List.set_append_right _ _ (Nat.le_refl _),Nat.sub_self];rfl
theorem Fu {T:TypeId}(c:UInt8):bX .byte (h.push (.cells #[.int .u8 c.toNat] T)) (fun _=>False) (.slice (some ⟨h.size,0,none⟩) 1 1) [c] :=
 Dt.read (lN tU h T [c] 1 rfl (by decide) 0 (Nat.zero_le _) rfl) (fun _ _ k=>k)
def On (h':az) (r:Value):(Int×Int) ⊕ List Un->Prop
 |.inl p=>r=packed [.slice none 0 0,.int .i64 p.1,.int .i64 p.2]
 |.inr us=>us.length<=500/\∃uv,r=packed [uv,.int .i64 0,.int .i64 0]/\bX NT h' (fun _=>False) uv us
theorem yJ (hg:pJ h) (hv:bX JU h (fun _=>False) v ts) (s:By) (st:ur) (hb:ts.length*(s.length+2)<=1000000000000) (hsl:s.length<=1000000000000) :
 ah Tryz.prog 41 #[.string (bs s),v,.agg (cO st).toArray] h (dh fun r h'=>aD h h'/\On h' r (fP s ts st.1)):=by
 obtain⟨va,vn,vc,rfl,hvs⟩:=id hv.open;have hvl:ts.length=vn:=hvs.len;subst hvl;have hvm:=hvs.cap;have hvc:=hvs.le;simp only[maxLen] at hvm;refine ah.of func41 rfl rfl ?_;refine xr func41 rfl ?_;refine xo rfl (aA.gP rfl) ?_;rintro _ h1 ⟨rfl,k1,e1,z1⟩;refine aS 3 [0,1,2,5,6,7,8] rfl ?_;refine av rfl ?_;refine bq func41 2 rfl ?_;refine xo rfl (aq (vs:=[_,_]) func86 rfl H.M8 rfl (ah.bw (wW (hv.ax e1) s))) ?_;rintro _ h2 ⟨rfl,e2⟩;have k1:bp h2 h.size 41 (cO st):=k1.ax e2;have e02:=e1.trans e2;refine aS 1 [0,1,2,5,6,7,8,16] rfl ?_;refine aI rfl rfl (fun hw=>?_) (fun hw=>?_)
 · have hw:ts.all (zQ s)=false:=by simpa using hw
   refine aZ func41 3 [0,1,2,5,6,7,8,16] rfl ?_;refine G.ret func41 rfl rfl ?_;refine⟨_,rfl,e02,?_⟩;unfold fP;rw[if_neg (by rw[hw];simp)];rfl
 · have hw:ts.all (zQ s)=true:=by simpa using hw
   have hU:fP s ts st.1=match eo s ts [] false with|.er a e=>.inl (a,e)|.go out op=>if op=true\/st.1≠0 then .inl (s.length,10) else .inr out:=by
    unfold fP;rw[if_pos hw];rfl
   rw[hU];generalize htg0:eo s ts [] false=tgt;refine aC rfl ?_;refine aZ func41 1 [0,1,2,5,6,7,8,9,16] rfl ?_;refine av rfl ?_;refine bq func41 1 rfl ?_;refine xp rfl (aj.aJ underlying39 rfl) ?_;refine aS 1 [0,1,2,5,6,7,8,9,16,17,18,19] rfl ?_;refine G.block rfl rfl ?_;refine bG (σ:=Nat×List Un×Bool×Value) (fun w=>[(0,.string (bs s)),(5,ptr h.size),(6,w.2.2.2),(9,.bool w.2.2.1),(17,.slice va ts.length vc),(18,.int .i64 (ts.length:Nat)),(19,.int .i64 (w.1:Nat))]) (fun w g=>w.1<=ts.length/\aD h2 g/\h2.size<=g.size/\lR 3 su g h2.size 188 w.2.2.2 w.2.1/\eo s (ts.drop w.1) w.2.1 w.2.2.1=tgt/\w.2.1.length<=500/\(w.2.2.1=true->w.2.1≠[])/\(∀u∈w.2.1,u.2.1.length<=w.1*(s.length+2))) (fun w=>ts.length-w.1) ((0,[],false,.slice none 0 0)) rfl ⟨rfl,rfl,rfl,rfl,rfl,rfl,rfl,trivial⟩ ⟨Nat.zero_le _,Ext.refl _ _,Nat.le_refl _,lR.nil _ _ _ _ _,htg0,by simp,(fun k=>by cases k),by simp⟩ ?_;rintro⟨i,out,op,ov⟩ g ⟨hi,eg,hz,how,htg,hol,hop,hut⟩ ih
   try dsimp only
   dsimp only at hi how htg hol hop hut;have hho:aQ g h2.size 188 3 ov out.length (out.flatMap su):=how;obtain⟨oa,oc,rfl,_⟩:=hho.open;refine aZ func41 1 [0,5,6,9,17,18,19,20] rfl ?_;refine av rfl ?_;refine aO rfl rfl (fun hlt=>?_) (fun hlt=>?_)
   · have hil:i<ts.length:=by omega
     have hmul:(i+1)*(s.length+2)<=ts.length*(s.length+2):=Nat.mul_le_mul_right _ hil;have hsuc:(i+1)*(s.length+2)=i*(s.length+2)+(s.length+2):=Nat.succ_mul _ _;have hbig:∀n,n<=i*(s.length+2)->n<=(i+1)*(s.length+2):=fun n hn=>by omega
     have hvg:=hvs.mv (Mv.ax (e02.trans eg));obtain⟨b,o,t,ha,_,ht,hrow⟩:=hvg.xl hil;have hint:zQ s t=true:=List.all_eq_true.1 hw t (List.mem_of_getElem? ht);obtain⟨f,q,hf,hq,hfq,hqs,htx⟩:=Hh hint;have htl:=Ey s t;have hstep:=Cq (s:=s) ht out op;have hbz:=bD s;refine aC rfl ?_;refine av rfl ?_;refine G.block rfl rfl ?_;refine xr func41 rfl ?_;refine xp rfl (aj.ay underlying39 H.lV rfl rfl i rfl ha (by omega)) ?_;refine xp rfl (aj.aH H.Al H.lV rfl hrow (by first|rfl|(simp;done)|(simp;omega))) ?_;refine xo rfl (aA.aY H.FJ) ?_;rintro _ g1 ⟨rfl,k2,e3,z3⟩;refine RW.cu rfl rfl rfl (aA.aB H.lV rfl rfl k2 (by first|rfl|(simp;done)|(simp;omega)) (by first|decide|exact of_decide_eq_true rfl|(simp;done)|(simp;omega)) (pN t)) ?_;rintro _ g2 ⟨rfl,kt,x2,z2⟩;have kt:bp g2 g.size 46 (fU t):=kt;have eg2:aD g g2:=aD.only e3 x2 (Nat.le_refl _);have how2:=how.ax eg2;have hho2:aQ g2 h2.size 188 3 (.slice oa out.length oc) out.length (out.flatMap su):=how2;have egg:=eg.trans eg2;refine xd [0,5,6,9,11,17,18,19,20] rfl ?_;refine bq func41 1 rfl ?_;refine xp rfl (af (off:=1) underlying46 rfl rfl H.cA rfl) ?_;refine xp rfl (ai H.de rfl (kt.cell (i:=1) rfl)) ?_;refine xp rfl (af (off:=2) underlying46 rfl rfl H.cA rfl) ?_;refine xp rfl (ai H.de rfl (kt.cell (i:=2) rfl)) ?_;refine xp rfl (aj.AU underlying9 rfl rfl f hf rfl q hq hfq (by omega)) ?_;rw[Ef _ _ _ hfq,<-htx];refine aS 1 [0,5,6,9,11,12,17,18,19,20] rfl ?_;refine av rfl ?_;refine G.block rfl rfl ?_;refine xr func41 rfl ?_;refine xp rfl (af (off:=0) underlying46 rfl rfl H.cA rfl) ?_;refine xp rfl (ai H.de rfl (kt.cell (i:=0) rfl)) ?_;refine aS 2 [0,5,6,9,11,12,17,18,19,20,29] rfl ?_;refine aO rfl rfl (fun h0=>?_) (fun h0=>?_)
     · have hu:fk s out op t= .er t.2.1 10:=by unfold fk;rw[if_pos h0]
       rw[hstep,hu] at htg;refine av rfl ?_;refine G.eY func41 H.mixed rfl (by kernel_rfl) ?_;refine RQ.au rfl rfl rfl rfl (af (off:=1) underlying46 rfl rfl H.cA rfl) ?_;refine RQ.au rfl rfl rfl rfl (ai H.de rfl (kt.cell (i:=1) rfl)) ?_;refine RQ.au rfl rfl rfl rfl (aj.assign rfl) ?_;refine RQ.au rfl rfl rfl rfl (aj.assign rfl) ?_;refine RQ.au rfl rfl rfl rfl (aj.assign rfl) ?_;refine cP rfl ?_;refine xu [0,5,6,7,8,9,11,12,17,18,19,20,29] rfl ?_;refine G.ret func41 rfl rfl ?_;exact⟨_,rfl,e02.trans egg,by rw[<-htg];rfl⟩
     · rcases op with _|_
       · refine av rfl ?_;refine G.bF [(35,.bool false)] [(0,_),(5,_),(6,_),(9,_),(11,_),(12,_),(17,_),(18,_),(19,_),(20,_),(29,_)] ⟨rfl,rfl,rfl,rfl,rfl,rfl,rfl,rfl,rfl,rfl,rfl,trivial⟩ func41 rfl ?_ ?_
         · refine bh 2 rfl ?_;refine RW.dw (d:=37) (b':=false) rfl (rfl) ?_;refine bh 9 rfl ?_;refine aE rfl ?_;exact⟨rfl,aF rfl (rfl),rfl,rfl,rfl,rfl,rfl,rfl,rfl,rfl,rfl,rfl,rfl,trivial⟩
         · refine aI rfl rfl (fun hc=>absurd hc (by simp)) (fun _=>?_);refine av rfl ?_;refine G.bF [(46,.bool false)] [(0,_),(5,_),(6,_),(9,_),(11,_),(12,_),(17,_),(18,_),(19,_),(20,_),(29,_),(35,_)] ⟨rfl,rfl,rfl,rfl,rfl,rfl,rfl,rfl,rfl,rfl,rfl,rfl,trivial⟩ func41 rfl ?_ ?_
           · refine bh 2 rfl ?_;refine RW.dw (d:=48) (b':=false) rfl (rfl) ?_;refine bh 5 rfl ?_;refine aE rfl ?_;exact⟨rfl,aF rfl (rfl),rfl,rfl,rfl,rfl,rfl,rfl,rfl,rfl,rfl,rfl,rfl,rfl,trivial⟩
           · refine aI rfl rfl (fun hc=>absurd hc (by simp)) (fun _=>?_);refine aZ func41 2 [0,5,6,9,11,12,17,18,19,20,29,35,46,67] rfl ?_;refine aI rfl rfl (fun hc=>absurd hc (by simp)) (fun _=>?_)
             have hu0:fk s out false t=(if t.1=1\/t.1=2\/t.1=11 then .go out false else if out.length=500 then .er t.2.1 3 else .go (out++[(t.1,if t.1=9 then [] else cV s t,t.2.1)]) (decide (t.1=9))):=by
              unfold fk;rw[if_neg h0];rfl
             refine av rfl ?_;refine xr func41 rfl ?_;refine xp rfl (af (off:=0) underlying46 rfl rfl H.cA rfl) ?_;refine xp rfl (ai H.de rfl (kt.cell (i:=0) rfl)) ?_;refine aS 2 [0,5,6,9,11,12,17,18,19,20,29,35,46,67,80] rfl ?_;refine aO rfl rfl (fun c1=>?_) (fun c1=>?_)
             · refine aC rfl ?_;refine aI rfl rfl (fun _=>?_) (fun hc=>absurd hc (by simp[c1]));refine bA rfl rfl ?_;refine G.cz func41 rfl ?_;refine xp rfl (aj.bE rfl rfl ⟨by omega,by omega⟩) ?_;refine aS 1 [0,5,6,9,11,12,17,18,19,20,29,35,46,67,80] rfl ?_;exact ih (i+1,out,false,(.slice oa out.length oc)) _ _ ⟨rfl,rfl,rfl,rfl,rfl,rfl,rfl,trivial⟩ ⟨by show i+1<=ts.length;omega,egg,by have:=(egg).size;omega,how2,by rw[hstep,(hu0.trans (if_pos (.inl c1)))] at htg;exact htg,hol,(fun k=>by cases k),(fun u hu=>hbig _ (hut u hu))⟩ (by show ts.length-(i+1)<ts.length-i;omega)
             · refine xr func41 rfl ?_;refine xp rfl (af (off:=0) underlying46 rfl rfl H.cA rfl) ?_;refine xp rfl (ai H.de rfl (kt.cell (i:=0) rfl)) ?_;refine aS 2 [0,5,6,9,11,12,17,18,19,20,29,35,46,67,80] rfl ?_;refine aO rfl rfl (fun c2=>?_) (fun c2=>?_)
               · refine aC rfl ?_;refine aI rfl rfl (fun _=>?_) (fun hc=>absurd hc (by simp[c2]));refine bA rfl rfl ?_;refine G.cz func41 rfl ?_;refine xp rfl (aj.bE rfl rfl ⟨by omega,by omega⟩) ?_;refine aS 1 [0,5,6,9,11,12,17,18,19,20,29,35,46,67,80] rfl ?_;exact ih (i+1,out,false,(.slice oa out.length oc)) _ _ ⟨rfl,rfl,rfl,rfl,rfl,rfl,rfl,trivial⟩ ⟨by show i+1<=ts.length;omega,egg,by have:=(egg).size;omega,how2,by rw[hstep,(hu0.trans (if_pos (.inr (.inl c2))))] at htg;exact htg,hol,(fun k=>by cases k),(fun u hu=>hbig _ (hut u hu))⟩ (by show ts.length-(i+1)<ts.length-i;omega)
               · refine G.cz func41 rfl ?_;refine xp rfl (af (off:=0) underlying46 rfl rfl H.cA rfl) ?_;refine xp rfl (ai H.de rfl (kt.cell (i:=0) rfl)) ?_;refine aS 2 [0,5,6,9,11,12,17,18,19,20,29,35,46,67,80] rfl ?_;refine aO rfl rfl (fun c3=>?_) (fun c3=>?_)
                 · refine bA rfl rfl ?_;refine G.cz func41 rfl ?_;refine xp rfl (aj.bE rfl rfl ⟨by omega,by omega⟩) ?_;refine aS 1 [0,5,6,9,11,12,17,18,19,20,29,35,46,67,80] rfl ?_;exact ih (i+1,out,false,(.slice oa out.length oc)) _ _ ⟨rfl,rfl,rfl,rfl,rfl,rfl,rfl,trivial⟩ ⟨by show i+1<=ts.length;omega,egg,by have:=(egg).size;omega,how2,by rw[hstep,(hu0.trans (if_pos (.inr (.inr c3))))] at htg;exact htg,hol,(fun k=>by cases k),(fun u hu=>hbig _ (hut u hu))⟩ (by show ts.length-(i+1)<ts.length-i;omega)
                 · rw[if_neg (fun q=>by omega)] at hu0;refine xr func41 rfl ?_;refine xp rfl (af (off:=0) underlying46 rfl rfl H.cA rfl) ?_;refine xp rfl (ai H.de rfl (kt.cell (i:=0) rfl)) ?_;refine aS 2 [0,5,6,9,11,12,17,18,19,20,29,35,46,67,80,90] rfl ?_;refine aO rfl rfl (fun c9=>?_) (fun c9=>?_)
                   · refine G.cz func41 rfl ?_;refine aS 2 [0,5,6,9,11,12,17,18,19,20,29,35,46,67,80,90] rfl ?_;refine G.aR ?_;refine av rfl ?_;refine bq func41 1 rfl ?_;refine xp rfl (aj.aJ underlying111 rfl) ?_;refine aS 1 [0,5,6,9,11,12,17,18,19,20,29,35,46,67,80,90,96] rfl ?_;refine aO rfl rfl (fun c500=>?_) (fun c500=>?_)
                     · have c500:out.length=500:=by omega
                       rw[if_pos c500] at hu0;rw[hstep,hu0] at htg;refine av rfl ?_;refine G.eY func41 H.mixed rfl (by kernel_rfl) ?_;refine RQ.au rfl rfl rfl rfl (af (off:=1) underlying46 rfl rfl H.cA rfl) ?_;refine RQ.au rfl rfl rfl rfl (ai H.de rfl (kt.cell (i:=1) rfl)) ?_;refine RQ.au rfl rfl rfl rfl (aj.assign rfl) ?_;refine RQ.au rfl rfl rfl rfl (aj.assign rfl) ?_;refine RQ.au rfl rfl rfl rfl (aj.assign rfl) ?_;refine cP rfl ?_;refine xu [0,5,6,7,8,9,11,12,17,18,19,20,29,35,46,67,80,90,96] rfl ?_;refine G.ret func41 rfl rfl ?_;exact⟨_,rfl,e02.trans egg,by rw[<-htg];rfl⟩
                     · have c500:¬out.length=500:=by omega
                       rw[if_neg c500] at hu0;refine aC rfl ?_;refine G.cz func41 rfl ?_;refine cD 1 rfl rfl (af (off:=0) underlying46 rfl rfl H.cA rfl) ?_;refine xp rfl (ai H.de rfl (kt.cell (i:=0) rfl)) ?_;refine cD 1 rfl rfl (af (off:=1) underlying46 rfl rfl H.cA rfl) ?_;refine xp rfl (ai H.de rfl (kt.cell (i:=1) rfl)) ?_;refine xp rfl (aN (H.tK _ _ _) rfl) ?_;refine xo rfl (aA.cE (cs:=[_,_,_]) underlying111 H.D8 rfl rfl (by decide)) ?_;rintro _ _ ⟨rfl,rfl⟩;refine xo rfl (aA.bS underlying111 H.D8 rfl rfl (hho2) rfl rfl (yR (t.1,([]:By),t.2.1)) (by omega) (by decide) (by omega)) ?_;rintro v2 g4 ⟨ho4,hx4,hx4',hv4⟩;have ho5:lR 3 su g4 h2.size 188 v2 (out++[(t.1,([]:By),t.2.1)]):=lR.of ho4 rfl rfl;have e24:aD h2 g4:=Ext.own egg hho2 (Nat.le_refl _) hx4;have hu1:fk s out false t= .go (out++[(t.1,([]:By),t.2.1)]) true:=hu0.trans (by simp[c9]);refine aS 1 [0,5,6,9,11,12,17,18,19,20,29,35,46,67,80,90,96] rfl ?_;refine G.aR ?_;refine G.cz func41 rfl ?_;refine xp rfl (aj.bE rfl rfl ⟨by omega,by omega⟩) ?_;refine aS 1 [0,5,6,9,11,12,17,18,19,20,29,35,46,67,80,90,96] rfl ?_;exact ih (i+1,(out++[(t.1,([]:By),t.2.1)]),true,v2) _ _ ⟨rfl,rfl,rfl,rfl,rfl,rfl,rfl,trivial⟩ ⟨by show i+1<=ts.length;omega,e24,by have:=(e24).size;omega,ho5,by rw[hstep,hu1] at htg;exact htg,(by rw[List.length_append];simp only[List.length_singleton];omega),(fun _=>by simp),(fun u hu=>(List.mem_append.1 hu).elim (fun hu=>hbig _ (hut u hu)) (fun hu=>by simp only[List.mem_singleton] at hu;subst hu;show List.length (([]:By))<=(i+1)*(s.length+2);have hz0:List.length ([]:By)=0:=rfl;omega))⟩ (by show ts.length-(i+1)<ts.length-i;omega)
                   · refine aC rfl ?_;refine G.aR ?_;refine av rfl ?_;refine bq func41 1 rfl ?_;refine xp rfl (aj.aJ underlying111 rfl) ?_;refine aS 1 [0,5,6,9,11,12,17,18,19,20,29,35,46,67,80,90,96] rfl ?_;refine aO rfl rfl (fun c500=>?_) (fun c500=>?_)
                     · have c500:out.length=500:=by omega
                       rw[if_pos c500] at hu0;rw[hstep,hu0] at htg;refine av rfl ?_;refine G.eY func41 H.mixed rfl (by kernel_rfl) ?_;refine RQ.au rfl rfl rfl rfl (af (off:=1) underlying46 rfl rfl H.cA rfl) ?_;refine RQ.au rfl rfl rfl rfl (ai H.de rfl (kt.cell (i:=1) rfl)) ?_;refine RQ.au rfl rfl rfl rfl (aj.assign rfl) ?_;refine RQ.au rfl rfl rfl rfl (aj.assign rfl) ?_;refine RQ.au rfl rfl rfl rfl (aj.assign rfl) ?_;refine cP rfl ?_;refine xu [0,5,6,7,8,9,11,12,17,18,19,20,29,35,46,67,80,90,96] rfl ?_;refine G.ret func41 rfl rfl ?_;exact⟨_,rfl,e02.trans egg,by rw[<-htg];rfl⟩
                     · have c500:¬out.length=500:=by omega
                       rw[if_neg c500] at hu0;refine aC rfl ?_;refine G.cz func41 rfl ?_;refine cD 1 rfl rfl (af (off:=0) underlying46 rfl rfl H.cA rfl) ?_;refine xp rfl (ai H.de rfl (kt.cell (i:=0) rfl)) ?_;refine cD 1 rfl rfl (af (off:=1) underlying46 rfl rfl H.cA rfl) ?_;refine xp rfl (ai H.de rfl (kt.cell (i:=1) rfl)) ?_;refine xp rfl (aN (H.tK _ _ _) rfl) ?_;refine xo rfl (aA.cE (cs:=[_,_,_]) underlying111 H.D8 rfl rfl (by decide)) ?_;rintro _ _ ⟨rfl,rfl⟩;refine xo rfl (aA.bS underlying111 H.D8 rfl rfl (hho2) rfl rfl (yR (t.1,(cV s t),t.2.1)) (by omega) (by decide) (by omega)) ?_;rintro v2 g4 ⟨ho4,hx4,hx4',hv4⟩;have ho5:lR 3 su g4 h2.size 188 v2 (out++[(t.1,(cV s t),t.2.1)]):=lR.of ho4 rfl rfl;have e24:aD h2 g4:=Ext.own egg hho2 (Nat.le_refl _) hx4;have hu1:fk s out false t= .go (out++[(t.1,(cV s t),t.2.1)]) false:=hu0.trans (by simp[c9]);refine aS 1 [0,5,6,9,11,12,17,18,19,20,29,35,46,67,80,90,96] rfl ?_;refine G.aR ?_;refine G.cz func41 rfl ?_;refine xp rfl (aj.bE rfl rfl ⟨by omega,by omega⟩) ?_;refine aS 1 [0,5,6,9,11,12,17,18,19,20,29,35,46,67,80,90,96] rfl ?_;exact ih (i+1,(out++[(t.1,(cV s t),t.2.1)]),false,v2) _ _ ⟨rfl,rfl,rfl,rfl,rfl,rfl,rfl,trivial⟩ ⟨by show i+1<=ts.length;omega,e24,by have:=(e24).size;omega,ho5,by rw[hstep,hu1] at htg;exact htg,(by rw[List.length_append];simp only[List.length_singleton];omega),(fun _=>by simp),(fun u hu=>(List.mem_append.1 hu).elim (fun hu=>hbig _ (hut u hu)) (fun hu=>by simp only[List.mem_singleton] at hu;subst hu;show List.length ((cV s t))<=(i+1)*(s.length+2);have hz0:List.length ([]:By)=0:=rfl;omega))⟩ (by show ts.length-(i+1)<ts.length-i;omega)
       · have hne:=hop rfl
         obtain⟨pre,u,hpre⟩:∃pre u,out=pre++[u]:=by
          rcases List.eq_nil_or_concat out with q|⟨p,u,q⟩
          · exact absurd q hne
          · exact⟨p,u,by simpa using q⟩
         have hlen:out.length=pre.length+1:=by rw[hpre];simp
         have hgu:out[pre.length]? =some u:=by rw[hpre];simp
         have hul:=hut u (by rw[hpre];simp);obtain⟨gb,gc,hgv,hgb,hgl,hgr,hgf,hgs⟩:=lR.put (enc:=su) (fun _=>rfl) how2 hgu;have hga:oa=some ⟨gb,0,none⟩:=by cases hgv;rfl
         have hu0:fk s out true t=(if t.1=9/\cV s t=[34] then .go out false else if t.1=10 then .go (iQ [oL (cV s t)] out) true else .go (iQ (cV s t) out) true):=by
          unfold fk;rw[if_neg h0];rfl
         have hadd:∀x,iQ x out=pre++[(u.1,u.2.1++x,u.2.2)]:=fun x=>by rw[hpre];exact lJ x pre u
         have hset:∀x,out.set pre.length (u.1,u.2.1++x,u.2.2)=iQ x out:=fun x=>by rw[hadd,hpre];exact Gc _ _ _
         have hadl:∀x,x.length<=s.length+1->∀u∈iQ x out,u.2.1.length<=(i+1)*(s.length+2):=fun x hx u' hu'=>by
          rw[hadd,List.mem_append] at hu'
          rcases hu' with hu'|hu'
          · exact hbig _ (hut u' (by rw[hpre];simp[hu']))
          · simp only[List.mem_singleton] at hu';subst hu';simp only[List.length_append];omega
         have hown:∀x g',g'=eJ g2 ⟨gb,0+pre.length*3+1,none⟩ x->aD h2 g':=fun x g' hg'=>by rw[hg'];exact aD.set egg hgb x
         refine av rfl ?_;refine G.bF [(35,.bool (decide (t.1=9/\cV s t=[34])))] [(0,_),(5,_),(6,_),(9,_),(11,_),(12,_),(17,_),(18,_),(19,_),(20,_),(29,_)] ⟨rfl,rfl,rfl,rfl,rfl,rfl,rfl,rfl,rfl,rfl,rfl,trivial⟩ func41 rfl ?_ ?_
         · refine bh 2 rfl ?_;refine RW.dw (d:=37) (b':=true) rfl (rfl) ?_;refine xp rfl (af (off:=0) underlying46 rfl rfl H.cA rfl) ?_;refine xp rfl (ai H.de rfl (kt.cell (i:=0) rfl)) ?_;refine bh 3 rfl ?_;refine aP (d:=42) rfl (fun g9=>?_) (fun g9=>?_)
           · have g9:=of_decide_eq_true g9;refine cD 1 rfl rfl (aj.dX rfl rfl) ?_;refine bh 2 rfl ?_;refine aE rfl ?_;exact⟨rfl,aF rfl (by rw[Bool.eq_iff_iff,decide_eq_true_iff,decide_eq_true_iff];exact⟨fun q=>⟨g9,eT q⟩,fun q=>congrArg bs q.2⟩),rfl,rfl,rfl,rfl,rfl,rfl,rfl,rfl,rfl,rfl,rfl,trivial⟩
           · have g9:=of_decide_eq_false g9;refine bh 4 rfl ?_;refine aE rfl ?_;exact⟨rfl,aF rfl (by rw[decide_eq_false (fun q=>g9 q.1)]),rfl,rfl,rfl,rfl,rfl,rfl,rfl,rfl,rfl,rfl,rfl,trivial⟩
         · refine aO rfl rfl (fun c9=>?_) (fun c9=>?_)
           · rw[if_pos c9] at hu0;refine aZ func41 1 [0,5,6,9,11,12,17,18,19,20,29,35] rfl ?_;refine bA rfl rfl ?_;refine G.cz func41 rfl ?_;refine xp rfl (aj.bE rfl rfl ⟨by omega,by omega⟩) ?_;refine aS 1 [0,5,6,9,11,12,17,18,19,20,29,35] rfl ?_;exact ih (i+1,out,false,(.slice oa out.length oc)) _ _ ⟨rfl,rfl,rfl,rfl,rfl,rfl,rfl,trivial⟩ ⟨by show i+1<=ts.length;omega,egg,by have:=(egg).size;omega,how2,by rw[hstep,hu0] at htg;exact htg,hol,(fun k=>by cases k),(fun u hu=>hbig _ (hut u hu))⟩ (by show ts.length-(i+1)<ts.length-i;omega)
           · rw[if_neg c9] at hu0;refine av rfl ?_;refine G.bF [(46,.bool (decide (t.1=10)))] [(0,_),(5,_),(6,_),(9,_),(11,_),(12,_),(17,_),(18,_),(19,_),(20,_),(29,_),(35,_)] ⟨rfl,rfl,rfl,rfl,rfl,rfl,rfl,rfl,rfl,rfl,rfl,rfl,trivial⟩ func41 rfl ?_ ?_
             · refine bh 2 rfl ?_;refine RW.dw (d:=48) (b':=true) rfl (rfl) ?_;refine xp rfl (af (off:=0) underlying46 rfl rfl H.cA rfl) ?_;refine xp rfl (ai H.de rfl (kt.cell (i:=0) rfl)) ?_;refine bh 3 rfl ?_;refine aE rfl ?_;exact⟨rfl,aF rfl (rfl),rfl,rfl,rfl,rfl,rfl,rfl,rfl,rfl,rfl,rfl,rfl,rfl,trivial⟩
             · refine aO rfl rfl (fun c10=>?_) (fun c10=>?_)
               · rw[if_pos c10] at hu0;refine av rfl ?_;refine b6 (fun _=>False) (fun i=>Nat.blt i 14) (sz:=15) (listed:= #[false,false,false,false,false,false,false,false,false,false,false,false,false,false,false]) func41 H.mixed rfl rfl rfl ?_;refine cg 0 1 (by kernel_rfl) rfl ?_;refine cg 1 3 (by kernel_rfl) rfl ?_;refine bL 2 7 (by kernel_rfl) rfl (fun h' e=>aj.aJ underlying111 rfl) ?_;refine bL 3 15 (by kernel_rfl) rfl (fun h' e=>aj.jt rfl rfl ⟨by omega,by omega⟩) ?_;refine bL 4 31 (by kernel_rfl) rfl (fun h' e=>aj.ay underlying111 H.kT rfl rfl pre.length (by omega) hga (by omega)) ?_;refine bL 5 63 (by kernel_rfl) rfl (fun h' e=>af (off:=1) underlying188 rfl rfl H.fL rfl) ?_;refine bL 6 127 (by kernel_rfl) rfl (fun h' e=>ai H.gj rfl (e.cell (fun k=>k) (hgr 1 _ rfl))) ?_;refine cg 7 255 (by kernel_rfl) rfl ?_;refine eM 8 511 (by kernel_rfl) rfl (aq (vs:=[_]) func87 rfl H.M7 rfl (ah.bw (wY (hg.ax (e02.trans egg)) (cV s t)))) ?_;rintro _ g3 ⟨rfl,e3'⟩;refine⟨fun _=>e3',?_⟩;refine eM 9 1023 (by kernel_rfl) rfl (aA.aX (us:=[_]) underlying38 H.MN rfl rfl (by decide) (by simp[Value.oneCell'])) ?_;rintro _ g4 ⟨rfl,hg4⟩;refine⟨fun _=>(by rw[hg4];exact Ext.push _ _ _),?_⟩;have e34:aD g3 g4:=by rw[hg4];exact Ext.push _ _ _
                 have e24:aD g2 g4:=e3'.trans e34;have hby:bX .byte g4 (fun _=>False) (.slice (some ⟨g3.size,0,none⟩) 1 1) [oL (cV s t)]:=by rw[hg4];exact Fu _
                 obtain⟨gb',gc',hgv',hgb',hgl',hgr',hgf',hgs'⟩:=lR.put (enc:=su) (fun _=>rfl) (how2.ax e24) hgu;obtain rfl:gb=gb':=by rw[hga] at hgv';cases hgv';rfl
                 have hbu:=bD u.2.1;refine bL 10 2047 (by kernel_rfl) rfl (fun h' e=>aj.yB underlying38 underlying5 underlying9 rfl (hby.ax e)) ?_;refine bL 11 4095 (by kernel_rfl) rfl (fun h' e=>aj.cx rfl rfl (by show (bs u.2.1).size+1<=_;omega)) ?_;refine eM 12 8191 (by kernel_rfl) rfl (aj.bw (aj.ay underlying111 H.kT rfl rfl pre.length (by omega) hga (by omega))) ?_;rintro _ hq_ ⟨rfl,hqe_⟩;replace hqe_:=hqe_.symm;subst hqe_;refine⟨fun _=>Ext.refl _ _,?_⟩;refine bL 13 16383 (by kernel_rfl) rfl (fun h' e=>af (off:=1) underlying188 rfl rfl H.fL rfl) ?_;refine mN 14 32767 (by kernel_rfl) rfl (cL H.fL rfl rfl rfl (hgr' 1 _ rfl) (hgf' _)) ?_;rintro _ g5 ⟨rfl,hg5⟩;refine⟨fun hk=>(nomatch hk),?_⟩
                 have hfin:lR 3 su g5 h2.size 188 (.slice oa out.length oc) (iQ [oL (cV s t)] out):=by
                  rw[hg5,<-hset];exact hgs' 1 _ _ (by decide) (by show [Value.int .i64 u.1,Value.string (bs u.2.1++⟨[oL (cV s t)].toArray⟩),Value.int .i64 u.2.2]=_;rw[show (⟨[oL (cV s t)].toArray⟩:ByteArray)=bs [oL (cV s t)] from rfl,dL];rfl)
                 have e25:aD h2 g5:=by rw[hg5];exact aD.set (egg.trans e24) hgb _
                 have hlena:(iQ [oL (cV s t)] out).length=out.length:=wH _ _;refine br (by kernel_rfl) ?_;refine xu [0,5,6,9,11,12,17,18,19,20,29,35,46] rfl ?_;refine bA rfl rfl ?_;refine G.cz func41 rfl ?_;refine xp rfl (aj.bE rfl rfl ⟨by omega,by omega⟩) ?_;refine aS 1 [0,5,6,9,11,12,17,18,19,20,29,35,46] rfl ?_;exact ih (i+1,iQ [oL (cV s t)] out,true,.slice oa out.length oc) _ _ ⟨rfl,rfl,rfl,rfl,rfl,rfl,rfl,trivial⟩ ⟨by show i+1<=ts.length;omega,e25,by have:=e25.size;omega,hfin,by rw[hstep,hu0] at htg;exact htg,by show (iQ _ out).length<=500;omega,fun _ q=>hne (List.eq_nil_of_length_eq_zero (hlena.symm.trans (congrArg List.length q))),hadl _ (by simp)⟩ (by show ts.length-(i+1)<ts.length-i;omega)
               · rw[if_neg c10] at hu0;refine aZ func41 2 [0,5,6,9,11,12,17,18,19,20,29,35,46,67] rfl ?_;refine aI rfl rfl (fun _=>?_) (fun hc=>absurd hc (by simp));have hbu:=bD u.2.1;have hbt:=bD (cV s t);refine bq func41 2 rfl ?_;refine xp rfl (aj.aJ underlying111 rfl) ?_;refine xp rfl (aj.jt rfl rfl ⟨by omega,by omega⟩) ?_;refine xp rfl (aj.ay underlying111 H.kT rfl rfl pre.length (by omega) hga (by omega)) ?_;refine xp rfl (af (off:=1) underlying188 rfl rfl H.fL rfl) ?_;refine xp rfl (ai H.gj rfl (hgr 1 _ rfl)) ?_;refine cD 1 rfl rfl (aj.cx rfl rfl (by omega)) ?_;refine xp rfl (aj.ay underlying111 H.kT rfl rfl pre.length (by omega) hga (by omega)) ?_;refine xp rfl (af (off:=1) underlying188 rfl rfl H.fL rfl) ?_;refine RW.cu rfl rfl rfl (cL H.fL rfl rfl rfl (hgr 1 _ rfl) (hgf _)) ?_;rintro _ g5 ⟨rfl,hg5⟩
                 have hfin:lR 3 su g5 h2.size 188 (.slice oa out.length oc) (iQ (cV s t) out):=by
                  rw[hg5,<-hset];exact hgs 1 _ _ (by decide) (by show [Value.int .i64 u.1,Value.string (bs u.2.1++bs (cV s t)),Value.int .i64 u.2.2]=_;rw[dL];rfl)
                 have e25:aD h2 g5:=hown _ _ hg5;have hlena:(iQ (cV s t) out).length=out.length:=wH _ _;refine xd [0,5,6,9,11,12,17,18,19,20,29,35,46,67] rfl ?_;refine bA rfl rfl ?_;refine G.cz func41 rfl ?_;refine xp rfl (aj.bE rfl rfl ⟨by omega,by omega⟩) ?_;refine aS 1 [0,5,6,9,11,12,17,18,19,20,29,35,46,67] rfl ?_;exact ih (i+1,iQ (cV s t) out,true,.slice oa out.length oc) _ _ ⟨rfl,rfl,rfl,rfl,rfl,rfl,rfl,trivial⟩ ⟨by show i+1<=ts.length;omega,e25,by have:=e25.size;omega,hfin,by rw[hstep,hu0] at htg;exact htg,by show (iQ _ out).length<=500;omega,fun _ q=>hne (List.eq_nil_of_length_eq_zero (hlena.symm.trans (congrArg List.length q))),hadl (cV s t) (by omega)⟩ (by show ts.length-(i+1)<ts.length-i;omega)
   · obtain rfl:i=ts.length:=by omega
     rw[List.drop_length] at htg;have htg:UR.go out op=tgt:=htg;rw[<-htg];dsimp only;refine bA rfl rfl ?_;refine av rfl ?_;refine av rfl ?_;refine G.bF [(114,.bool (decide (op=true\/st.1≠0)))] [(0,_),(5,_),(6,_),(9,_),(17,_),(18,_),(19,_),(20,_)] ⟨rfl,rfl,rfl,rfl,rfl,rfl,rfl,rfl,trivial⟩ func41 rfl ?_ ?_
     · rcases op with _|_
       · refine bh 2 rfl ?_;refine RW.dw (d:=110) (b':=false) rfl (rfl) ?_;refine xp rfl (af (off:=0) underlying41 rfl rfl H.cA rfl) ?_;refine xp rfl (ai H.de rfl ((k1.ax eg).cell (i:=0) rfl)) ?_;refine bh 2 rfl ?_;refine aE rfl ?_;exact⟨rfl,aF rfl (by simp),rfl,rfl,rfl,rfl,rfl,rfl,rfl,rfl,trivial⟩
       · refine bh 2 rfl ?_;refine RW.dw (d:=110) (b':=true) rfl (rfl) ?_;refine bh 4 rfl ?_;refine aE rfl ?_;exact⟨rfl,aF rfl (by simp),rfl,rfl,rfl,rfl,rfl,rfl,rfl,rfl,trivial⟩
     · refine aO rfl rfl (fun co=>?_) (fun co=>?_)
       · rw[if_pos co];refine bq func41 1 rfl ?_;refine xp rfl (aj.bM underlying9 rfl) ?_;refine aS 3 [0,5,6,7,8,9,17,18,19,20,114] rfl ?_;refine G.ret func41 rfl rfl ?_;have hbz:=bD s;exact⟨_,rfl,e02.trans eg,by rw[<-hbz];rfl⟩
       · rw[if_neg co];refine aC rfl ?_;refine aZ func41 4 [0,5,6,7,8,9,17,18,19,20,114] rfl ?_;refine G.ret func41 rfl rfl ?_;exact⟨_,rfl,e02.trans eg,hol,_,rfl,lR.read how (fun _ _ k=>k)⟩
theorem FU {out:List Un}{op:Bool}(h:fk s out op t= .er a e):e≠0:=by
 unfold fk at h;split at h
 · cases h;decide
 · split at h
   · split at h
     · cases h
     · split at h<;>cases h
   · split at h
     · cases h
     · split at h
       · cases h;decide
       · cases h
theorem AI {s:By}{a e:Int}:∀(l:List Tok) (out:List Un) (op:Bool),eo s l out op= .er a e->e≠0
 | [],_,_,h=>by cases h
 |t::l,out,op,h=>by
  rw[eo] at h;split at h
  · rename_i q;cases h;exact FU q
  · exact AI l _ _ h
theorem Ew {l:List Tok}{m:Int}(h:fP s l m= .inl (a,e)):e≠0:=by
 unfold fP at h;split at h
 · split at h
   · rename_i q;cases h;exact AI _ _ _ q
   · split at h
     · cases h;decide
     · cases h
 · cases h;decide
theorem Gq {us:List Un}{b:Bool}{m:Int}{s:PS}(h:NW us i b m s):(b=false->s.len=us.length-i)/\(b=true->s= .bad m)/\s.cn=b:=by
 cases s with
 |ok r=>obtain⟨rfl,rfl⟩:=h;exact⟨fun _=>by simp[PS.len],fun k=>(by cases k),rfl⟩
 |bad k=>obtain⟨rfl,rfl⟩:=h;exact⟨fun k=>(by cases k),fun _=>rfl,rfl⟩
theorem Ak {s:PS}(h:s.cn=true):s.len=0/\∀e,cY e s=s:=by cases s with|ok r=>cases h|bad m=>exact⟨rfl,fun _=>rfl⟩
theorem sY {n:Nat}{l:List Tr}{s:PS} {y} (h:cR e n l s=some y) (h0:s.len=0):y=(l,s):=by
 cases n with
 |zero=>cases h
 |succ n=>rw[cR,if_pos h0] at h;exact(Option.some.inj h).symm
def NV (c:PC) (hb g:az) (kv:Value) (l:List Tr) (s:PS):Prop :=
 rJ c g s/\Ext (fun b=>b=c.pb) hb g/\dH eN (fun b=>b<hb.size) g hb.size 25 kv l
theorem dH.lower {α:Type}{e:iA α}{O:Nat->Prop}{h:az}{base base':Nat}{t:TypeId}{v:Value}{xs:List α}(k:dH e O h base t v xs) (hb:base'<=base):dH e O h base' t v xs:=by
 obtain⟨css,h1,h2,h3⟩:=k;exact⟨css,h1,h2.lower hb,h3⟩
theorem Ch (hg:pJ h) (hv:bX JU h (fun _=>False) v ts) (s:By) (st:ur) (hb:ts.length*(s.length+2)<=1000000000000) (hsl:s.length<=1000000000000)
 {k:List Tr}(hP:cT s ts st.1 k a e) :
 ah Tryz.prog 23 #[.string (bs s),v,.agg (cO st).toArray] h (dh fun r h'=>aD h h'/\∃lv,r=packed [lv,.int .i64 a,.int .i64 e]/\dH eN (fun b=>b<h.size) h' h.size 25 lv k):=by
 have hbz:=bD s;refine ah.of func23 rfl rfl ?_;refine xr func23 rfl ?_;refine xo rfl (aA.gP rfl) ?_;rintro _ h1 ⟨rfl,k1,e1,z1⟩;have k1:bp h1 h.size 41 (cO st):=k1;have hun:=yJ (hg.ax e1) (hv.ax e1) s st hb hsl
 rcases hU:fP s ts st.1 with ⟨a1,c1⟩|us
 · rw[hU] at hun;have hce:=Ew hU
   obtain⟨rfl,rfl,rfl⟩:k=[]/\a=a1/\e=c1:=by
    cases hP with
    |units h=>rw[hU] at h;cases h;exact⟨rfl,rfl,rfl⟩
    |bad h _=>rw[hU] at h;cases h
    |ok h _=>rw[hU] at h;cases h
   refine aS 3 [0,1,2,5,6,7,8] rfl ?_;refine bq func23 2 rfl ?_;refine xp rfl (aj.aH H.jq H.eW rfl k1.row (by first|rfl|(simp;done)|(simp;omega))) ?_;refine xo rfl (aq (vs:=[_,_,_]) func41 rfl H.LB rfl (ah.bw (hun))) ?_;rintro _ h2 ⟨e2,rfl⟩;refine aS 7 [0,1,2,5,6,7,8,9] rfl ?_;refine av rfl ?_;refine aZ func23 2 [0,1,2,5,6,7,8,9,22] rfl ?_;refine aI rfl rfl (fun _=>?_) (fun hc=>absurd hc (by simpa using hce));refine aZ func23 5 [0,1,2,5,6,7,8,9,22] rfl ?_;refine G.ret func23 rfl rfl ?_;exact⟨_,rfl,e1.trans e2,_,rfl,dH.nil _ _ _ _ _⟩
 · rw[hU] at hun
   obtain⟨n,K,F,hm,hend⟩:∃n K F,cR s.length n [] (.ok us)=some (K,F)/\(∀m,F= .bad m->k=[]/\a=m/\e=10)/\(F.cn=false->k=K/\a=0/\e=0):=by
    cases hP with
    |units h=>rw[hU] at h;cases h
    |bad h h2=>rw[hU] at h;cases h;exact⟨_,_,_,h2,fun m q=>by cases q;exact⟨rfl,rfl,rfl⟩,fun q=>by cases q⟩
    |ok h h2=>rw[hU] at h;cases h;exact⟨_,_,_,h2,fun m q=>(by cases q),fun _=>⟨rfl,rfl,rfl⟩⟩
   refine aS 3 [0,1,2,5,6,7,8] rfl ?_;refine bq func23 2 rfl ?_;refine xp rfl (aj.aH H.jq H.eW rfl k1.row (by first|rfl|(simp;done)|(simp;omega))) ?_;refine xo rfl (aq (vs:=[_,_,_]) func41 rfl H.LB rfl (ah.bw (hun))) ?_;rintro _ h2 ⟨e2,hu500,uv,rfl,huv⟩;refine aS 7 [0,1,2,5,6,7,8,9] rfl ?_;refine av rfl ?_;refine aZ func23 2 [0,1,2,5,6,7,8,9,22] rfl ?_;refine aI rfl rfl (fun hc=>absurd hc (by simp)) (fun _=>?_);obtain⟨ua,un,uc,rfl,huvs⟩:=huv.open;refine aC rfl ?_;refine bq func23 2 rfl ?_;refine xp rfl (aj.bM underlying9 rfl) ?_;refine xp rfl (aN (H.Fx _ _ _ _) rfl) ?_;refine xo rfl (aA.gP rfl) ?_;rintro _ h3 ⟨rfl,kp,e3,z3⟩;have kp:bp h3 h2.size 116 [.slice ua un uc,.int .i64 (0:Nat),.int .i64 (s.length:Nat),.bool false,.int .i64 0]:=by rw[hbz] at kp;exact kp
   have e13:aD h h3:=(e1.trans e2).trans e3;obtain⟨c,hc⟩:∃c:PC,c=⟨h2.size,.slice ua un uc,h3.size,us,s.length⟩:=⟨_,rfl⟩
   have hz13:=e13.size;have hz2:=e2.size;have hz1:=e1.size;have hpb:c.pb=h2.size:=by rw[hc]
   have hce:c.e=s.length:=by rw[hc]
   have hcu:c.us=us:=by rw[hc]
   have hst3:rJ c h3 (.ok us):=by
    rw[hc];exact⟨0,false,0,kp,huv.mv (Mv.dQ e3 fun b hb _=>⟨fun k=>k,fun q=>by have:=e3.size;dsimp only at q;omega⟩),Nat.zero_le _,⟨rfl,rfl⟩,by show h2.size<h3.size;omega,Nat.le_refl _,by show us.length<=1000;omega⟩
   rw[<-hce] at hm;have hI3:NV c h3 h3 (.slice none 0 0) [] (.ok us):=⟨hst3,Ext.refl _ _,dH.nil _ _ _ _ _⟩
   rw[<-hpb];refine aS 1 [0,1,2,5,6,7,8,9,10,22] rfl ?_;refine av rfl ?_;refine G.block rfl rfl ?_;refine bG (σ:=Nat×List Tr×Value×PS) (fun w=>[(6,w.2.2.1),(10,ptr c.pb)]) (fun w g=>NV c h3 g w.2.2.1 w.2.1 w.2.2.2/\(w.2.2.2.cn=true->w.2.2.2=F)/\(w.2.2.2.cn=false->cR c.e w.1 w.2.1 w.2.2.2=some (K,F)/\w.2.1.length+w.2.2.2.len<=us.length)) (fun w=>w.1) ((n,[],.slice none 0 0,.ok us)) rfl ⟨rfl,rfl,trivial⟩ ⟨hI3,fun q=>(by cases q),fun _=>⟨hm,by simp[PS.len]⟩⟩ ?_;rintro⟨m,l,kv,sI⟩ g ⟨⟨hst,xg,how⟩,hbad,hok⟩ ih
   try dsimp only
   dsimp only at hst how hbad hok;obtain⟨pi,pbb,pm,pk,psl,pil,ps,_⟩:=id hst;obtain⟨pl1,pl2,pl3⟩:=Gq ps;rw[hcu] at pl1;have hpil:pi<=us.length:=by rw[<-hcu];exact pil
   have hlv:c.lv= .slice ua us.length uc:=by rw[hc];have:=huvs.len;subst this;rfl
   rw[hlv] at pk;have hsize:c.pb<h3.size:=by rw[hpb];omega
   have how0:aQ g h3.size 25 3 kv l.length _:=(how.own).choose_spec;obtain⟨ka,kc,rfl,_⟩:=how0.open;have kown:∀b,(Value.slice ka l.length kc).ownBlock=some b->h3.size<=b/\b<g.size:=fun b q=>how0.lt q
   refine av rfl ?_;refine av rfl ?_;refine G.zX [(46,.bool (decide (sI.len≠0)))] [(6,_),(10,_)] ⟨rfl,rfl,trivial⟩ (fun b=>Array.size g<=b) (fun i=>Nat.blt i 17) (sz:=17) (listed:= #[false,false,false,false,false,false,false,false,false,false,false,false,false,false,false,false,false]) func23 H.mixed rfl rfl rfl ?_ ?_
   · refine cg 0 1 (by kernel_rfl) rfl ?_;refine cg 1 3 (by kernel_rfl) rfl ?_;refine bL 2 7 (by kernel_rfl) rfl (fun h' e=>af (off:=1) underlying116 rfl rfl H.cA rfl) ?_;refine bL 3 15 (by kernel_rfl) rfl (fun h' e=>ai H.de rfl (e.old (pk.cell (i:=1) rfl))) ?_;refine cg 4 31 (by kernel_rfl) rfl ?_;refine cg 5 63 (by kernel_rfl) rfl ?_;refine bL 6 127 (by kernel_rfl) rfl (fun h' e=>af (off:=0) underlying116 rfl rfl H.js rfl) ?_;refine bL 7 255 (by kernel_rfl) rfl (fun h' e=>ai H.jA rfl (e.old (pk.cell (i:=0) rfl))) ?_;refine bL 8 511 (by kernel_rfl) rfl (fun h' e=>aj.aJ underlying111 rfl) ?_;refine cg 9 1023 (by kernel_rfl) rfl ?_;refine cg 10 2047 (by kernel_rfl) rfl ?_;refine Cb (d:=40) rfl (fun g1=>?_) (fun g1=>?_)
     · have g1:=of_decide_eq_true g1;refine cg 11 4095 (by kernel_rfl) rfl ?_;refine cg 12 8191 (by kernel_rfl) rfl ?_;refine bL 13 16383 (by kernel_rfl) rfl (fun h' e=>af (off:=3) underlying116 rfl rfl H.mX rfl) ?_;refine bL 14 32767 (by kernel_rfl) rfl (fun h' e=>ai H.wE rfl (e.old (pk.cell (i:=3) rfl))) ?_;refine cg 15 65535 (by kernel_rfl) rfl ?_;refine cg 16 131071 (by kernel_rfl) rfl ?_;refine br (by kernel_rfl) ?_;exact⟨rfl,aF rfl (by cases pbb with|true=>rw[pl2 rfl];rfl|false=>rw[pl1 rfl,decide_eq_true (by omega)];rfl),rfl,rfl,trivial⟩
     · have g1:=of_decide_eq_false g1;refine oH 11 4095 (by kernel_rfl) rfl ?_;refine oH 12 8191 (by kernel_rfl) rfl ?_;refine oH 13 16383 (by kernel_rfl) rfl ?_;refine oH 14 32767 (by kernel_rfl) rfl ?_;refine oH 15 65535 (by kernel_rfl) rfl ?_;refine cg 16 131071 (by kernel_rfl) rfl ?_;refine br (by kernel_rfl) ?_;exact⟨rfl,aF rfl (by cases pbb with|true=>rw[pl2 rfl];rfl|false=>rw[pl1 rfl,decide_eq_false (by omega)]),rfl,rfl,trivial⟩
   · refine aO rfl rfl (fun hgo=>?_) (fun hgo=>?_)
     · obtain⟨r,hr⟩:∃r,sI= .ok r:=by cases sI with|ok r=>exact⟨r,rfl⟩|bad q=>exact absurd rfl hgo
       obtain⟨hm,hll⟩:=hok (by rw[hr];rfl);obtain⟨m,rfl⟩:∃m',m=m'+1:=by cases m with|zero=>cases hm|succ m=>exact⟨m,rfl⟩
       rw[cR,if_neg hgo] at hm
       rcases hv1:pM c.e m .stmt sI with _|⟨tv,s2⟩
       rw[hv1] at hm;cases hm;rw[hv1] at hm;simp only[Option.bind_some] at hm;have hvl:=iK hv1;refine aC rfl ?_;refine G.block rfl rfl ?_;refine bq func23 2 rfl ?_;refine xo rfl (aq (vs:=[_]) func42 rfl H.LA rfl (ah.bw ((Iq m).stmt _ _ _ _ _ hst hv1))) ?_;rintro r6 h6 ⟨y6,hp6,t6,hn6,ht6⟩;have z6:=y6.size;obtain⟨mk,mt,ma,mn,mc,rfl,hr6⟩:=hn6.get;have ho6:=how.pV y6 (fun b q q2=>by have:=kown b q;omega) (fun b hb q=>by omega) (fun _ _ q=>q);obtain⟨css,hc1,hc2,hc3⟩:=id ho6;refine xo rfl (aA.cE (cs:=[_,_,_]) underlying23 H.ir rfl rfl (by decide)) ?_;rintro _ _ ⟨rfl,rfl⟩;refine xo rfl (aA.bS underlying23 H.ir rfl rfl (hc2) rfl rfl (by first|decide|simp[Value.oneCell']) (by omega) (by decide) (by omega)) ?_;rintro v7 h7 ⟨ho7,hx7,hx7',hv7⟩;have z7:=hx7.size
       have hr6':eN.R h6 (fun b=>dB (Value.slice ka l.length kc).ownBlock b\/b<h3.size) [.int .i64 mk,.string (bs mt),.slice ma mn mc] t6:=bW hr6 (Ext.refl (fun _=>False) _) (fun b hb q=>⟨fun k=>k,fun q2=>by
        rcases q2 with q2|q2
        · have:=kown _ q2.symm;omega
        · have:=xg.size;omega⟩)
       have ho7x:dH eN (fun b=>b<h3.size) h7 h3.size 25 v7 (l++[t6]):=dH.gF hc1 hc3 ho7 hx7 hv7 hr6';have hst7:rJ c h7 s2:=hp6.ext hx7 (fun b hb q=>by have:=kown _ q.symm;rw[hc] at hb;dsimp only at hb;omega);have x7:Ext (fun b=>b=c.pb) h3 h7:=(xg.trans y6).fM hx7 (fun i hi q=>by have:=kown _ q.symm;omega);refine aS 1 [6,10,46] rfl ?_;refine bq func23 1 rfl ?_;refine xo rfl (aA.aX (us:=[_]) underlying87 H.sv rfl rfl (by decide) (by simp[Value.oneCell'])) ?_;rintro _ w9 ⟨rfl,hw9⟩;have y9:aD h7 w9:=by rw[hw9];exact Ext.push _ _ _
       have ts9:bX oB w9 (fun _=>False) (.slice (some ⟨Array.size h7,0,none⟩) 1 1) [[59]]:=by rw[hw9];exact cm _ [[59]] _ rfl (by simp[maxLen]) rfl
       refine xo rfl (aq (vs:=[_,_,_]) func43 rfl H.jQ rfl (ah.bw (cj ((hst7).ax y9) 6 ts9))) ?_;rintro _ h9 ⟨rfl,hp9,x9⟩;have x9:=y9.of.trans x9
       rcases hq9:bP 6 [[59]] s2 with ⟨o9,s9⟩
       rw[hq9] at hp9 hm;have hp9:rJ c h9 s9:=hp9;have how9:=ho7x.pV x9 (fun b q q2=>by have:=ho7.lt q;omega) (fun b hb q=>by omega) (fun _ _ q=>q);have x39:=x7.trans x9;have hgood:∀sN:PS,(sN.cn=false->s9.cn=false)->sN.cn=false->t6=tv:=fun sN q1 q2=>ht6 (bz hq9 (q1 q2))
       have hfinB:∀sN:PS,cR c.e m (l++[tv]) sN=some (K,F)->sN.cn=true->sN=F:=fun sN q1 q2=>by have:=sY q1 (Ak q2).1;cases this;rfl
       rcases o9 with _|w9
       · simp only at hm;have e9:=aW hq9;obtain⟨qi,qbb,qm,qk,qsl,qil,qs,_⟩:=(show rJ c h9 s9 from hp9)
         obtain⟨ql1,ql2,ql3⟩:=Gq qs;rw[hcu] at ql1;rw[hlv] at qk;refine aS 5 [6,10,12,46] rfl ?_;refine av rfl ?_;refine G.zX [(71,.bool (decide (qi<us.length)))] [(6,_),(10,_),(12,_),(46,_)] ⟨rfl,rfl,rfl,rfl,trivial⟩ (fun b=>Array.size h9<=b) (fun i=>Nat.blt i 14) (sz:=14) (listed:= #[false,false,false,false,false,false,false,false,false,false,false,false,false,false]) func23 H.mixed rfl rfl rfl ?_ ?_
         · refine cg 0 1 (by kernel_rfl) rfl ?_;refine cg 1 3 (by kernel_rfl) rfl ?_;refine cg 2 7 (by kernel_rfl) rfl ?_;refine RD.dw (d:=60) (b':=true) rfl (rfl) ?_;refine cg 3 15 (by kernel_rfl) rfl ?_;refine cg 4 31 (by kernel_rfl) rfl ?_;refine bL 5 63 (by kernel_rfl) rfl (fun h' e=>af (off:=1) underlying116 rfl rfl H.cA rfl) ?_;refine bL 6 127 (by kernel_rfl) rfl (fun h' e=>ai H.de rfl (e.old (qk.cell (i:=1) rfl))) ?_;refine cg 7 255 (by kernel_rfl) rfl ?_;refine cg 8 511 (by kernel_rfl) rfl ?_;refine bL 9 1023 (by kernel_rfl) rfl (fun h' e=>af (off:=0) underlying116 rfl rfl H.js rfl) ?_;refine bL 10 2047 (by kernel_rfl) rfl (fun h' e=>ai H.jA rfl (e.old (qk.cell (i:=0) rfl))) ?_;refine bL 11 4095 (by kernel_rfl) rfl (fun h' e=>aj.aJ underlying111 rfl) ?_;refine cg 12 8191 (by kernel_rfl) rfl ?_;refine cg 13 16383 (by kernel_rfl) rfl ?_;refine br (by kernel_rfl) ?_;exact⟨rfl,aF rfl (by rw[decide_eq_decide];omega),rfl,rfl,rfl,rfl,trivial⟩
         · refine aO rfl rfl (fun hgo2=>?_) (fun hgo2=>?_)
           · have hsN:(if s9.len=0 then s9 else cY c.e s9)=cY c.e s9:=by
              split
              · rename_i q;cases qbb with
                |true=>exact((Ak ql3).2 _).symm
                |false=>have:=ql1 rfl;omega
              · rfl
             rw[hsN] at hm;have hfb:(cY c.e s9).cn=true:=by obtain⟨q,hq⟩:=yA c.e s9;rw[hq];rfl
             refine G.cz func23 rfl ?_;refine bh 1 rfl ?_;refine xo rfl (aq (vs:=[_]) func44 rfl H.xm rfl (ah.bw (eX hp9))) ?_;rintro _ h10 ⟨rfl,hp10,x10⟩;have how10:=how9.pV x10 (fun b q q2=>by have:=ho7.lt q;omega) (fun b hb q=>by omega) (fun _ _ q=>q);refine xd [6,10,12,46,71] rfl ?_;refine G.aR ?_;exact ih (m,l++[t6],v7,cY c.e s9) _ _ ⟨rfl,rfl,trivial⟩ ⟨⟨hp10,x39.trans x10,how10⟩,fun q=>hfinB _ hm q,fun q=>(by have q:(cY c.e s9).cn=false:=q;rw[hfb] at q;cases q)⟩ (Nat.lt_succ_self _)
           · have hs0:s9.len=0:=by
              cases qbb with
              |true=>exact(Ak ql3).1
              |false=>have:=ql1 rfl;omega
             rw[if_pos hs0] at hm;refine aC rfl ?_;refine G.aR ?_;exact ih (m,l++[t6],v7,s9) _ _ ⟨rfl,rfl,trivial⟩ ⟨⟨hp9,x39,how9⟩,fun q=>hfinB _ hm q,fun q=>⟨by dsimp only;rw[hgood s9 id q];exact hm,by dsimp only;rw[List.length_append,List.length_singleton,hs0];omega⟩⟩ (Nat.lt_succ_self _)
       · simp only at hm;have hl9:=cS hq9;refine aS 5 [6,10,12,46] rfl ?_;refine av rfl ?_;refine G.zX [(71,.bool false)] [(6,_),(10,_),(12,_),(46,_)] ⟨rfl,rfl,rfl,rfl,trivial⟩ (fun b=>Array.size h9<=b) (fun i=>Nat.blt i 14) (sz:=14) (listed:= #[false,false,false,false,false,false,false,false,false,false,false,false,false,false]) func23 H.mixed rfl rfl rfl ?_ ?_
         · refine cg 0 1 (by kernel_rfl) rfl ?_;refine cg 1 3 (by kernel_rfl) rfl ?_;refine cg 2 7 (by kernel_rfl) rfl ?_;refine RD.dw (d:=60) (b':=false) rfl (rfl) ?_;refine oH 3 15 (by kernel_rfl) rfl ?_;refine oH 4 31 (by kernel_rfl) rfl ?_;refine oH 5 63 (by kernel_rfl) rfl ?_;refine oH 6 127 (by kernel_rfl) rfl ?_;refine oH 7 255 (by kernel_rfl) rfl ?_;refine oH 8 511 (by kernel_rfl) rfl ?_;refine oH 9 1023 (by kernel_rfl) rfl ?_;refine oH 10 2047 (by kernel_rfl) rfl ?_;refine oH 11 4095 (by kernel_rfl) rfl ?_;refine oH 12 8191 (by kernel_rfl) rfl ?_;refine cg 13 16383 (by kernel_rfl) rfl ?_;refine br (by kernel_rfl) ?_;exact⟨rfl,aF rfl (rfl),rfl,rfl,rfl,rfl,trivial⟩
         · refine aI rfl rfl (fun hc=>absurd hc (by simp)) (fun _=>?_);refine aC rfl ?_;refine G.aR ?_;exact ih (m,l++[t6],v7,s9) _ _ ⟨rfl,rfl,trivial⟩ ⟨⟨hp9,x39,how9⟩,fun q=>hfinB _ hm q,fun q=>⟨by dsimp only;rw[hgood s9 id q];exact hm,by dsimp only;rw[List.length_append,List.length_singleton];omega⟩⟩ (Nat.lt_succ_self _)
     · have h0:sI.len=0:=by simpa using hgo
       refine bA rfl rfl ?_;refine av rfl ?_;refine bq func23 2 rfl ?_;refine xp rfl (af (off:=3) underlying116 rfl rfl H.mX rfl) ?_;refine xp rfl (ai H.wE rfl (pk.cell (i:=3) rfl)) ?_;refine xd [6,10,46,77] rfl ?_
       rcases pbb with _|_
       · refine aI rfl rfl (fun hc=>absurd hc (by simp)) (fun _=>?_);obtain⟨r,hr⟩:∃r,sI= .ok r:=by cases sI with|ok r=>exact⟨r,rfl⟩|bad q=>cases pl3
         obtain⟨hm,hll⟩:=hok (by rw[hr];rfl);have hz:=sY hm h0;obtain⟨rfl,rfl,rfl⟩:=hend.2 (by cases hz;rw[hr];rfl);have hKl:k=l:=by cases hz;rfl
         refine aC rfl ?_;refine aZ func23 4 [6,7,8,10,46,77] rfl ?_;refine G.ret func23 rfl rfl ?_;exact⟨_,rfl,aD.only e13 xg (by omega),_,rfl,by rw[hKl];exact(dH.lower how (by omega)).pV (Ext.refl (fun _=>False) _) (fun _ _ q=>q) (fun _ _ q=>q.elim) (fun b hb q=>by omega)⟩
       · have hF:F= .bad pm:=by rw[<-hbad pl3];exact pl2 rfl
         obtain⟨rfl,rfl,rfl⟩:=hend.1 pm hF;refine aI rfl rfl (fun _=>?_) (fun hc=>absurd hc (by simp));refine av rfl ?_;refine G.eY func23 H.mixed rfl (by kernel_rfl) ?_;refine RQ.au rfl rfl rfl rfl (aL rfl) ?_;refine RQ.au rfl rfl rfl rfl (aM rfl) ?_;refine RQ.au rfl rfl rfl rfl (af (off:=4) underlying116 rfl rfl H.cA rfl) ?_;refine RQ.au rfl rfl rfl rfl (ai H.de rfl (pk.cell (i:=4) rfl)) ?_;refine RQ.au rfl rfl rfl rfl (aj.assign rfl) ?_;refine RQ.au rfl rfl rfl rfl (aj.assign rfl) ?_;refine RQ.au rfl rfl rfl rfl (aj.assign rfl) ?_;refine cP rfl ?_;refine xu [6,7,8,10,46,77] rfl ?_;refine G.ret func23 rfl rfl ?_;exact⟨_,rfl,aD.only e13 xg (by omega),_,rfl,dH.nil _ _ _ _ _⟩
theorem Es:(Tryz.prog.info? 5).map (·.size)=some 1:=by kernel_rfl
theorem C3 {p:Value}(hk:bp h b 205 [p,.slice none 0 0]) (n:Nat) (hn:n<=1000000000) :
 ah Tryz.prog 143 #[.pointer (some ⟨b,0,none⟩),.int .i64 (n:Nat)] h (dh fun _ h'=>(∃v,bp h' b 205 [p,v]/\Dt h' (b+1) 5 v [])/\Ext (fun x=>x=b) h h'/\h.size<=h'.size):=by
 have hkl:=hk.lt;have hc1:=hk.cell (i:=1) rfl;refine ah.of func143 rfl rfl ?_;refine av rfl ?_;refine b6 (fun x=>Array.size h<=x) (fun i=>Nat.blt i 16) (sz:=16) (listed:= #[false,false,false,false,false,false,false,false,false,false,false,false,false,false,false,false]) func143 H.mixed rfl rfl rfl ?_;refine cg 0 1 (by kernel_rfl) rfl ?_;refine cg 1 3 (by kernel_rfl) rfl ?_;refine bL 2 7 (by kernel_rfl) rfl (fun h' e=>af (off:=1) underlying205 rfl rfl H.pP rfl) ?_;refine bL 3 15 (by kernel_rfl) rfl (fun h' e=>ai H.Am rfl (e.cell (show ¬Array.size h<=b by omega) hc1)) ?_;refine bL 4 31 (by kernel_rfl) rfl (fun h' e=>aj.BX underlying38 rfl) ?_;refine bL 5 63 (by kernel_rfl) rfl (fun h' e=>aj.JO rfl rfl ⟨by omega,by omega⟩) ?_;refine cg 6 127 (by kernel_rfl) rfl ?_;refine bL 7 255 (by kernel_rfl) rfl (fun h' e=>aj.bE rfl rfl ⟨by omega,by omega⟩) ?_;refine cg 9 767 (by kernel_rfl) rfl ?_;refine cg 10 1791 (by kernel_rfl) rfl ?_;refine bL 11 3839 (by kernel_rfl) rfl (fun h' e=>af (off:=1) underlying205 rfl rfl H.pP rfl) ?_;refine bL 12 7935 (by kernel_rfl) rfl (fun h' e=>ai H.Am rfl (e.cell (show ¬Array.size h<=b by omega) hc1)) ?_;refine bL 13 16127 (by kernel_rfl) rfl (fun h' e=>aj.aJ underlying38 rfl) ?_;refine eM 8 16383 (by kernel_rfl) rfl (aA.makeNoZero (ps:=_) (t:=38) func171 (by decide +kernel) (by kernel_rfl) (by kernel_rfl) rfl underlying38 rfl n (by omega) hn) ?_;rintro _ h1 ⟨cs,rfl,hh1,hn1,hn2⟩;refine⟨fun _=>by rw[hh1];exact Ext.push _ _ _,?_⟩;refine bL 14 32767 (by kernel_rfl) rfl (fun h' e=>aj.lW underlying38 H.KX rfl rfl 0 rfl (Nat.zero_le _)) ?_;refine cg 15 65535 (by kernel_rfl) rfl ?_;refine br (by kernel_rfl) ?_;refine xu [0,1,4] rfl ?_;refine bq func143 3 rfl ?_;refine xp rfl (af (off:=1) underlying205 rfl rfl H.pP rfl) ?_;have e1:aD h h1:=by rw[hh1];exact Ext.push _ _ _
 have k1:=hk.ax e1
 have ho:Dt h1 (b+1) 5 (.slice (dy (some ⟨h.size,0,none⟩) 0 1 cs.size) 0 cs.size) []:=by
  have hp:dy (some ⟨h.size,0,none⟩) 0 1 cs.size=some ⟨h.size,0,none⟩:=by
   unfold dy;split
   · rfl
   · rfl
  rw[hp];exact⟨rfl,.inr ⟨h.size,cs.size,cs,rfl,hkl,by rw[hh1];simp,Nat.zero_le _,hn2,by simp,by simp⟩⟩
 refine xp rfl (ai H.Am rfl (k1.cell (i:=1) rfl)) ?_;refine xp rfl (aj.HC underlying38 Es rfl rfl rfl) ?_;refine xd [0,1,4] rfl ?_;refine G.cz func143 rfl ?_;refine cD 3 rfl rfl (af (off:=1) underlying205 rfl rfl H.pP rfl) ?_;refine RW.cu rfl rfl rfl (aA.bB H.pP rfl rfl k1 (by first|decide|exact of_decide_eq_true rfl|(simp;done)|(simp;omega)) rfl) ?_;rintro _ h2 ⟨rfl,k2,x2,z2⟩;refine xd [0,1,4] rfl ?_;refine G.vS func143 rfl ?_;have z1:=e1.size;refine⟨_,rfl,⟨_,k2,aQ.ext x2 ho (fun g hg=>?_)⟩,?_,by omega⟩
 · have:=(aQ.lt ho hg).1;omega
 · exact(e1.mono (fun _ _ k=>k.elim)).trans x2
theorem Dy (hk:bp h b 205 [.pointer none,.slice none 0 0]) (n:Nat) (hn:n<=1000000000) :
 ah Tryz.prog 106 #[.pointer (some ⟨b,0,none⟩),.int .i64 (n:Nat)] h (dh fun _ h'=>kP h' b 205 5 []/\Ext (fun x=>x=b) h h'):=by
 refine ah.of func106 rfl rfl ?_;refine bq func106 1 rfl ?_;refine xo rfl (aq (vs:=[_]) func141 rfl H.GO rfl (ah.bw (jo hk (.inl rfl)))) ?_;rintro _ h1 ⟨k1,x1,z1⟩;refine xd [0,1] rfl ?_;refine av rfl ?_;refine aZ func106 2 [0,1,7] rfl ?_;refine aI rfl rfl (fun hc=>absurd hc (by simp)) (fun _=>?_);refine aC rfl ?_;refine av rfl ?_;refine b6 (fun _=>False) (fun i=>Nat.blt i 13) (sz:=13) (listed:= #[false,false,false,false,false,false,false,false,false,false,false,false,false]) func106 H.mixed rfl rfl rfl ?_;refine cg 0 1 (by kernel_rfl) rfl ?_;refine cg 1 3 (by kernel_rfl) rfl ?_;refine bL 2 7 (by kernel_rfl) rfl (fun h' e=>af (off:=1) underlying205 rfl rfl H.pP rfl) ?_;refine bL 3 15 (by kernel_rfl) rfl (fun h' e=>ai H.Am rfl (e.cell (fun q=>q) (k1.cell (i:=1) rfl))) ?_;refine bL 4 31 (by kernel_rfl) rfl (fun h' e=>aj.BX underlying38 rfl) ?_;refine cg 5 63 (by kernel_rfl) rfl ?_;refine cg 6 127 (by kernel_rfl) rfl ?_;refine bL 7 255 (by kernel_rfl) rfl (fun h' e=>af (off:=1) underlying205 rfl rfl H.pP rfl) ?_;refine bL 8 511 (by kernel_rfl) rfl (fun h' e=>ai H.Am rfl (e.cell (fun q=>q) (k1.cell (i:=1) rfl))) ?_;refine bL 9 1023 (by kernel_rfl) rfl (fun h' e=>aj.aJ underlying38 rfl) ?_;refine bL 10 2047 (by kernel_rfl) rfl (fun h' e=>aj.jt rfl rfl ⟨by omega,by omega⟩) ?_;refine cg 11 4095 (by kernel_rfl) rfl ?_;refine cg 12 8191 (by kernel_rfl) rfl ?_;refine br (by kernel_rfl) ?_;refine xu [0,1,7,21] rfl ?_;refine aO rfl rfl (fun hlt=>?_) (fun hlt=>?_)
 · refine G.cz func106 rfl ?_;refine bh 2 rfl ?_;refine xo rfl (aq (vs:=[_,_]) func143 rfl H.LS rfl (ah.bw (C3 k1 n hn))) ?_;rintro _ h2 ⟨⟨v,k2,ho⟩,x2,z2⟩;refine xd [0,1,7,21] rfl ?_;refine G.vS func106 rfl ?_;exact⟨_,rfl,⟨_,_,k2,.inr rfl,ho⟩,x1.trans x2⟩
 · refine aC rfl ?_;refine G.vS func106 rfl ?_;exact⟨_,rfl,⟨_,_,k1,.inr rfl,cZ.nil _ _ _ _⟩,x1⟩
def kX (ws:List By):Nat:=(ws.map List.length).sum
theorem EC {ws:List By}{w:By}(h:ws[i]? =some w):kX (ws.take (i+1))=kX (ws.take i)+w.length:=by
 unfold kX;rw[List.take_add_one,h];simp
theorem mw (x:By):∀l:List By,eR (x::l)=x++l.flatMap fun y=>(59:UInt8)::32::y
 | []=>by simp[eR]
 |y::l=>by rw[eR,mw y l,List.flatMap_cons];rfl
theorem yu:∀ws:List By,(eR ws).length=kX ws+2*(ws.length-1)
 | []=>rfl
 |x::xs=>by
  have:∀l:List By,(l.flatMap fun y=>(59:UInt8)::32::y).length=kX l+2*l.length:=by
   intro l
   induction l with
   |nil=>rfl
   |cons y l ih=>rw[List.flatMap_cons,List.length_append,ih];simp[kX];omega
  rw[mw,List.length_append,this];simp[kX];omega
theorem yU (ws:List By) (i:Nat):kX (ws.take i)<=kX ws:=by
 have:kX (ws.take i++ws.drop i)=kX (ws.take i)+kX (ws.drop i):=by unfold kX;rw[List.map_append,List.sum_append]
 rw[List.take_append_drop] at this;omega
theorem Dx {O:Nat->Prop}{ws:List By}(hv:bX oB h O v ws) (hb:(eR ws).length<=100000000) :
 ah Tryz.prog 60 #[v,.string (bs [59,32])] h (dh fun r h'=>r= .string (bs (eR ws))/\aD h h'):=by
 obtain⟨oa,n,c,rfl,hsl⟩:=hv.open;have hn:=hsl.len;subst hn;have hjl:=yu ws;have h32:(bs [59,32]).size=2:=rfl;refine ah.of func60 rfl rfl ?_;refine aZ func60 1 [0,1,4] rfl ?_;refine av rfl ?_;refine bq func60 1 rfl ?_;refine xp rfl (aj.aJ underlying87 rfl) ?_;refine xd [0,1,4,12] rfl ?_;refine G.block rfl rfl ?_;refine aZ func60 2 [0,1,4,12,13] rfl ?_;refine aO rfl rfl (fun h0=>?_) (fun h0=>?_)
 · have:ws=[]:=List.eq_nil_of_length_eq_zero (by omega);subst this;refine aZ func60 1 [0,1,4,12,13] rfl ?_;refine G.ret func60 rfl rfl ?_;exact⟨_,rfl,rfl,Ext.refl _ _⟩
 · refine aZ func60 2 [0,1,4,12,13,15] rfl ?_;refine aO rfl rfl (fun h1=>?_) (fun h1=>?_)
   · obtain⟨x,rfl⟩:∃x,ws=[x]:=List.length_eq_one_iff.1 (by omega);obtain⟨b,o,y,ha,_,hy,hc⟩:=hsl.at (show 0 < [x].length from Nat.one_pos);cases hy;refine bq func60 1 rfl ?_;refine xp rfl (aj.ay underlying87 H.fL rfl rfl 0 rfl ha Nat.one_pos) ?_;refine xp rfl (ai H.gj rfl hc) ?_;refine aS 1 [0,1,4,12,13,15] rfl ?_;refine G.ret func60 rfl rfl ?_;exact⟨_,rfl,rfl,Ext.refl _ _⟩
   · refine aC rfl ?_;refine G.aR ?_;refine aZ func60 1 [0,1,4,5,12,13,15] rfl ?_;refine av rfl ?_;refine bq func60 1 rfl ?_;refine xp rfl (aj.bM underlying9 rfl) ?_;refine aS 1 [0,1,4,5,12,13,15,22] rfl ?_;refine aI rfl rfl (fun _=>?_) (fun hc=>absurd hc (by decide))
     have hq:((9223372036854775807:Int).tdiv ((ws.length:Int)-1))>=3:=by
      rw[Int.tdiv_eq_ediv_of_nonneg (by decide)];exact(Int.le_ediv_iff_mul_le (by omega)).2 (by omega)
     have hq2:((9223372036854775807:Int).tdiv ((ws.length:Int)-1))<=9223372036854775807:=by
      rw[Int.tdiv_eq_ediv_of_nonneg (by decide)];exact Int.ediv_le_self _ (by decide)
     have hq3:IntKind.i64.wrap ((9223372036854775807:Int).tdiv ((ws.length:Int)-1))=((9223372036854775807:Int).tdiv ((ws.length:Int)-1)):=wrap_i64 ⟨by omega,by omega⟩;refine av rfl ?_;refine bq func60 1 rfl ?_;refine xp rfl (aj.bM underlying9 rfl) ?_;refine cD 1 rfl rfl (aj.aJ underlying87 rfl) ?_;refine xp rfl (aj.jt rfl rfl ⟨by omega,by omega⟩) ?_;refine xp rfl (Ap rfl rfl (by omega)) ?_;refine aS 1 [0,1,4,5,12,13,15,22,29] rfl ?_;refine aI rfl rfl (fun hc=>absurd hc (by rw[hq3];simp;omega)) (fun _=>?_);refine aC rfl ?_;refine G.cz func60 rfl ?_;refine cD 2 rfl rfl (aj.bM underlying9 rfl) ?_;refine cD 1 rfl rfl (aj.aJ underlying87 rfl) ?_;refine xp rfl (aj.jt rfl rfl ⟨by omega,by omega⟩) ?_;refine xp rfl (aj.JO rfl rfl ⟨by rw[h32];omega,by rw[h32];omega⟩) ?_;refine xp rfl (aj.bE rfl rfl ⟨by rw[h32];omega,by rw[h32];omega⟩) ?_;refine aS 1 [0,1,4,5,12,13,15,22,29] rfl ?_;refine av rfl ?_;refine bq func60 1 rfl ?_;refine xp rfl (aj.aJ underlying87 rfl) ?_;refine aS 1 [0,1,4,5,12,13,15,22,29,39,40,41] rfl ?_;refine G.block rfl rfl ?_;rw[show (0:Int)+((bs [59,32]).size:Int)*((ws.length:Int)-1)=((2*(ws.length-1)+kX (ws.take 0):Nat):Int) by rw[h32,List.take_zero];show _=((2*(ws.length-1)+0:Nat):Int);omega];refine bG (σ:=Nat) (fun i=>[(0,.slice oa ws.length c),(1,.string (bs [59,32])),(5,.int .i64 ((2*(ws.length-1)+kX (ws.take i):Nat):Int)),(39,.slice oa ws.length c),(40,.int .i64 (ws.length:Nat)),(41,.int .i64 (i:Nat))]) (fun i h'=>i<=ws.length/\h'=h) (fun i=>ws.length-i) (0) rfl ⟨rfl,rfl,rfl,rfl,rfl,rfl,trivial⟩ ⟨Nat.zero_le _,rfl⟩ ?_;rintro i g ⟨hi,hg⟩ ih;subst hg;have hsle:=yU ws (i+1);refine aZ func60 1 [0,1,5,39,40,41,42] rfl ?_;refine av rfl ?_;refine aO rfl rfl (fun hlt=>?_) (fun hlt=>?_)
     · have hil:i<ws.length:=by omega
       obtain⟨w,hw⟩:∃w,ws[i]? =some w:=⟨_,List.getElem?_eq_getElem hil⟩
       have hst:=EC hw;have hwz:=bD w;obtain⟨b,o,y,ha,_,hy,hc⟩:=hsl.at hil;rw[hw] at hy;cases hy;refine aC rfl ?_;refine av rfl ?_;refine G.block rfl rfl ?_;refine xr func60 rfl ?_;refine xp rfl (aj.ay underlying87 H.fL rfl rfl i rfl ha (by omega)) ?_;refine xp rfl (ai H.gj rfl hc) ?_;refine aS 1 [0,1,5,7,39,40,41,42] rfl ?_;refine av rfl ?_;refine bq func60 1 rfl ?_;refine xp rfl (aj.bM underlying9 rfl) ?_;refine cD 1 rfl rfl (aj.jt rfl rfl ⟨by omega,by omega⟩) ?_;refine aS 1 [0,1,5,7,39,40,41,42,49] rfl ?_;refine aI rfl rfl (fun hc=>absurd hc (by simp;omega)) (fun _=>?_);refine aC rfl ?_;refine G.cz func60 rfl ?_;refine cD 2 rfl rfl (aj.bM underlying9 rfl) ?_;refine xp rfl (aj.bE rfl rfl ⟨by omega,by omega⟩) ?_;refine aS 1 [0,1,5,7,39,40,41,42,49] rfl ?_;refine G.aR ?_;refine G.cz func60 rfl ?_;refine xp rfl (aj.bE rfl rfl ⟨by omega,by omega⟩) ?_;refine aS 1 [0,1,5,7,39,40,41,42,49] rfl ?_;exact ih (i+1) _ _ ⟨rfl,rfl,congrArg (fun x:Int=>some (Value.int .i64 x)) (by rw[hst,hwz];omega),rfl,rfl,rfl,trivial⟩ ⟨by omega,rfl⟩ (by omega)
     · have hie:ws.take i=ws:=List.take_of_length_le (by omega);rw[hie];refine bA rfl rfl ?_;refine xr func60 rfl ?_;refine xo rfl (aA.aY H.FK) ?_;rintro _ h1 ⟨rfl,k1,e1,z1⟩;refine xd [0,1,5,8,39,40,41,42] rfl ?_;refine bq func60 1 rfl ?_;have k1:bp h1 g.size 205 [.pointer none,.slice none 0 0]:=k1;obtain⟨x,tl,rfl⟩:∃x tl,ws=x::tl:=by cases ws with|nil=>simp at h0|cons x tl=>exact⟨x,tl,rfl⟩
       refine xo rfl (aq (vs:=[_,_]) func106 rfl H.L2 rfl (ah.bw (Dy k1 _ (by omega)))) ?_;rintro _ h2 ⟨hb2,x2⟩;refine xd [0,1,5,8,39,40,41,42] rfl ?_;refine bq func60 1 rfl ?_;have e02:=aD.only e1 x2 (Nat.le_refl _);have hxz:=bD x;have hxl:x.length<=kX (x::tl):=by simp[kX]
       obtain⟨b,o,y,ha,_,hy,hc⟩:=(hsl.mv (Mv.ax e02)).at (show 0<(x::tl).length by simp);cases hy;refine xp rfl (aj.ay underlying87 H.fL rfl rfl 0 rfl ha (by simp)) ?_;refine xp rfl (ai H.gj rfl hc) ?_;refine xo rfl (aq (vs:=[_,_]) func99 rfl H.GI rfl (ah.bw (ei (bs x) hb2 (by rw[hxz];simp only[List.length_nil];omega)))) ?_;rintro _ h3 ⟨rfl,hb3,x3⟩;refine xd [0,1,5,8,39,40,41,42] rfl ?_;refine av rfl ?_;refine bq func60 1 rfl ?_;rw[iu,List.nil_append] at hb3;have e03:=fj e02 x3 (Nat.le_refl _);have hpart:=hsl.part (i:=1) (j:=(x::tl).length) (by simp) (Nat.le_refl _);rw[List.take_length,List.drop_one,List.tail_cons] at hpart;refine xp rfl (aj.qG underlying87 H.fL rfl rfl 1 rfl (by simp)) ?_;refine xp rfl (aj.aJ underlying87 rfl) ?_;refine aS 1 [0,1,5,8,39,40,41,42,63,64,65] rfl ?_;refine G.block rfl rfl ?_;refine bG (σ:=Nat) (fun i=>[(1,.string (bs [59,32])),(8,.pointer (some ⟨g.size,0,none⟩)),(63,.slice (dy oa 1 1 c) ((x::tl).length-1) (c-1)),(64,.int .i64 (((x::tl).length-1:Nat):Int)),(65,.int .i64 (i:Nat))]) (fun i h'=>i<=tl.length/\kP h' g.size 205 5 (eR (x::tl.take i))/\aD g h') (fun i=>tl.length-i) (0) rfl ⟨rfl,rfl,rfl,rfl,rfl,trivial⟩ ⟨Nat.zero_le _,by rw[List.take_zero,eR];exact hb3,e03⟩ ?_;rintro i g4 ⟨hi,hb4,e04⟩ ih;have hjt:=yu (x::tl.take i);have hst:=yU (x::tl) (i+1);rw[List.take_succ_cons] at hst;simp only[List.length_cons,List.length_take] at hjt;simp only[List.length_cons] at hb hjl;have hlc:(x::tl).length-1=tl.length:=rfl;refine aZ func60 1 [1,8,63,64,65,66] rfl ?_;refine av rfl ?_;refine aO rfl rfl (fun hlt4=>?_) (fun hlt4=>?_)
       · have hil:i<tl.length:=by omega
         obtain⟨w,hw⟩:∃w,tl[i]? =some w:=⟨_,List.getElem?_eq_getElem hil⟩
         have hwz:=bD w;have hst2:=yU (x::tl) (i+2);rw[List.take_succ_cons] at hst2;have htk:tl.take (i+1)=tl.take i++[w]:=by rw[List.take_add_one,hw];rfl
         have hs2:kX (x::tl.take (i+1))=kX (x::tl.take i)+w.length:=by rw[htk];simp[kX];omega
         have hjn:eR (x::tl.take (i+1))=(eR (x::tl.take i)++[59,32])++w:=by rw[htk,mw,mw];simp
         obtain⟨b5,o5,y5,ha5,_,hy5,hc5⟩:=(hpart.mv (Mv.ax e04)).at (show i<(x::tl).length-1 by omega);rw[hw] at hy5;cases hy5;refine aC rfl ?_;refine av rfl ?_;refine G.block rfl rfl ?_;refine xr func60 rfl ?_;refine xp rfl (aj.ay underlying87 H.fL rfl rfl i rfl ha5 (by omega)) ?_;refine xp rfl (ai H.gj rfl hc5) ?_;refine aS 1 [1,8,10,63,64,65,66] rfl ?_;refine bq func60 1 rfl ?_;refine xo rfl (aq (vs:=[_,_]) func99 rfl H.GI rfl (ah.bw (ei (bs [59,32]) hb4 (by rw[h32];omega)))) ?_;rintro _ h5 ⟨rfl,hb5,x5⟩;refine xd [1,8,10,63,64,65,66] rfl ?_;refine G.cz func60 rfl ?_;refine bh 1 rfl ?_;rw[iu] at hb5;refine xo rfl (aq (vs:=[_,_]) func99 rfl H.GI rfl (ah.bw (ei (bs w) hb5 (by rw[hwz,List.length_append];simp only[List.length_cons,List.length_nil];omega)))) ?_;rintro _ h6 ⟨rfl,hb6,x6⟩;refine xd [1,8,10,63,64,65,66] rfl ?_;refine G.aR ?_;refine G.cz func60 rfl ?_;refine xp rfl (aj.bE rfl rfl ⟨by omega,by omega⟩) ?_;refine aS 1 [1,8,10,63,64,65,66] rfl ?_;rw[iu,<-hjn] at hb6;exact ih (i+1) _ _ ⟨rfl,rfl,rfl,rfl,rfl,trivial⟩ ⟨by omega,hb6,fj (fj e04 x5 (Nat.le_refl _)) x6 (Nat.le_refl _)⟩ (by omega)
       · have hie:tl.take i=tl:=List.take_of_length_le (by omega);rw[hie] at hb4;refine bA rfl rfl ?_;refine xr func60 rfl ?_;refine xo rfl (aq (vs:=[_]) func102 rfl H.GQ rfl (ah.bw (kO hb4 (by omega)))) ?_;rintro _ h5 ⟨rfl,x5⟩;refine aS 1 [1,4,8,63,64,65,66] rfl ?_;refine G.ret func60 rfl rfl ?_;exact⟨_,rfl,rfl,fj e04 x5 (Nat.le_refl _)⟩
abbrev NU:iA (UInt8×UInt8):=.record 2 (by decide) lD (fun _=>rfl) Gy
theorem KF (k:pJ h):bX NU h (fun _=>False) (.slice (some ⟨1,0,none⟩) 6 6) jj :=
 ⟨_,6,6,rfl,rfl,Nat.le_refl _,by decide,fun i x hx=>⟨_,0,lD x,rfl,fun k=>k,fun j v hv=>by
  have:=k (i*2+j) v (iL (enc:=lD) (fun _=>rfl) jj i x j v hx hv);rw[Nat.add_assoc];exact this,rfl⟩⟩
theorem zh {tb ib:Nat}(hb:bp h tb 9 [.string (bs s)]) (hi:bp h ib 3 [.int .i64 (i:Nat)]){c:UInt8}(hc:s[i]? =some c) (p:UInt8×UInt8) :
 ah Tryz.prog 105 #[.agg (lD p).toArray,ptr tb,ptr ib] h (dh fun r h'=>r= .bool (p.2 ==c)/\aD h h'):=by
 refine ah.of func105 rfl rfl ?_;refine xr func105 rfl ?_;refine xo rfl (aA.gP rfl) ?_;rintro _ h1 ⟨rfl,k1,e1,z1⟩;have k1:bp h1 h.size 214 (lD p):=k1;refine aS 1 [0,1,2,3,4] rfl ?_;refine av rfl ?_;refine G.eY func105 H.mixed rfl (by kernel_rfl) ?_;refine RQ.au rfl rfl rfl rfl (aj.cX underlying214 H.KX rfl rfl 1 rfl (by decide)) ?_;refine RQ.au rfl rfl rfl rfl (ai H.My rfl (k1.cell (i:=1) rfl)) ?_;refine RQ.au rfl rfl rfl rfl (ai H.gj rfl ((hb.ax e1).cell (i:=0) rfl)) ?_;refine RQ.au rfl rfl rfl rfl (ai H.de rfl ((hi.ax e1).cell (i:=0) rfl)) ?_;refine RQ.au rfl rfl rfl rfl (aj.dz underlying9 rfl rfl i rfl (iD hc)) ?_;refine RQ.au rfl rfl rfl rfl (aj.Hy rfl rfl) ?_;refine RQ.au rfl rfl rfl rfl (aj.assign rfl) ?_;refine cP rfl ?_;refine xu [0,1,2,3,4] rfl ?_;refine G.ret func105 rfl rfl ?_;exact⟨_,rfl,by show Value.bool _=_;rw[Ju];rfl,e1⟩
theorem zP {gf:FuncId}{caps:List Value}(hf:Jp Tryz.prog gf){ts:List (UInt8×UInt8)}(hv:bX NU h (fun _=>False) v ts) (p:UInt8×UInt8->Bool)
 (hp:∀t g,aD h g->ah Tryz.prog gf ([Value.agg (lD t).toArray]++caps).toArray g (dh fun r h'=>r= .bool (p t)/\aD g h')) :
 ah Tryz.prog 104 #[v,.func (.func gf) #[] caps.toArray] h (dh fun r h'=>(∃i:Int,r= .int .i64 i/\((i<0/\ts.find? p=none)\/∃(k:Nat) (t:UInt8×UInt8),i=k/\ts[k]? =some t/\ts.find? p=some t))/\aD h h'):=by
 obtain⟨va,vn,vc,rfl,hvs⟩:=hv.open;have hvl:ts.length=vn:=hvs.len;subst hvl;have hvm:=hvs.cap;have hvc:=hvs.le;simp only[maxLen] at hvm;refine ah.of func104 rfl rfl ?_;refine aZ func104 1 [0,1,4] rfl ?_;refine av rfl ?_;refine bq func104 1 rfl ?_;refine xp rfl (aj.aJ underlying213 rfl) ?_;refine aS 1 [0,1,4,7,8] rfl ?_;refine G.block rfl rfl ?_;refine bG (σ:=Nat) (fun i=>[(0,.slice va ts.length vc),(1,.func (.func gf) #[] caps.toArray),(7,.int .i64 (ts.length:Nat)),(8,.int .i64 (i:Nat))]) (fun i h'=>aD h h'/\i<=ts.length/\∀a∈ts.take i,p a=false) (fun i=>ts.length-i) (0) rfl ⟨rfl,rfl,rfl,rfl,trivial⟩ ⟨Ext.refl _ _,Nat.zero_le _,by simp⟩ ?_;rintro i g ⟨eg,hi,hin⟩ ih;refine aZ func104 1 [0,1,7,8,9] rfl ?_;refine av rfl ?_;refine aO rfl rfl (fun hlt=>?_) (fun hlt=>?_)
 · have hil:i<ts.length:=by omega
   have hvg:=hvs.mv (Mv.ax eg);obtain⟨b,o,t,ha,_,ht,hrow⟩:=hvg.xl hil;have hpt:=hp t g eg;refine aC rfl ?_;refine av rfl ?_;refine G.block rfl rfl ?_;refine aZ func104 2 [0,1,5,7,8,9] rfl ?_;refine bq func104 3 rfl ?_;refine xp rfl (aj.ay underlying213 H.xN rfl rfl i rfl ha (by omega)) ?_;refine xp rfl (aj.aH H.J1 H.xN rfl hrow (by first|rfl|(simp;done)|(simp;omega))) ?_;refine xo rfl (aA.HE (vs:=[_]) rfl hf rfl (ah.bw (hpt))) ?_;rintro _ g1 ⟨rfl,e1⟩;refine xd [0,1,5,7,8,9,16] rfl ?_;refine aI rfl rfl (fun hb=>?_) (fun hb=>?_)
   · have hb:p t=true:=hb;refine aZ func104 2 [0,1,4,5,7,8,9,16] rfl ?_;refine G.ret func104 rfl rfl ?_;exact⟨_,rfl,⟨i,rfl,.inr ⟨i,t,rfl,ht,DZ hin ht hb⟩⟩,eg.trans e1⟩
   · have hb:p t=false:=hb;refine aC rfl ?_;refine G.aR ?_;refine G.cz func104 rfl ?_;refine xp rfl (aj.bE rfl rfl ⟨by omega,by omega⟩) ?_;refine aS 1 [0,1,5,7,8,9,16] rfl ?_;exact ih (i+1) _ _ ⟨rfl,rfl,rfl,rfl,trivial⟩ ⟨eg.trans e1,by omega,fun a ha=>by rw[List.take_add_one,ht,List.mem_append] at ha;exact ha.elim (hin a) (fun q=>by simp at q;rw[q];exact hb)⟩ (by omega)
 · obtain rfl:i=ts.length:=by omega
   refine bA rfl rfl ?_;refine aZ func104 1 [0,1,4,7,8,9] rfl ?_;refine G.ret func104 rfl rfl ?_;exact⟨_,rfl,⟨-1,rfl,.inl ⟨by decide,nS hin rfl⟩⟩,eg⟩
theorem CG (c:UInt8):(cH c).length<=2:=by unfold cH;split<;>simp
theorem xX (s:By):(s.flatMap cH).length<=2*s.length:=by
 induction s with
 |nil=>simp
 |cons c s ih=>rw[List.flatMap_cons,List.length_append,List.length_cons];have:=CG c;omega
theorem Bb (hg:pJ h) (s:By) (hs:s.length<=100000000):ah Tryz.prog 58 #[.string (bs s)] h (dh fun r h'=>r= .string (bs (ny s))/\aD h h'):=by
 have hbz:=bD s;have hql:=xX s;refine ah.of func58 rfl rfl ?_;refine xr func58 rfl ?_;refine xo rfl (aA.gP rfl) ?_;rintro _ h1 ⟨rfl,k1,e1,z1⟩;refine aS 1 [0,1,2] rfl ?_;refine xr func58 rfl ?_;refine xo rfl (aA.aY H.FK) ?_;rintro _ h2 ⟨rfl,k2,e2,z2⟩;have k1:bp h2 h.size 9 [.string (bs s)]:=k1.ax e2;have kb:kP h2 h1.size 205 5 []:=wU k2;refine xd [0,1,2,3] rfl ?_;refine xr func58 rfl ?_;refine xo rfl (aq (vs:=[_,_]) func101 rfl H.DW rfl (ah.bw (gv 34 kb (by simp)))) ?_;rintro _ h3 ⟨kb3,x3⟩;have k13:=k1.ext x3 (show ¬h1.size<=h.size by omega);have e13:aD h h3:=fj (e1.trans e2) x3 (by omega);rw[List.nil_append] at kb3;refine xd [0,1,2,3] rfl ?_;refine av rfl ?_;refine xr func58 rfl ?_;refine xp rfl (ai H.gj rfl (k13.cell (i:=0) rfl)) ?_;refine xp rfl (aj.bM underlying9 rfl) ?_;refine aS 1 [0,1,2,3,8,9] rfl ?_;refine G.block rfl rfl ?_;refine bG (σ:=Nat) (fun i=>[(1,ptr h.size),(3,ptr h1.size),(8,.int .i64 ((bs s).size:Nat)),(9,.int .i64 (i:Nat))]) (fun i g=>i<=s.length/\kP g h1.size 205 5 (34::(s.take i).flatMap cH)/\aD h g/\bp g h.size 9 [.string (bs s)]/\h2.size<=g.size) (fun i=>s.length-i) (0) rfl ⟨rfl,rfl,rfl,rfl,trivial⟩ ⟨Nat.zero_le _,kb3,e13,k13,x3.size⟩ ?_;rintro i g ⟨hi,kg,eg,k1g,hz⟩ ih
 have htl:((s.take i).flatMap cH).length<=2*s.length:=by
  have:=xX (s.take i);rw[List.length_take] at this;omega
 refine aZ func58 1 [1,3,8,9,10] rfl ?_;refine av rfl ?_;refine aO rfl rfl (fun hlt=>?_) (fun hlt=>?_)
 · have hil:i<s.length:=by omega
   obtain⟨c,hc⟩:∃c,s[i]? =some c:=⟨_,List.getElem?_eq_getElem hil⟩
   have htk:(s.take (i+1)).flatMap cH=(s.take i).flatMap cH++cH c:=by rw[List.take_add_one,hc];simp
   refine aC rfl ?_;refine av rfl ?_;refine G.block rfl rfl ?_;refine bq func58 1 rfl ?_;refine xo rfl (aA.aY H.MS) ?_;rintro _ g1 ⟨rfl,kn,en,zn⟩;refine RW.cu rfl rfl rfl (aA.bB H.cA rfl rfl kn (by first|decide|exact of_decide_eq_true rfl|(simp;done)|(simp;omega)) rfl) ?_;rintro _ g2 ⟨rfl,kn2,xn,zn2⟩;have kn2:bp g2 g.size 3 [.int .i64 (i:Nat)]:=kn2;have en2:aD g g2:=aD.only en xn (Nat.le_refl _);have eg2:=eg.trans en2;have hix:=zP (h:=g2) (gf:=105) (caps:=[ptr h.size,ptr g.size]) ⟨_,func105,rfl,by kernel_rfl⟩ (KF (hg.ax eg2)) (fun p=>p.2 ==c) (fun p g' e'=>zh ((k1g.ax en2).ax e') (kn2.ax e') hc p);refine xd [1,3,4,8,9,10] rfl ?_;refine xr func58 rfl ?_;refine xp rfl (aj.AV underlying215 H.xN rfl  ) ?_;refine xp rfl (aj.makeFunc (vs:=[_,_]) rfl) ?_;refine xo rfl (aq (vs:=[_,_]) func104 rfl H.L3 rfl (ah.bw (hix))) ?_;rintro _ g3 ⟨⟨j,rfl,hj⟩,e3⟩;have eg3:=eg2.trans e3;have kg3:=kP.ax kg (en2.trans e3);have z3:=(en2.trans e3).size;refine aS 1 [1,3,4,5,8,9,10] rfl ?_;refine aZ func58 2 [1,3,4,5,8,9,10,16] rfl ?_;refine aO rfl rfl (fun hj0=>?_) (fun hj0=>?_)
   · obtain⟨k,p,rfl,hkp,hfp⟩:=hj.resolve_left (fun q=>by omega);have hk6:k<6:=(List.getElem?_eq_some_iff.1 hkp).1;have hqc:cH c=[92,p.1]:=by unfold cH;rw[hfp]
     have hrow:=(hg.ax eg3) (k*2+0) _ (iL (enc:=lD) (fun _=>rfl) jj k p 0 _ hkp rfl);refine G.cz func58 rfl ?_;refine cD 1 rfl rfl (aj.cX underlying215 H.xN rfl rfl k rfl hk6) ?_;refine xp rfl (aj.cX underlying214 H.KX rfl rfl 0 rfl (by decide)) ?_;refine xp rfl (ai H.My rfl hrow) ?_;refine xo rfl (aA.aX (us:=[_,_]) underlying38 H.MN rfl rfl (by decide) (by simp[Value.oneCell'])) ?_;rintro _ g4 ⟨rfl,hg4⟩;have e4:aD g3 g4:=by rw[hg4];exact Ext.push _ _ _
     have hby:bX .byte g4 (fun _=>False) (.slice (some ⟨g3.size,0,none⟩) 2 2) [92,p.1]:=by rw[hg4];exact Dt.read (lN tU g3 _ [92,p.1] 2 rfl (by decide) 0 (Nat.zero_le _) rfl) (fun _ _ k=>k)
     have hw:=ei (bs [92,p.1]) (kP.ax kg3 e4) (by show (34::_).length+2<=_;rw[List.length_cons];omega);refine xp rfl (aj.yB underlying38 underlying5 underlying9 rfl hby) ?_;refine xo rfl (aq (vs:=[_,_]) func99 rfl H.GI rfl (ah.bw (hw))) ?_;rintro _ g5 ⟨rfl,kb5,x5⟩;rw[iu] at kb5;have z4:=e4.size;refine xd [1,3,4,5,8,9,10,16] rfl ?_;refine G.aR ?_;refine G.cz func58 rfl ?_;refine xp rfl (aj.bE rfl rfl ⟨by omega,by omega⟩) ?_;refine aS 1 [1,3,4,5,8,9,10,16] rfl ?_;exact ih (i+1) _ _ ⟨rfl,rfl,rfl,rfl,trivial⟩ ⟨hil,by rw[htk,hqc];exact kb5,fj (eg3.trans e4) x5 (by omega),((k1g.ax (en2.trans e3)).ax e4).ext x5 (show ¬h1.size<=h.size by omega),by have:=x5.size;omega⟩ (by omega)
   · have hfn:jj.find? (fun p=>p.2 ==c)=none:=by
      rcases hj with hj|⟨k,p,hj,_⟩
      · exact hj.2
      · omega
     have hqc:cH c=[c]:=by unfold cH;rw[hfn]
     have hw:=gv c kg3 (by rw[List.length_cons];omega);refine G.cz func58 rfl ?_;refine xp rfl (ai H.gj rfl ((k1g.ax (en2.trans e3)).cell (i:=0) rfl)) ?_;refine xp rfl (ai H.de rfl ((kn2.ax e3).cell (i:=0) rfl)) ?_;refine xp rfl (aj.dz underlying9 rfl rfl i rfl (iD hc)) ?_;refine xo rfl (aq (vs:=[_,_]) func101 rfl H.DW rfl (ah.bw (hw))) ?_;rintro _ g5 ⟨kb5,x5⟩;refine xd [1,3,4,5,8,9,10,16] rfl ?_;refine G.aR ?_;refine G.cz func58 rfl ?_;refine xp rfl (aj.bE rfl rfl ⟨by omega,by omega⟩) ?_;refine aS 1 [1,3,4,5,8,9,10,16] rfl ?_;exact ih (i+1) _ _ ⟨rfl,rfl,rfl,rfl,trivial⟩ ⟨hil,by rw[htk,hqc];exact kb5,fj eg3 x5 (by omega),(k1g.ax (en2.trans e3)).ext x5 (show ¬h1.size<=h.size by omega),by have:=x5.size;omega⟩ (by omega)
 · have hie:i=s.length:=by omega
   rw[hie,List.take_length] at kg;have hw:=gv 34 kg (by rw[List.length_cons];omega);refine bA rfl rfl ?_;refine xr func58 rfl ?_;refine xo rfl (aq (vs:=[_,_]) func101 rfl H.DW rfl (ah.bw (hw))) ?_;rintro _ g5 ⟨kb5,x5⟩;have hw2:=kO kb5 (by rw[List.length_append,List.length_cons,List.length_singleton];omega);refine xd [1,3,8,9,10] rfl ?_;refine xr func58 rfl ?_;refine xo rfl (aq (vs:=[_]) func102 rfl H.GQ rfl (ah.bw (hw2))) ?_;rintro _ g6 ⟨rfl,x6⟩;refine aS 1 [1,2,3,8,9,10] rfl ?_;refine G.ret func58 rfl rfl ?_;exact⟨_,rfl,rfl,fj (fj eg x5 (by omega)) x6 (by omega)⟩
def oJ (l:By):List Value:=(List.range 256).map fun n=>.bool (decide (UInt8.ofNat n∈l))
@[simp] theorem Ge (l:By):(oJ l).length=256:=by unfold oJ;rw[List.length_map,List.length_range]
theorem DH (l:By) (c:UInt8):(oJ l)[c.toNat]? =some (.bool (decide (c∈l))):=by
 unfold oJ;rw[List.getElem?_map,List.getElem?_range c.toNat_lt];simp
theorem Gd (l:By) (c:UInt8):(oJ l).set c.toNat (.bool true)=oJ (l++[c]):=by
 apply List.ext_getElem?
 intro n;rw[List.getElem?_set]
 by_cases h:c.toNat=n
 · subst h;rw[if_pos rfl,if_pos (by rw[Ge];exact c.toNat_lt),DH];simp
 · rw[if_neg h];unfold oJ;rw[List.getElem?_map,List.getElem?_map]
   by_cases hn:n<256
   · rw[List.getElem?_range hn];have:¬UInt8.ofNat n=c:=fun q=>h (by rw[<-q];exact UInt8.toNat_ofNat_of_lt' hn)
     simp[this]
   · rw[List.getElem?_eq_none (by rw[List.length_range];omega)];rfl
theorem A1 (l:By):∀v∈oJ l,v.oneCell'=true:=fun v hv=>by unfold oJ at hv;simp at hv;obtain⟨_,_,rfl⟩:=hv;rfl
theorem EK (s:By) (hs:s.all (fun c=>decide (c.toNat<128))=true) (hsl:s.length<=1000000):ah Tryz.prog 188 #[.string (bs s)] h (dh fun r h'=>r=packed [.agg (oJ s).toArray,.bool true]/\aD h h'):=by
 have hbz:=bD s;refine ah.of func188 rfl rfl ?_;refine xr func188 rfl ?_;refine xo rfl (aA.aY H.Jr) ?_;rintro _ h1 ⟨rfl,k1,e1,z1⟩;have k1:bp h1 h.size 287 (oJ []):=k1;refine aS 1 [0,2,3] rfl ?_;refine av rfl ?_;refine aZ func188 1 [0,2,3,4] rfl ?_;refine G.block rfl rfl ?_;refine bG (σ:=Nat) (fun i=>[(0,.string (bs s)),(2,ptr h.size),(4,.int .i64 (i:Nat))]) (fun i g=>i<=s.length/\bp g h.size 287 (oJ (s.take i))/\aD h g) (fun i=>s.length-i) (0) rfl ⟨rfl,rfl,rfl,trivial⟩ ⟨Nat.zero_le _,k1,e1⟩ ?_;rintro i g ⟨hi,kg,eg⟩ ih;refine av rfl ?_;refine bq func188 2 rfl ?_;refine xp rfl (aj.bM underlying9 rfl) ?_;refine aS 1 [0,2,4,9] rfl ?_;refine aO rfl rfl (fun hlt=>?_) (fun hlt=>?_)
 · have hil:i<s.length:=by omega
   obtain⟨c,hc⟩:∃c,s[i]? =some c:=⟨_,List.getElem?_eq_getElem hil⟩
   have hc7:c.toNat<128:=of_decide_eq_true (List.all_eq_true.1 hs c (List.mem_of_getElem? hc));refine aC rfl ?_;refine av rfl ?_;refine G.block rfl rfl ?_;refine bq func188 2 rfl ?_;refine xp rfl (aj.dz underlying9 rfl rfl i rfl (iD hc)) ?_;refine aS 1 [0,2,4,5,9] rfl ?_;refine av rfl ?_;refine aZ func188 2 [0,2,4,5,9,16] rfl ?_;refine aI rfl rfl (fun hc=>absurd hc (by simp;omega)) (fun _=>?_);refine aC rfl ?_;refine G.cz func188 rfl ?_;refine cD 1 rfl rfl (aj.cX underlying287 H.mX rfl rfl c.toNat rfl c.toNat_lt) ?_;refine RW.cu rfl rfl rfl (aA.bB H.mX rfl rfl kg (by first|decide|exact of_decide_eq_true rfl|(simp;done)|(simp;omega)) rfl) ?_;rintro _ g2 ⟨rfl,k2,x2,z2⟩;have k2:bp g2 h.size 287 (oJ (s.take (i+1))):=by rw[List.take_add_one,hc,show (some c).toList=[c] from rfl,<-Gd];simpa using k2
   refine xd [0,2,4,5,9,16] rfl ?_;refine G.aR ?_;refine G.cz func188 rfl ?_;refine cD 1 rfl rfl (aj.bE rfl rfl ⟨by omega,by omega⟩) ?_;refine aS 1 [0,2,4,5,9,16] rfl ?_;exact ih (i+1) _ _ ⟨rfl,rfl,rfl,trivial⟩ ⟨hil,k2,aD.only eg x2 (Nat.le_refl _)⟩ (by omega)
 · have hie:i=s.length:=by omega
   rw[hie,List.take_length] at kg;refine bA rfl rfl ?_;refine xr func188 rfl ?_;refine xp rfl (aj.aH H.JZ H.DF rfl kg.row (by first|rfl|(simp;done)|(simp;omega))) ?_;refine RW.cu rfl rfl rfl (aA.aB H.DF rfl rfl kg (by first|rfl|(simp;done)|(simp;omega)) (by first|decide|exact of_decide_eq_true rfl|(simp;done)|(simp;omega)) (A1 s)) ?_;rintro _ g2 ⟨rfl,k2,x2,z2⟩;refine aS 1 [0,2,3,4,9] rfl ?_;refine G.cU func188 rfl (.cons (bl.cM H.JZ H.DF rfl (k2.row) (by first|rfl|(simp;done)|(simp;omega))) (.cons (bl.tmp rfl) (.nil))) ?_;exact⟨_,rfl,by simp[over,List.drop_eq_nil_of_le],aD.only eg x2 (Nat.le_refl _)⟩
theorem tQ {l:By}(k:bp h b 287 (oJ l)) (c:UInt8):ah Tryz.prog 201 #[ptr b,.int .u8 (c.toNat:Nat)] h (dh fun r h'=>r= .bool (decide (c∈l))/\h'=h):=by
 refine ah.of func201 rfl rfl ?_;refine aZ func201 1 [0,1,4] rfl ?_;refine bq func201 3 rfl ?_;refine xp rfl (aj.cX underlying287 H.mX rfl rfl c.toNat rfl c.toNat_lt) ?_;refine xp rfl (ai H.wE rfl (by simpa using k.cell (DH l c))) ?_;refine aS 1 [0,1,4] rfl ?_;refine G.ret func201 rfl rfl ?_;exact⟨_,rfl,rfl,rfl⟩
theorem AJ {l:By}(k:bp h b 287 (oJ l)) (s:By):ah Tryz.prog 189 #[.string (bs s),ptr b] h (dh fun r h'=>r= .string (bs (s.dropWhile fun c=>decide (c∈l)))/\h'=h):=by
 refine ah.of func189 rfl rfl ?_;refine aZ func189 1 [0,1,4] rfl ?_;refine av rfl ?_;refine G.block rfl rfl ?_;refine bG (σ:=By) (fun t=>[(0,.string (bs t)),(1,ptr b)]) (fun t g=>g=h/\t.dropWhile (fun c=>decide (c∈l))=s.dropWhile fun c=>decide (c∈l)) (fun t=>t.length) (s) rfl ⟨rfl,rfl,trivial⟩ ⟨rfl,rfl⟩ ?_;rintro t g ⟨rfl,ht⟩ ih;have hbz:=bD t;rw[<-ht];refine av rfl ?_;refine bq func189 1 rfl ?_;refine xp rfl (aj.bM underlying9 rfl) ?_;refine aS 1 [0,1,7] rfl ?_
 rcases t with _|⟨c,r⟩
 · refine aI rfl rfl (fun hc=>absurd hc (by decide)) (fun _=>?_);refine bA rfl rfl ?_;refine aZ func189 2 [0,1,4,7] rfl ?_;refine G.ret func189 rfl rfl ?_;exact⟨_,rfl,rfl,rfl⟩
 · refine aI rfl rfl (fun _=>?_) (fun hc=>absurd hc (by rw[hbz];simp));refine aC rfl ?_;refine G.block rfl rfl ?_;refine av rfl ?_;refine bq func189 2 rfl ?_;refine xp rfl (aj.dz underlying9 rfl rfl 0 rfl (iD (l:=c::r) (c:=c) rfl)) ?_;refine xo rfl (aq (vs:=[_,_]) func201 rfl H.LG rfl (ah.bw (tQ k c))) ?_;rintro _ g1 ⟨rfl,hg1⟩;subst hg1;refine aS 1 [0,1,7,12] rfl ?_;refine aI rfl rfl (fun hb=>?_) (fun hb=>?_)
   · have hb:¬c∈l:=by simpa using hb
     refine bA rfl rfl ?_;refine aZ func189 2 [0,1,4,7,12] rfl ?_;refine G.ret func189 rfl rfl ?_;exact⟨_,rfl,by rw[List.dropWhile_cons,if_neg (by simpa using hb)];rfl,rfl⟩
   · have hb:c∈l:=by simpa using hb
     refine aC rfl ?_;refine G.cz func189 rfl ?_;refine cD 1 rfl rfl (aj.iG underlying9 rfl rfl 1 rfl (by rw[hbz];simp)) ?_;rw[oE,ht];refine aS 1 [0,1,7,12] rfl ?_;refine G.aR ?_;exact ih r _ _ ⟨rfl,rfl,trivial⟩ ⟨rfl,by rw[<-ht,List.dropWhile_cons,if_pos (by simpa using hb)]⟩ (by simp)
abbrev Cw:By:=[48,49,50,51,52,53,54,55,56,57]
theorem IX (c:UInt8):decide (c∈Cw)=cQ c:=by
 have k:∀n:Fin 256,decide (UInt8.ofFin n∈Cw)=cQ (UInt8.ofFin n):=by unfold cQ;decide +kernel
 exact k c.toFin
theorem Cs (s:By):ah Tryz.prog 172 #[.string (bs s),.string (bs Cw)] h (dh fun r h'=>r= .string (bs (dm s))/\aD h h'):=by
 have hd:s.dropWhile (fun c=>decide (c∈Cw))=dm s:=by unfold dm;congr 1;funext c;exact IX c
 refine ah.of func172 rfl rfl ?_;refine aZ func172 1 [0,1,4] rfl ?_;refine av rfl ?_;refine av rfl ?_;refine G.bF [(12,.bool (decide (s=[])))] [(0,_),(1,_),(4,_)] ⟨rfl,rfl,rfl,trivial⟩ func172 rfl ?_ ?_
 · refine cD 1 rfl rfl (aj.dX rfl rfl) ?_;refine bh 1 rfl ?_;refine aP (d:=9) rfl (fun g=>?_) (fun g=>?_)
   · have g:=of_decide_eq_true g;refine bh 3 rfl ?_;refine aE rfl ?_;exact⟨rfl,aF rfl (by rw[decide_eq_true (eT g)]),rfl,rfl,rfl,trivial⟩
   · have g:=of_decide_eq_false g;refine cD 1 rfl rfl (aj.dX rfl rfl) ?_;refine bh 1 rfl ?_;refine aE rfl ?_;exact⟨rfl,aF rfl (by rw[show decide (s=[])=false from decide_eq_false (fun q=>g (by rw[q];rfl))];rfl),rfl,rfl,rfl,trivial⟩
 · refine aO rfl rfl (fun h0=>?_) (fun h0=>?_)
   · refine aZ func172 2 [0,1,4,12] rfl ?_;refine G.ret func172 rfl rfl ?_;exact⟨_,rfl,by rw[h0];rfl,Ext.refl _ _⟩
   · refine aC rfl ?_;refine av rfl ?_;refine av rfl ?_;refine G.bF [(21,.bool false)] [(0,_),(1,_),(4,_),(12,_)] ⟨rfl,rfl,rfl,rfl,trivial⟩ func172 rfl ?_ ?_
     · refine cD 1 rfl rfl (aj.bM underlying9 rfl) ?_;refine bh 2 rfl ?_;refine RW.dw (d:=17) (b':=false) rfl (rfl) ?_;refine bh 4 rfl ?_;refine aE rfl ?_;exact⟨rfl,aF rfl (rfl),rfl,rfl,rfl,rfl,trivial⟩
     · refine aI rfl rfl (fun hc=>absurd hc (by simp)) (fun _=>?_);refine aC rfl ?_;refine av rfl ?_;refine bq func172 1 rfl ?_;refine xo rfl (aq (vs:=[_]) func188 rfl H.LK rfl (ah.bw (EK Cw (by decide) (by decide)))) ?_;rintro _ h1 ⟨rfl,e1⟩;refine bh 3 rfl ?_;refine xo rfl (aA.aY H.Jr) ?_;rintro _ h2 ⟨rfl,k2,e2,z2⟩;refine RW.cu rfl rfl rfl (aA.aB H.DF rfl rfl k2 (by first|rfl|(simp;done)|(simp;omega)) (by first|decide|exact of_decide_eq_true rfl|(simp;done)|(simp;omega)) (A1 Cw)) ?_;rintro _ h3 ⟨rfl,k3,x3,z3⟩;have k3:bp h3 h1.size 287 (oJ Cw):=k3;refine aS 1 [0,1,4,5,6,12,21] rfl ?_;refine aZ func172 1 [0,1,4,5,6,12,21,31] rfl ?_;refine aI rfl rfl (fun _=>?_) (fun hc=>absurd hc (by simp));refine bq func172 1 rfl ?_;refine xo rfl (aq (vs:=[_,_]) func189 rfl H.LJ rfl (ah.bw (AJ k3 s))) ?_;rintro _ h4 ⟨rfl,hh4⟩;refine aS 1 [0,1,4,5,6,12,21,31] rfl ?_;refine G.ret func172 rfl rfl ?_;have e13:aD h1 h3:=aD.only e2 x3 (Nat.le_refl _);exact⟨_,rfl,by rw[hd];rfl,by rw[hh4];exact e1.trans e13⟩
theorem jG (s:By):ah Tryz.prog 144 #[.string (bs s)] h (dh fun r h'=>r=packed [.string (bs (dm s)),.bool (dK s)]/\aD h h'):=by
 have q1:=bD s;have q2:=bD (dm s);refine ah.of func144 rfl rfl ?_;refine aZ func144 2 [0,2,3] rfl ?_;refine bq func144 1 rfl ?_;refine xo rfl (aq (vs:=[_,_]) func172 rfl H.LM rfl (ah.bw (Cs s))) ?_;rintro _ h1 ⟨rfl,e1⟩;refine aS 1 [0,2,3,4] rfl ?_;refine bq func144 2 rfl ?_;refine xp rfl (aj.bM underlying9 rfl) ?_;refine cD 1 rfl rfl (aj.bM underlying9 rfl) ?_;refine aS 3 [0,2,3,4] rfl ?_;refine G.ret func144 rfl rfl ?_;exact⟨_,rfl,by unfold dK;rw[q1,q2];simp,e1⟩
def vX (s:By):Bool:=match s with| []=>false|c::_=>decide (c=46)
theorem Ac (s:By):ah Tryz.prog 145 #[.string (bs s),.string (bs [46])] h (dh fun r h'=>r=packed [.string (bs (if vX s then s.drop 1 else s)),.bool (vX s)]/\h'=h):=by
 have k:ah Tryz.prog 145 #[.string (bs s),.string (bs [46])] h _:=ah.DT fun w=>Tryz.strings_CutPrefix (bs s) (bs [46]) w
 refine k.ret fun v h' ⟨h1,h2⟩=>⟨?_,h2⟩
 rw[h1]
 have e:Lib.hasPrefix (bs s).data.toList (bs [46]).data.toList=vX s:=by
  rw[iu,iu];unfold Lib.hasPrefix vX;cases s with
  |nil=>rfl
  |cons c r=>simp only[List.isPrefixOf,Bool.and_true];rw[Bool.eq_iff_iff];simp only[beq_iff_eq,decide_eq_true_iff];exact eq_comm
 rw[e];unfold Lib.trimPrefix;rw[e,iu,iu];rfl
def tu (s:By) (a b:UInt8):Bool:=match s with| []=>false|c::_=>decide (c=a) ||decide (c=b)
theorem Hu (s:By) (ok:Bool):lC s ok=if (ok && tu s 101 69)=true then (if tu (s.drop 1) 43 45=true then dK ((s.drop 1).drop 1) && decide (dm ((s.drop 1).drop 1)=[]) else dK (s.drop 1) && decide (dm (s.drop 1)=[])) else (ok && decide (s=[])):=by
 cases s with
 |nil=>simp[lC,tu]
 |cons c r =>
  unfold lC tu;simp only[Bool.and_eq_true,Bool.or_eq_true,decide_eq_true_eq,List.drop_succ_cons,List.drop_zero]
  by_cases h:ok=true/\(c=101\/c=69)
  · rw[if_pos h,if_pos h];cases r with
    |nil=>rfl
    |cons d r=>simp only[Bool.or_eq_true,decide_eq_true_eq,List.drop_succ_cons,List.drop_zero]
  · rw[if_neg h,if_neg h];simp
theorem GG (s:By):mh s=if (dK s && vX (dm s))=true then lC (dm ((dm s).drop 1)) (dK ((dm s).drop 1)) else lC (dm s) (dK s):=by
 unfold mh;cases hd:dm s with
 |nil=>simp[vX,lC]
 |cons c r =>
  simp only[vX,Bool.and_eq_true,decide_eq_true_eq,List.drop_succ_cons,List.drop_zero]
theorem ne_nil (h:¬bs s=(⟨#[]⟩:ByteArray)):∃c r,s=c::r:=by
 cases s with
 |nil=>exact absurd rfl h
 |cons c r=>exact⟨c,r,rfl⟩
theorem eq_nil (h:bs s=(⟨#[]⟩:ByteArray)):s=[]:=eT (m:=[]) h
theorem nh (c:UInt8) (n:UInt8):decide ((c.toNat:Int)=(n.toNat:Int))=decide (c=n):=Ju c n
theorem xy (s:By):ah Tryz.prog 108 #[.string (bs s)] h (dh fun r h'=>r= .bool (mh s)/\aD h h'):=by
 rw[GG];refine ah.of func108 rfl rfl ?_;refine aZ func108 1 [0,2] rfl ?_;refine bq func108 1 rfl ?_;refine xo rfl (aq (vs:=[_]) func144 rfl H.DU rfl (ah.bw (jG s))) ?_;rintro _ h1 ⟨rfl,e1⟩;refine aS 5 [0,2,3] rfl ?_;refine av rfl ?_;refine bq func108 1 rfl ?_;refine xo rfl (aq (vs:=[_,_]) func145 rfl H.LR rfl (ah.bw (Ac (dm s)))) ?_;rintro _ h2 ⟨rfl,hh2⟩;subst hh2;refine aS 5 [0,2,3,4,5] rfl ?_;refine av rfl ?_;refine G.bF [(19,.bool (dK s && vX (dm s)))] [(0,_),(2,_),(3,_),(4,_),(5,_)] ⟨rfl,rfl,rfl,rfl,rfl,trivial⟩ func108 rfl ?_ ?_
 · refine bh 2 rfl ?_;refine aP (d:=17) rfl (fun a=>?_) (fun a=>?_)
   · refine bh 2 rfl ?_;refine aE rfl ?_;exact⟨rfl,aF rfl (by rw[a];rfl),rfl,rfl,rfl,rfl,rfl,trivial⟩
   · refine bh 2 rfl ?_;refine aE rfl ?_;exact⟨rfl,aF rfl (by rw[a];rfl),rfl,rfl,rfl,rfl,rfl,trivial⟩
 · have fin:∀(s1:By) (ok1:Bool) (h':az) (ρ':Env),Sub [(0,.string (bs s1)),(3,.bool ok1)] ρ'->aD h h'->(if (dK s && vX (dm s))=true then lC (dm ((dm s).drop 1)) (dK ((dm s).drop 1)) else lC (dm s) (dK s))=lC s1 ok1->G Tryz.prog 108 f108 [.code [1,1,1]] ρ' h' (dh fun r h'=>r= .bool (if (dK s && vX (dm s))=true then lC (dm ((dm s).drop 1)) (dK ((dm s).drop 1)) else lC (dm s) (dK s))/\aD h h'):=by
    rintro s1 ok1 h3 ρ' hsub e3 hnum;rw[hnum,Hu];have hbz:=bD s1;refine G.sub (ρ':=[(0,.string (bs s1)),(3,.bool ok1)]) hsub ?_;refine av rfl ?_;refine av rfl ?_;refine G.bF [(39,.bool (ok1 && tu s1 101 69))] [(0,_),(3,_)] ⟨rfl,rfl,trivial⟩ func108 rfl ?_ ?_
    · refine bh 2 rfl ?_;refine aP (d:=26) rfl (fun a=>?_) (fun a=>?_)
      · rw[a,Bool.true_and];refine cD 1 rfl rfl (aj.pU rfl rfl) ?_;refine bh 2 rfl ?_;refine aP (d:=30) rfl (fun b=>?_) (fun b=>?_)
        · obtain⟨c,r,rfl⟩:=ne_nil (s:=s1) (by simpa using b);refine cD 1 rfl rfl (aj.dz underlying9 rfl rfl 0 rfl (iD (l:=c::r) rfl)) ?_;refine bh 2 rfl ?_;refine aP (d:=34) rfl (fun d=>?_) (fun d=>?_)
          · refine bh 5 rfl ?_;refine aE rfl ?_;exact⟨rfl,aF rfl (by show _=(decide (c=101) ||decide (c=69));rw[<-nh c 101,<-nh c 69,show (((101:UInt8).toNat:Nat):Int)=101 from rfl,d];rfl),rfl,rfl,trivial⟩
          · refine cD 1 rfl rfl (aj.dz underlying9 rfl rfl 0 rfl (iD (l:=c::r) rfl)) ?_;refine bh 3 rfl ?_;refine aE rfl ?_;exact⟨rfl,aF rfl (by show _=(decide (c=101) ||decide (c=69));rw[<-nh c 101,<-nh c 69,show (((101:UInt8).toNat:Nat):Int)=101 from rfl,d];rfl),rfl,rfl,trivial⟩
        · have hb:s1=[]:=eq_nil (by simpa using b);refine bh 9 rfl ?_;refine aE rfl ?_;exact⟨rfl,aF rfl (by rw[hb];rfl),rfl,rfl,trivial⟩
      · rw[a,Bool.false_and];refine bh 13 rfl ?_;refine aE rfl ?_;exact⟨rfl,aF rfl (rfl),rfl,rfl,trivial⟩
    · refine aI rfl rfl (fun hq=>?_) (fun hq=>?_)
      · rw[if_pos hq]
        have hne:1<=s1.length:=by
         cases s1 with
         |nil=>simp[tu] at hq
         |cons c r=>simp
        refine bq func108 1 rfl ?_;refine xp rfl (aj.iG underlying9 rfl rfl 1 rfl (by omega)) ?_;rw[oE];have hbz2:=bD (s1.drop 1);refine aS 1 [0,3,39] rfl ?_;refine av rfl ?_;refine av rfl ?_;refine G.bF [(53,.bool (tu (s1.drop 1) 43 45))] [(0,_),(3,_),(39,_)] ⟨rfl,rfl,rfl,trivial⟩ func108 rfl ?_ ?_
        · refine cD 1 rfl rfl (aj.pU rfl rfl) ?_;refine bh 1 rfl ?_;refine aP (d:=44) rfl (fun b=>?_) (fun b=>?_)
          · obtain⟨c,r,hcr⟩:=ne_nil (s:=s1.drop 1) (by simpa using b);rw[hcr];refine cD 1 rfl rfl (aj.dz underlying9 rfl rfl 0 rfl (iD (l:=c::r) rfl)) ?_;refine bh 2 rfl ?_;refine aP (d:=48) rfl (fun d=>?_) (fun d=>?_)
            · refine bh 5 rfl ?_;refine aE rfl ?_;exact⟨rfl,aF rfl (by show _=(decide (c=43) ||decide (c=45));rw[<-nh c 43,<-nh c 45,show (((43:UInt8).toNat:Nat):Int)=43 from rfl,d];rfl),rfl,rfl,rfl,trivial⟩
            · refine cD 1 rfl rfl (aj.dz underlying9 rfl rfl 0 rfl (iD (l:=c::r) rfl)) ?_;refine bh 3 rfl ?_;refine aE rfl ?_;exact⟨rfl,aF rfl (by show _=(decide (c=43) ||decide (c=45));rw[<-nh c 43,<-nh c 45,show (((43:UInt8).toNat:Nat):Int)=43 from rfl,d];rfl),rfl,rfl,rfl,trivial⟩
          · have hb:s1.drop 1=[]:=eq_nil (by simpa using b);refine bh 9 rfl ?_;refine aE rfl ?_;exact⟨rfl,aF rfl (by rw[hb];rfl),rfl,rfl,rfl,trivial⟩
        · refine aI rfl rfl (fun hg=>?_) (fun hg=>?_)
          · rw[if_pos hg]
            have hne2:1<=(s1.drop 1).length:=by
             cases hs:s1.drop 1 with
             |nil=>rw[hs] at hg;simp[tu] at hg
             |cons c r=>simp
            refine G.cz func108 rfl ?_;refine cD 1 rfl rfl (aj.iG underlying9 rfl rfl 1 rfl (by omega)) ?_;rw[oE];refine aS 1 [0,3,39,53] rfl ?_;refine G.cz func108 rfl ?_;refine bh 1 rfl ?_;refine xo rfl (aq (vs:=[_]) func144 rfl H.DU rfl (ah.bw (jG ((s1.drop 1).drop 1)))) ?_;rintro _ h4 ⟨rfl,e4⟩;refine aS 5 [0,3,39,53] rfl ?_;refine av rfl ?_;refine G.bF [(2,.bool (dK ((s1.drop 1).drop 1) && decide (dm ((s1.drop 1).drop 1)=[])))] [(0,_),(3,_),(39,_),(53,_)] ⟨rfl,rfl,rfl,rfl,trivial⟩ func108 rfl ?_ ?_
            · refine bh 2 rfl ?_;refine aP (d:=62) rfl (fun b=>?_) (fun b=>?_)
              · refine cD 1 rfl rfl (aj.dX rfl rfl) ?_;refine bh 2 rfl ?_;refine aE rfl ?_;exact⟨rfl,aF rfl (by rw[b];exact Af _),rfl,rfl,rfl,rfl,trivial⟩
              · refine bh 4 rfl ?_;refine aE rfl ?_;exact⟨rfl,aF rfl (by rw[b];rfl),rfl,rfl,rfl,rfl,trivial⟩
            · refine G.ret func108 rfl rfl ?_;exact⟨_,rfl,rfl,e3.trans e4⟩
          · rw[if_neg (by rw[hg];decide)];refine aC rfl ?_;refine G.cz func108 rfl ?_;refine bh 1 rfl ?_;refine xo rfl (aq (vs:=[_]) func144 rfl H.DU rfl (ah.bw (jG (s1.drop 1)))) ?_;rintro _ h4 ⟨rfl,e4⟩;refine aS 5 [0,3,39,53] rfl ?_;refine av rfl ?_;refine G.bF [(2,.bool (dK (s1.drop 1) && decide (dm (s1.drop 1)=[])))] [(0,_),(3,_),(39,_),(53,_)] ⟨rfl,rfl,rfl,rfl,trivial⟩ func108 rfl ?_ ?_
            · refine bh 2 rfl ?_;refine aP (d:=62) rfl (fun b=>?_) (fun b=>?_)
              · refine cD 1 rfl rfl (aj.dX rfl rfl) ?_;refine bh 2 rfl ?_;refine aE rfl ?_;exact⟨rfl,aF rfl (by rw[b];exact Af _),rfl,rfl,rfl,rfl,trivial⟩
              · refine bh 4 rfl ?_;refine aE rfl ?_;exact⟨rfl,aF rfl (by rw[b];rfl),rfl,rfl,rfl,rfl,trivial⟩
            · refine G.ret func108 rfl rfl ?_;exact⟨_,rfl,rfl,e3.trans e4⟩
      · rw[if_neg (by rw[hq];decide)];refine aC rfl ?_;refine av rfl ?_;refine G.bF [(2,.bool (ok1 && decide (s1=[])))] [(0,_),(3,_),(39,_)] ⟨rfl,rfl,rfl,trivial⟩ func108 rfl ?_ ?_
        · refine bh 2 rfl ?_;refine aP (d:=62) rfl (fun b=>?_) (fun b=>?_)
          · refine cD 1 rfl rfl (aj.dX rfl rfl) ?_;refine bh 2 rfl ?_;refine aE rfl ?_;exact⟨rfl,aF rfl (by rw[b];exact Af _),rfl,rfl,rfl,trivial⟩
          · refine bh 4 rfl ?_;refine aE rfl ?_;exact⟨rfl,aF rfl (by rw[b];rfl),rfl,rfl,rfl,trivial⟩
        · refine G.ret func108 rfl rfl ?_;exact⟨_,rfl,rfl,e3⟩
   refine aI rfl rfl (fun hp=>?_) (fun hp=>?_)
   · have hp2:vX (dm s)=true:=by rw[Bool.and_eq_true] at hp;exact hp.2
     rw[if_pos hp2];refine G.cz func108 rfl ?_;refine bh 1 rfl ?_;refine xo rfl (aq (vs:=[_]) func144 rfl H.DU rfl (ah.bw (jG ((dm s).drop 1)))) ?_;rintro _ h4 ⟨rfl,e4⟩;refine aS 5 [0,2,3,4,5,19] rfl ?_;exact fin _ _ _ _ ⟨rfl,rfl,trivial⟩ (e1.trans e4) (if_pos hp)
   · refine aC rfl ?_;exact fin _ _ _ _ ⟨rfl,rfl,trivial⟩ e1 (if_neg (by rw[hp];decide))
end
end Go.Proofs.YtmehdcdbeafljaaGreatDoor
namespace Go.Proofs.YtmehdcdbeafljaaGreatDoor
open Go
mutual
def Tr.wt:Tr->Nat
 |.mk _ t l=>2*t.length+20+ji l
def ji:List Tr->Nat
 | []=>0
 |x::l=>x.wt+ji l
end
theorem yN {l:List Tr}{x:Tr}(h:x∈l):x.wt<=ji l:=by
 induction l with
 |nil=>cases h
 |cons a l ih =>
  rw[ji]
  rcases List.mem_cons.1 h with rfl|h
  · omega
  · have:=ih h;omega
theorem rM {k:Int}{t:By}{l:List Tr}{x:Tr}(h:x∈l):x.wt+20<=(Tr.mk k t l).wt:=by
 rw[Tr.wt];have:=yN h;omega
theorem DB (k:Int) (t:By) (l:List Tr):2*t.length+20<=(Tr.mk k t l).wt:=by rw[Tr.wt];omega
def tP (l:List By):Nat:=(l.map List.length).sum
theorem vD:∀l:List By,(eR l).length<=tP l+2*l.length
 | []=>by simp[eR]
 | [x]=>by simp[eR,tP]
 |x::y::l=>by
  have:=vD (y::l);rw[eR];simp only[List.length_append,List.length_cons,List.length_nil,tP,List.map_cons,List.sum_cons] at *;omega
theorem BJ (l:List By):(l.getD 0 []).length+(l.getD 1 []).length+(l.getD 2 []).length<=tP l:=by
 match l with
 | []=>simp
 | [a]=>simp[tP]
 | [a,b]=>simp[tP]
 |a::b::c::l=>simp[tP];omega
theorem EU (c:UInt8):(cH c).length<=2:=by unfold cH;split<;>simp
theorem ET (s:By):(ny s).length<=2*s.length+2:=by
 unfold ny;simp only[List.length_cons,List.length_append,List.length_nil]
 have:(s.flatMap cH).length<=2*s.length:=by
  induction s with
  |nil=>simp
  |cons c s ih=>rw[List.flatMap_cons,List.length_append,List.length_cons];have:=EU c;omega
 omega
theorem F9 (k:Int) (t:By) (l:List By):(ia k t l).length<=2*t.length+18+2*l.length+tP l:=by
 have h1:=ET t;have h2:=BJ l;have h3:=vD l;unfold ia pF
 repeat' split
 all_goals ((try simp only[List.length_append,List.length_cons,List.length_nil]);omega)
theorem HM (l:List By):(pF l).length<=18+tP l:=by
 have h2:=BJ l;unfold pF;simp only[List.length_append,List.length_cons,List.length_nil];omega
theorem lZ:∀(l:List Tr) (s:Bool) (i:Nat),(dG s i l).length=l.length
 | [],_,_=>by rw[dG];rfl
 |_::l,s,i=>by rw[dG,List.length_cons,lZ l];rfl
mutual
theorem iZ:∀(x:Tr) (b:Bool),(aV b x).length+2<=x.wt
 |.mk k t l,b=>by
  have h1:=nj l (decide (k=6)) 0;have h2:=F9 k t (dG (decide (k=6)) 0 l);have h3:=HM (dG (decide (k=6)) 0 l);have h4:=lZ l (decide (k=6)) 0;rw[aV,Tr.wt];split<;>omega
theorem nj:∀(l:List Tr) (s:Bool) (i:Nat),tP (dG s i l)+2*l.length<=ji l
 | [],_,_=>by rw[dG];simp[tP,ji]
 |x::l,s,i=>by
  have h1:=iZ x (s && decide (i=2));have h2:=nj l s (i+1);rw[dG,ji];simp only[tP,List.map_cons,List.sum_cons,List.length_cons] at *;omega
end
def DR (j:Nat) (c:UInt8):Bool:=isLet c ||(decide (j≠0) && cQ c)
def mR (s:By):Bool:=match s with| []=>false|c::r=>isLet c && r.all fun c=>isLet c ||cQ c
theorem ox (word:By->Bool) (s:By):eE word s=(mR s && !word s):=by cases s<;>rfl
theorem yf (s:By):mR s=true↔s≠[]/\∀j c,s[j]? =some c->DR j c=true:=by
 cases s with
 |nil=>simp[mR]
 |cons c r =>
  simp only[mR,Bool.and_eq_true,List.all_eq_true];constructor
  · intro ⟨h1,h2⟩;refine⟨by simp,fun j d hd=>?_⟩;cases j with
    |zero=>simp at hd;subst hd;unfold DR;rw[h1];rfl
    |succ j =>
     have:=h2 d (List.mem_of_getElem? (by simpa using hd));unfold DR;simpa using this
  · intro ⟨_,h⟩;refine⟨by simpa [DR] using h 0 c rfl,fun d hd=>?_⟩;obtain⟨j,hj⟩:=List.getElem?_of_mem hd;simpa [DR] using h (j+1) d (by simpa using hj)
theorem GV (word:By->Bool){s:By}{j:Nat}{c:UInt8}(h:s[j]? =some c) (hc:DR j c=false):eE word s=false:=by
 rw[ox]
 have:¬mR s=true:=fun q=>by
  have:=((yf s).1 q).2 j c h;rw[hc] at this;cases this
 rw[Bool.eq_false_iff.2 this];rfl
theorem E1 (word:By->Bool){s:By}(h0:s≠[]) (h:∀j c,s[j]? =some c->DR j c=true):eE word s= !word s:=by
 rw[ox,(yf s).2 ⟨h0,h⟩,Bool.true_and]
theorem E0 (word:By->Bool):eE word []=false:=rfl
theorem Fc (c:UInt8):isLet c=decide ((97<=c.toNat/\c.toNat<=122)\/(65<=c.toNat/\c.toNat<=90)\/c.toNat=95):=by
 have k:∀n:Fin 256,isLet (UInt8.ofFin n)=decide ((97<=(UInt8.ofFin n).toNat/\(UInt8.ofFin n).toNat<=122)\/(65<=(UInt8.ofFin n).toNat/\(UInt8.ofFin n).toNat<=90)\/(UInt8.ofFin n).toNat=95):=by unfold isLet;decide +kernel
 exact k c.toFin
theorem Ff (c:UInt8):cQ c=decide (48<=c.toNat/\c.toNat<=57):=by
 have k:∀n:Fin 256,cQ (UInt8.ofFin n)=decide (48<=(UInt8.ofFin n).toNat/\(UInt8.ofFin n).toNat<=57):=by unfold cQ;decide +kernel
 exact k c.toFin
end Go.Proofs.YtmehdcdbeafljaaGreatDoor
namespace Go.Proofs.YtmehdcdbeafljaaGreatDoor
open Go.Proofs.Tryz
open Go Go.Lw
set_option maxRecDepth 20000
section
variable {h:az}{x:Tr}{O:Nat->Prop}{v:Value}{l:List Tr}{α:Type}
structure Dz (h:az):Prop where
 lx:Ce h
 esc:pJ h
 una:∃v,cellAt h ⟨2,0,none⟩=some v/\bX oB h (fun _=>False) v qA
 bin:∃v,cellAt h ⟨3,0,none⟩=some v/\bX oB h (fun _=>False) v fV
theorem Dz.ax {h h':az}(k:Dz h) (e:aD h h'):Dz h':=by
 obtain⟨h1,h2,⟨v,h3,h4⟩,w,h5,h6⟩:=k;exact⟨h1.ax e,h2.ax e,⟨v,e.cell (fun k=>k) h3,h4.mv (Mv.ax e)⟩,⟨w,e.cell (fun k=>k) h5,h6.mv (Mv.ax e)⟩⟩
theorem wX (c:UInt8):ah Tryz.prog 146 #[.int .u8 (c.toNat:Nat)] h (dh fun r h'=>r= .bool (isLet c)/\h'=h):=by
 rw[Fc];refine ah.of func146 rfl rfl ?_;refine aZ func146 1 [0,2] rfl ?_;refine av rfl ?_;refine G.bF [(2,.bool (decide ((97<=c.toNat/\c.toNat<=122)\/(65<=c.toNat/\c.toNat<=90)\/c.toNat=95)))] [(0,_)] ⟨rfl,trivial⟩ func146 rfl ?_ ?_
 · refine bh 3 rfl ?_;refine aP (d:=5) rfl (fun a=>?_) (fun a=>?_)
   · have a:=of_decide_eq_true a;refine bh 4 rfl ?_;refine aP (d:=9) rfl (fun b=>?_) (fun b=>?_)
     · have b:=of_decide_eq_true b;refine bh 12 rfl ?_;refine aE rfl ?_;exact⟨rfl,aF rfl (by rw[decide_eq_true (by omega)]),rfl,trivial⟩
     · have b:=of_decide_eq_false b;refine bh 3 rfl ?_;refine aP (d:=12) rfl (fun d=>?_) (fun d=>?_)
       · have d:=of_decide_eq_true d;refine bh 5 rfl ?_;refine aP (d:=17) rfl (fun e=>?_) (fun e=>?_)
         · have e:=of_decide_eq_true e;refine bh 4 rfl ?_;refine aE rfl ?_;exact⟨rfl,aF rfl (by rw[decide_eq_true (by omega)]),rfl,trivial⟩
         · have e:=of_decide_eq_false e;refine bh 4 rfl ?_;refine aE rfl ?_;exact⟨rfl,aF rfl (by rw[decide_eq_decide];omega),rfl,trivial⟩
       · have d:=of_decide_eq_false d;refine bh 9 rfl ?_;refine aE rfl ?_;exact⟨rfl,aF rfl (by rw[decide_eq_decide];omega),rfl,trivial⟩
   · have a:=of_decide_eq_false a;refine bh 7 rfl ?_;refine aP (d:=12) rfl (fun d=>?_) (fun d=>?_)
     · have d:=of_decide_eq_true d;refine bh 5 rfl ?_;refine aP (d:=17) rfl (fun e=>?_) (fun e=>?_)
       · have e:=of_decide_eq_true e;refine bh 4 rfl ?_;refine aE rfl ?_;exact⟨rfl,aF rfl (by rw[decide_eq_true (by omega)]),rfl,trivial⟩
       · have e:=of_decide_eq_false e;refine bh 4 rfl ?_;refine aE rfl ?_;exact⟨rfl,aF rfl (by rw[decide_eq_decide];omega),rfl,trivial⟩
     · have d:=of_decide_eq_false d;refine bh 9 rfl ?_;refine aE rfl ?_;exact⟨rfl,aF rfl (by rw[decide_eq_decide];omega),rfl,trivial⟩
 · refine G.ret func146 rfl rfl ?_;exact⟨_,rfl,rfl,rfl⟩
theorem yL (c:UInt8):ah Tryz.prog 147 #[.int .u8 (c.toNat:Nat)] h (dh fun r h'=>r= .bool (cQ c)/\h'=h):=by
 rw[Ff];refine ah.of func147 rfl rfl ?_;refine aZ func147 1 [0,2] rfl ?_;refine av rfl ?_;refine G.bF [(2,.bool (decide (48<=c.toNat/\c.toNat<=57)))] [(0,_)] ⟨rfl,trivial⟩ func147 rfl ?_ ?_
 · refine bh 3 rfl ?_;refine aP (d:=5) rfl (fun a=>?_) (fun a=>?_)
   · have a:=of_decide_eq_true a;refine bh 4 rfl ?_;refine aE rfl ?_;exact⟨rfl,aF rfl (by rw[decide_eq_decide];omega),rfl,trivial⟩
   · have a:=of_decide_eq_false a;refine bh 4 rfl ?_;refine aE rfl ?_;exact⟨rfl,aF rfl (by rw[decide_eq_false (by omega)]),rfl,trivial⟩
 · refine G.ret func147 rfl rfl ?_;exact⟨_,rfl,rfl,rfl⟩
theorem nH (hg:Ce h) (s:By) (hs:s.length<=1000000):ah Tryz.prog 109 #[.string (bs s)] h (dh fun r h'=>r= .bool (eE bQ s)/\h'=h):=by
 have hbz:=bD s;refine ah.of func109 rfl rfl ?_;refine aZ func109 1 [0,2] rfl ?_;refine av rfl ?_;refine bq func109 1 rfl ?_;refine xp rfl (aj.bM underlying9 rfl) ?_;refine aS 1 [0,2,5,6] rfl ?_;refine G.block rfl rfl ?_;refine bG (σ:=Nat) (fun i=>[(0,.string (bs s)),(5,.int .i64 ((bs s).size:Nat)),(6,.int .i64 (i:Nat))]) (fun i g=>g=h/\i<=s.length/\∀j c,j<i->s[j]? =some c->DR j c=true) (fun i=>s.length-i) (0) rfl ⟨rfl,rfl,rfl,trivial⟩ ⟨rfl,Nat.zero_le _,fun j c q=>by omega⟩ ?_;rintro i g ⟨rfl,hi,hin⟩ ih;refine aZ func109 1 [0,5,6,7] rfl ?_;refine av rfl ?_;refine aO rfl rfl (fun hlt=>?_) (fun hlt=>?_)
 · have hil:i<s.length:=by omega
   obtain⟨c,hc⟩:∃c,s[i]? =some c:=⟨_,List.getElem?_eq_getElem hil⟩
   refine aC rfl ?_;refine av rfl ?_;refine G.block rfl rfl ?_;refine aZ func109 2 [0,3,5,6,7] rfl ?_;refine av rfl ?_;refine G.bF [(24,.bool (!DR i c))] [(0,_),(3,_),(5,_),(6,_),(7,_)] ⟨rfl,rfl,rfl,rfl,rfl,trivial⟩ func109 rfl ?_ ?_
   · refine cD 2 rfl rfl (aj.dz underlying9 rfl rfl i rfl (iD hc)) ?_;refine xo rfl (aq (vs:=[_]) func146 rfl H.LQ rfl (ah.bw (wX c))) ?_;rintro _ g1 ⟨rfl,hg1⟩;subst hg1;refine bh 2 rfl ?_;refine aP (d:=14) rfl (fun a=>?_) (fun a=>?_)
     · have a:isLet c=false:=by simpa using a
       refine bh 3 rfl ?_;refine aP (d:=17) rfl (fun z=>?_) (fun z=>?_)
       · have z:=of_decide_eq_true z;refine bh 7 rfl ?_;refine aE rfl ?_;exact⟨rfl,aF rfl (by unfold DR;rw[a,decide_eq_false (by omega)];rfl),rfl,rfl,rfl,rfl,rfl,trivial⟩
       · have z:=of_decide_eq_false z;refine cD 2 rfl rfl (aj.dz underlying9 rfl rfl i rfl (iD hc)) ?_;refine xo rfl (aq (vs:=[_]) func147 rfl H.LP rfl (ah.bw (yL c))) ?_;rintro _ g1 ⟨rfl,hg1⟩;subst hg1;refine bh 3 rfl ?_;refine aE rfl ?_;exact⟨rfl,aF rfl (by unfold DR;rw[a,decide_eq_true (show i≠0 by omega)];rfl),rfl,rfl,rfl,rfl,rfl,trivial⟩
     · have a:isLet c=true:=by simpa using a
       refine bh 10 rfl ?_;refine aE rfl ?_;exact⟨rfl,aF rfl (by unfold DR;rw[a];rfl),rfl,rfl,rfl,rfl,rfl,trivial⟩
   · refine aI rfl rfl (fun hb=>?_) (fun hb=>?_)
     · have hb:DR i c=false:=by simpa using hb
       refine aZ func109 1 [0,2,3,5,6,7,24] rfl ?_;refine G.ret func109 rfl rfl ?_;exact⟨_,rfl,by rw[GV bQ hc hb];rfl,rfl⟩
     · have hb:DR i c=true:=by simpa using hb
       refine aC rfl ?_;refine G.aR ?_;refine G.cz func109 rfl ?_;refine xp rfl (aj.bE rfl rfl ⟨by omega,by omega⟩) ?_;refine aS 1 [0,3,5,6,7,24] rfl ?_;exact ih (i+1) _ _ ⟨rfl,rfl,rfl,trivial⟩ ⟨rfl,hil,fun j d hj hd=>(Nat.lt_succ_iff_lt_or_eq.1 hj).elim (fun q=>hin j d q hd) (fun q=>by subst q;rw[hc] at hd;cases hd;exact hb)⟩ (by omega)
 · refine bA rfl rfl ?_;refine av rfl ?_;refine G.bF [(2,.bool (eE bQ s))] [(0,_),(5,_),(6,_),(7,_)] ⟨rfl,rfl,rfl,rfl,trivial⟩ func109 rfl ?_ ?_
   · refine cD 1 rfl rfl (aj.pU rfl rfl) ?_;refine bh 1 rfl ?_;refine aP (d:=28) rfl (fun a=>?_) (fun a=>?_)
     · have h0:s≠[]:=fun q=>by rw[q] at a;exact of_decide_eq_true a rfl
       refine bh 1 rfl ?_;refine xo rfl (aq (vs:=[_]) func67 rfl H.Lv rfl (ah.bw (uA hg s hs))) ?_;rintro _ g1 ⟨rfl,hg1⟩;subst hg1;refine bh 3 rfl ?_;refine aE rfl ?_;exact⟨rfl,aF rfl (by rw[E1 bQ h0 (fun j c hj=>hin j c (by have:=(List.getElem?_eq_some_iff.1 hj).1;omega) hj)]),rfl,rfl,rfl,rfl,trivial⟩
     · have h0:s=[]:=by simpa using eq_nil (s:=s) (by simpa using a)
       refine bh 5 rfl ?_;refine aE rfl ?_;exact⟨rfl,aF rfl (by rw[h0,E0]),rfl,rfl,rfl,rfl,trivial⟩
   · refine G.ret func109 rfl rfl ?_;exact⟨_,rfl,rfl,rfl⟩
theorem C0 (k:Int):ah Tryz.prog 107 #[.int .i64 k] h (dh fun r h'=>r=packed [.int .i64 ((cW k).1:Nat),.int .i64 ((cW k).2:Nat)]/\h'=h):=by
 refine ah.of func107 rfl rfl ?_;refine aZ func107 2 [0,2,3] rfl ?_;refine av rfl ?_;refine aZ func107 1 [0,2,3,4] rfl ?_;refine G.block rfl rfl ?_;refine av rfl ?_;refine aZ func107 2 [0,2,3,4,5] rfl ?_;refine aO rfl rfl (fun c4=>?_) (fun c4=>?_)
 · refine aC rfl ?_;refine aI rfl rfl (fun _=>?_) (fun hc=>absurd hc (by simp[c4]));refine aZ func107 2 [0,2,3,4,5] rfl ?_;refine G.ret func107 rfl rfl ?_;exact⟨_,rfl,by unfold cW;rw[if_pos (.inl c4)];rfl,rfl⟩
 · refine G.cz func107 rfl ?_;refine aS 2 [0,2,3,4,5] rfl ?_;refine aO rfl rfl (fun c8=>?_) (fun c8=>?_)
   · refine aZ func107 2 [0,2,3,4,5] rfl ?_;refine G.ret func107 rfl rfl ?_;exact⟨_,rfl,by unfold cW;rw[if_pos (.inr c8)];rfl,rfl⟩
   · refine av rfl ?_;refine aZ func107 2 [0,2,3,4,5,8] rfl ?_;refine aO rfl rfl (fun c5=>?_) (fun c5=>?_)
     · refine aC rfl ?_;refine aI rfl rfl (fun _=>?_) (fun hc=>absurd hc (by simp[c5]));refine aZ func107 2 [0,2,3,4,5,8] rfl ?_;refine G.ret func107 rfl rfl ?_;exact⟨_,rfl,by unfold cW;rw[if_neg (by omega),if_pos (.inl c5)];rfl,rfl⟩
     · refine G.cz func107 rfl ?_;refine aS 2 [0,2,3,4,5,8] rfl ?_;refine aO rfl rfl (fun c9=>?_) (fun c9=>?_)
       · refine aZ func107 2 [0,2,3,4,5,8] rfl ?_;refine G.ret func107 rfl rfl ?_;exact⟨_,rfl,by unfold cW;rw[if_neg (by omega),if_pos (.inr c9)];rfl,rfl⟩
       · refine aZ func107 2 [0,2,3,4,5,8,11] rfl ?_;refine aO rfl rfl (fun c6=>?_) (fun c6=>?_)
         · refine aZ func107 2 [0,2,3,4,5,8,11] rfl ?_;refine G.ret func107 rfl rfl ?_;exact⟨_,rfl,by unfold cW;rw[if_neg (by omega),if_neg (by omega),if_pos c6];rfl,rfl⟩
         · refine aZ func107 2 [0,2,3,4,5,8,11,13] rfl ?_;refine aO rfl rfl (fun c7=>?_) (fun c7=>?_)
           · refine aZ func107 2 [0,2,3,4,5,8,11,13] rfl ?_;refine G.ret func107 rfl rfl ?_;exact⟨_,rfl,by unfold cW;rw[if_neg (by omega),if_neg (by omega),if_neg c6,if_pos c7];rfl,rfl⟩
           · refine aZ func107 2 [0,2,3,4,5,8,11,13,15] rfl ?_;refine aO rfl rfl (fun c10=>?_) (fun c10=>?_)
             · refine aZ func107 2 [0,2,3,4,5,8,11,13,15] rfl ?_;refine G.ret func107 rfl rfl ?_;exact⟨_,rfl,by unfold cW;rw[if_neg (by omega),if_neg (by omega),if_neg c6,if_neg c7,if_pos c10];rfl,rfl⟩
             · refine aC rfl ?_;refine G.aR ?_;refine aZ func107 2 [0,2,3,4,5,8,11,13,15] rfl ?_;refine G.ret func107 rfl rfl ?_;exact⟨_,rfl,by unfold cW;rw[if_neg (by omega),if_neg (by omega),if_neg c6,if_neg c7,if_neg c10];rfl,rfl⟩
def bounds (k:Int) (n:Nat):Bool:=decide ((0<=k/\k<=10)/\(cW k).1<=n/\n<=(cW k).2)
theorem uL (word:By->Bool) (k:Int) (t:By) (n:Nat):fS word k t n=(bounds k n && dn word k t):=by
 unfold fS bounds;rw[Bool.eq_iff_iff];simp only[Bool.and_eq_true,decide_eq_true_eq];constructor
 · intro ⟨a,b,c,d,e⟩;exact⟨⟨⟨c,d⟩,a,b⟩,e⟩
 · intro ⟨⟨⟨c,d⟩,a,b⟩,e⟩;exact⟨a,b,c,d,e⟩
abbrev tN (k:Int) (t:By) (a:Option Addr) (n c:Nat):List Value:=[.int .i64 k,.string (bs t),.slice a n c]
theorem A0 (hg:Dz h) (k:Int) (t:By) (a:Option Addr) (n c:Nat) (ht:t.length<=1000000) :
 ah Tryz.prog 61 #[.agg #[.int .i64 k,.string (bs t),.slice a n c]] h (dh fun r h'=>r= .bool (fS bQ k t n)/\aD h h'):=by
 rw[uL];have hbz:=bD t;refine ah.of func61 rfl rfl ?_;refine xr func61 rfl ?_;refine xo rfl (aA.gP rfl) ?_;rintro _ h1 ⟨rfl,k1,e1,z1⟩;have k1:bp h1 h.size 25 (tN k t a n c):=k1;refine aS 1 [0,1,2] rfl ?_;refine xr func61 rfl ?_;refine xp rfl (af (off:=0) underlying25 rfl rfl H.cA rfl) ?_;refine xp rfl (ai H.de rfl (k1.cell (i:=0) rfl)) ?_;refine xo rfl (aq (vs:=[_]) func107 rfl H.L1 rfl (ah.bw (C0 k))) ?_;rintro _ h2 ⟨rfl,hh2⟩;subst hh2;refine aS 5 [0,1,2,3,4] rfl ?_;refine av rfl ?_;refine av rfl ?_;refine G.bF [(32,.bool (!bounds k n))] [(0,_),(1,_),(2,_),(3,_),(4,_)] ⟨rfl,rfl,rfl,rfl,rfl,trivial⟩ func61 rfl ?_ ?_
 · refine xp rfl (af (off:=0) underlying25 rfl rfl H.cA rfl) ?_;refine xp rfl (ai H.de rfl (k1.cell (i:=0) rfl)) ?_;refine bh 2 rfl ?_;refine aP (d:=14) rfl (fun a=>?_) (fun a=>?_)
   · have a:=of_decide_eq_true a;refine bh 18 rfl ?_;refine aE rfl ?_;exact⟨rfl,aF rfl (by unfold bounds;rw[decide_eq_false (by omega)];rfl),rfl,rfl,rfl,rfl,rfl,trivial⟩
   · have a:=of_decide_eq_false a;refine xp rfl (af (off:=0) underlying25 rfl rfl H.cA rfl) ?_;refine xp rfl (ai H.de rfl (k1.cell (i:=0) rfl)) ?_;refine bh 3 rfl ?_;refine aP (d:=19) rfl (fun b=>?_) (fun b=>?_)
     · have b:=of_decide_eq_true b;refine bh 13 rfl ?_;refine aE rfl ?_;exact⟨rfl,aF rfl (by unfold bounds;rw[decide_eq_false (by omega)];rfl),rfl,rfl,rfl,rfl,rfl,trivial⟩
     · have b:=of_decide_eq_false b;refine xp rfl (af (off:=2) underlying25 rfl rfl H.gq rfl) ?_;refine xp rfl (ai H.ng rfl (k1.cell (i:=2) rfl)) ?_;refine xp rfl (aj.aJ underlying23 rfl) ?_;refine bh 4 rfl ?_;refine aP (d:=26) rfl (fun d=>?_) (fun d=>?_)
       · have d:=of_decide_eq_true d;refine bh 6 rfl ?_;refine aE rfl ?_;exact⟨rfl,aF rfl (by unfold bounds;rw[decide_eq_false (by omega)];rfl),rfl,rfl,rfl,rfl,rfl,trivial⟩
       · have d:=of_decide_eq_false d;refine xp rfl (af (off:=2) underlying25 rfl rfl H.gq rfl) ?_;refine xp rfl (ai H.ng rfl (k1.cell (i:=2) rfl)) ?_;refine xp rfl (aj.aJ underlying23 rfl) ?_;refine bh 3 rfl ?_;refine aE rfl ?_;exact⟨rfl,aF rfl (by unfold bounds;rw[<-decide_not,decide_eq_decide];omega),rfl,rfl,rfl,rfl,rfl,trivial⟩
 · refine aI rfl rfl (fun hb=>?_) (fun hb=>?_)
   · have hb:bounds k n=false:=by simpa using hb
     rw[hb];refine aZ func61 1 [0,1,2,3,4,32] rfl ?_;refine G.ret func61 rfl rfl ?_;exact⟨_,rfl,rfl,e1⟩
   · have hb:bounds k n=true:=by simpa using hb
     rw[hb,Bool.true_and];refine aC rfl ?_;refine av rfl ?_;refine xr func61 rfl ?_;refine xp rfl (af (off:=0) underlying25 rfl rfl H.cA rfl) ?_;refine xp rfl (ai H.de rfl (k1.cell (i:=0) rfl)) ?_;refine xd [0,1,2,3,4,32,34] rfl ?_;refine G.block rfl rfl ?_;refine aZ func61 2 [0,1,2,3,4,32,34,35] rfl ?_;refine aO rfl rfl (fun c0=>?_) (fun c0=>?_)
     · refine xr func61 rfl ?_;refine xp rfl (af (off:=1) underlying25 rfl rfl H.fL rfl) ?_;refine xp rfl (ai H.gj rfl (k1.cell (i:=1) rfl)) ?_;refine xo rfl (aq (vs:=[_]) func108 rfl H.L0 rfl (ah.bw (xy t))) ?_;rintro _ h3 ⟨rfl,e3⟩;refine aS 1 [0,1,2,3,4,32,34,35] rfl ?_;refine G.ret func61 rfl rfl ?_;exact⟨_,rfl,by unfold dn;rw[if_pos c0];rfl,e1.trans e3⟩
     · refine aZ func61 2 [0,1,2,3,4,32,34,35,40] rfl ?_;refine aO rfl rfl (fun c1=>?_) (fun c1=>?_)
       · refine xr func61 rfl ?_;refine xp rfl (af (off:=1) underlying25 rfl rfl H.fL rfl) ?_;refine xp rfl (ai H.gj rfl (k1.cell (i:=1) rfl)) ?_;refine xp rfl (aj.bM underlying9 rfl) ?_;refine aS 2 [0,1,2,3,4,32,34,35,40] rfl ?_;refine G.ret func61 rfl rfl ?_;exact⟨_,rfl,by unfold dn;rw[if_neg c0,if_pos c1];show Value.bool _=_;rw[hbz];simp only[Value.bool.injEq,decide_eq_decide];omega,e1⟩
       · refine aZ func61 2 [0,1,2,3,4,32,34,35,40,46] rfl ?_;refine aO rfl rfl (fun c2=>?_) (fun c2=>?_)
         · refine av rfl ?_;refine G.bF [(2,.bool (decide (t=gU) ||decide (t=gk)))] [(0,_),(1,_),(3,_),(4,_),(32,_),(34,_),(35,_),(40,_),(46,_)] ⟨rfl,rfl,rfl,rfl,rfl,rfl,rfl,rfl,rfl,trivial⟩ func61 rfl ?_ ?_
           · refine xp rfl (af (off:=1) underlying25 rfl rfl H.fL rfl) ?_;refine xp rfl (ai H.gj rfl (k1.cell (i:=1) rfl)) ?_;refine xp rfl (aj.dX rfl rfl) ?_;refine bh 1 rfl ?_;refine aP (d:=51) rfl (fun g=>?_) (fun g=>?_)
             · have g:t=gU:=eT (m:=gU) (of_decide_eq_true g);refine bh 5 rfl ?_;refine aE rfl ?_;exact⟨rfl,aF rfl (by rw[decide_eq_true g];rfl),rfl,rfl,rfl,rfl,rfl,rfl,rfl,rfl,rfl,trivial⟩
             · have g:¬t=gU:=fun q=>of_decide_eq_false g (by rw[q];rfl)
               refine xp rfl (af (off:=1) underlying25 rfl rfl H.fL rfl) ?_;refine xp rfl (ai H.gj rfl (k1.cell (i:=1) rfl)) ?_;refine xp rfl (aj.dX rfl rfl) ?_;refine bh 2 rfl ?_;refine aE rfl ?_;exact⟨rfl,aF rfl (by rw[decide_eq_false g,Bool.false_or];exact JX t gk),rfl,rfl,rfl,rfl,rfl,rfl,rfl,rfl,rfl,trivial⟩
           · refine G.ret func61 rfl rfl ?_;exact⟨_,rfl,by unfold dn;rw[if_neg c0,if_neg c1,if_pos c2];rfl,e1⟩
         · refine av rfl ?_;refine aZ func61 2 [0,1,2,3,4,32,34,35,40,46,56] rfl ?_;refine aO rfl rfl (fun c3=>?_) (fun c3=>?_)
           · refine aC rfl ?_;refine aI rfl rfl (fun _=>?_) (fun hc=>absurd hc (by simp[c3]));refine xr func61 rfl ?_;refine xp rfl (af (off:=1) underlying25 rfl rfl H.fL rfl) ?_;refine xp rfl (ai H.gj rfl (k1.cell (i:=1) rfl)) ?_;refine xo rfl (aq (vs:=[_]) func109 rfl H.GP rfl (ah.bw (nH (hg.ax e1).lx t ht))) ?_;rintro _ h3 ⟨rfl,hh3⟩;refine aS 1 [0,1,2,3,4,32,34,35,40,46,56] rfl ?_;refine G.ret func61 rfl rfl ?_;exact⟨_,rfl,by unfold dn;rw[if_neg c0,if_neg c1,if_neg c2,if_pos (.inl c3)];rfl,by rw[hh3];exact e1⟩
           · refine aZ func61 2 [0,1,2,3,4,32,34,35,40,46,56] rfl ?_;refine aO rfl rfl (fun c7=>?_) (fun c7=>?_)
             · refine aC rfl ?_;refine aI rfl rfl (fun _=>?_) (fun hc=>absurd hc (by simp[c7]));refine xr func61 rfl ?_;refine xp rfl (af (off:=1) underlying25 rfl rfl H.fL rfl) ?_;refine xp rfl (ai H.gj rfl (k1.cell (i:=1) rfl)) ?_;refine xo rfl (aq (vs:=[_]) func109 rfl H.GP rfl (ah.bw (nH (hg.ax e1).lx t ht))) ?_;rintro _ h3 ⟨rfl,hh3⟩;refine aS 1 [0,1,2,3,4,32,34,35,40,46,56] rfl ?_;refine G.ret func61 rfl rfl ?_;exact⟨_,rfl,by unfold dn;rw[if_neg c0,if_neg c1,if_neg c2,if_pos (.inr (.inl c7))];rfl,by rw[hh3];exact e1⟩
             · refine G.cz func61 rfl ?_;refine aS 2 [0,1,2,3,4,32,34,35,40,46,56] rfl ?_;refine aO rfl rfl (fun c8=>?_) (fun c8=>?_)
               · refine xr func61 rfl ?_;refine xp rfl (af (off:=1) underlying25 rfl rfl H.fL rfl) ?_;refine xp rfl (ai H.gj rfl (k1.cell (i:=1) rfl)) ?_;refine xo rfl (aq (vs:=[_]) func109 rfl H.GP rfl (ah.bw (nH (hg.ax e1).lx t ht))) ?_;rintro _ h3 ⟨rfl,hh3⟩;refine aS 1 [0,1,2,3,4,32,34,35,40,46,56] rfl ?_;refine G.ret func61 rfl rfl ?_;exact⟨_,rfl,by unfold dn;rw[if_neg c0,if_neg c1,if_neg c2,if_pos (.inr (.inr c8))];rfl,by rw[hh3];exact e1⟩
               · refine aZ func61 2 [0,1,2,3,4,32,34,35,40,46,56,63] rfl ?_;refine aO rfl rfl (fun c4=>?_) (fun c4=>?_)
                 · obtain⟨uv,hu1,hu2⟩:=(hg.ax e1).una;refine xr func61 rfl ?_;refine xp rfl (ai H.I8 rfl hu1) ?_;refine xp rfl (af (off:=1) underlying25 rfl rfl H.fL rfl) ?_;refine xp rfl (ai H.gj rfl (k1.cell (i:=1) rfl)) ?_;refine xo rfl (aq (vs:=[_,_]) func90 rfl H.Kr rfl (ah.bw (qd hu2 t))) ?_;rintro _ h3 ⟨rfl,hh3⟩;refine aS 1 [0,1,2,3,4,32,34,35,40,46,56,63] rfl ?_;refine G.ret func61 rfl rfl ?_;exact⟨_,rfl,by unfold dn;rw[if_neg c0,if_neg c1,if_neg c2,if_neg (by omega),if_pos c4];rfl,by rw[hh3];exact e1⟩
                 · refine aZ func61 2 [0,1,2,3,4,32,34,35,40,46,56,63,69] rfl ?_;refine aO rfl rfl (fun c5=>?_) (fun c5=>?_)
                   · obtain⟨uv,hu1,hu2⟩:=(hg.ax e1).bin;refine xr func61 rfl ?_;refine xp rfl (ai H.I8 rfl hu1) ?_;refine xp rfl (af (off:=1) underlying25 rfl rfl H.fL rfl) ?_;refine xp rfl (ai H.gj rfl (k1.cell (i:=1) rfl)) ?_;refine xo rfl (aq (vs:=[_,_]) func90 rfl H.Kr rfl (ah.bw (qd hu2 t))) ?_;rintro _ h3 ⟨rfl,hh3⟩;refine aS 1 [0,1,2,3,4,32,34,35,40,46,56,63,69] rfl ?_;refine G.ret func61 rfl rfl ?_;exact⟨_,rfl,by unfold dn;rw[if_neg c0,if_neg c1,if_neg c2,if_neg (by omega),if_neg c4,if_pos c5];rfl,by rw[hh3];exact e1⟩
                   · refine aC rfl ?_;refine G.aR ?_;refine xr func61 rfl ?_;refine xp rfl (af (off:=1) underlying25 rfl rfl H.fL rfl) ?_;refine xp rfl (ai H.gj rfl (k1.cell (i:=1) rfl)) ?_;refine xp rfl (aj.dX rfl rfl) ?_;refine aS 1 [0,1,2,3,4,32,34,35,40,46,56,63,69] rfl ?_;refine G.ret func61 rfl rfl ?_;exact⟨_,rfl,by unfold dn;rw[if_neg c0,if_neg c1,if_neg c2,if_neg (by omega),if_neg c4,if_neg c5];show Value.bool _=_;rw[<-Af],e1⟩
def alone (x:Tr):Bool:=decide (x.kind≠7) ||decide (x.kids.length=2)
def Hj (k:Int) (i:Nat) (x:Tr):Bool:=decide (k≠6) ||(decide (i=0) ||(decide (x.kind=10) ||(decide (i≠1) && decide (x.kind=6))))
theorem G9 (k:Int) (i:Nat) (x:Tr):fI k i x=((decide (k=10) ||alone x) && Hj k i x):=by cases x;rfl
theorem Hi (k:Int) (i:Nat) (x:Tr):(!Hj k i x)=decide (k=6/\0<i/\x.kind≠10/\(i=1\/x.kind≠6)):=by
 unfold Hj;rw[Bool.eq_iff_iff,Bool.not_eq_true',Bool.eq_false_iff];simp only[ne_eq,Bool.or_eq_true,Bool.and_eq_true,decide_eq_true_eq];omega
def J5 (x:Tr):Prop:=∀(h:az) (O:Nat->Prop) (v:Value),Dz h->fZ h O v x->ah Tryz.prog 32 #[v] h (dh fun r h'=>r= .bool (bY bQ x)/\aD h h')
theorem AH (hs:J5 x) (hg:Dz h) (hv:fZ h O v x):ah Tryz.prog 62 #[v] h (dh fun r h'=>r= .bool (bY bQ x && alone x)/\aD h h'):=by
 cases x with
 |mk k t l =>
  obtain⟨w,rfl,hw⟩:=id hv.open;obtain⟨a,n,c,rfl,hws⟩:=id hw.open;have hn:l.length=n:=hws.len;refine ah.of func62 rfl rfl ?_;refine xr func62 rfl ?_;refine xo rfl (aA.gP rfl) ?_;rintro _ h1 ⟨rfl,k1,e1,z1⟩;have k1:bp h1 h.size 25 (tN k t a n c):=k1;have hcall:=hs h1 O _ (hg.ax e1) (hv.mv (Mv.ax e1));refine aS 1 [0,1,2] rfl ?_;refine av rfl ?_;refine G.uU (fun(u:Unit) (h':az)=>aD h1 h') (fun(u:Unit)=>[(2,.bool (bY bQ (.mk k t l) && alone (.mk k t l)))]) [(0,_),(1,_)] ⟨rfl,rfl,trivial⟩ func62 rfl ?_ ?_
  · refine xp rfl (aj.aH H.bO H.aU rfl k1.row (by first|rfl|(simp;done)|(simp;omega))) ?_;refine xo rfl (aq (vs:=[_]) func32 rfl H.Ks rfl (ah.bw (hcall))) ?_;rintro _ h2 ⟨rfl,e2⟩;refine bh 1 rfl ?_;refine aP (d:=5) rfl (fun a=>?_) (fun a=>?_)
    · refine xp rfl (af (off:=0) underlying25 rfl rfl H.cA rfl) ?_;refine xp rfl (ai H.de rfl ((k1.ax e2).cell (i:=0) rfl)) ?_;refine bh 2 rfl ?_;refine aP (d:=9) rfl (fun b=>?_) (fun b=>?_)
      · have b:¬k=7:=by simpa using b
        refine bh 7 rfl ?_;refine aE rfl ?_;exact⟨(),e2,aF rfl (by rw[a];unfold alone;rw[decide_eq_true (show Tr.kind (.mk k t l)≠7 from b)];rfl),rfl,rfl,trivial⟩
      · have b:k=7:=by simpa using b
        refine xp rfl (af (off:=2) underlying25 rfl rfl H.gq rfl) ?_;refine xp rfl (ai H.ng rfl ((k1.ax e2).cell (i:=2) rfl)) ?_;refine xp rfl (aj.aJ underlying23 rfl) ?_;refine bh 4 rfl ?_;refine aE rfl ?_;exact⟨(),e2,aF rfl (by rw[a,Bool.true_and];unfold alone;rw[decide_eq_false (show ¬Tr.kind (.mk k t l)≠7 from fun q=>q b),Bool.false_or,<-hn,decide_eq_decide];show _↔l.length=2;omega),rfl,rfl,trivial⟩
    · refine bh 11 rfl ?_;refine aE rfl ?_;exact⟨(),e2,aF rfl (by rw[a];rfl),rfl,rfl,trivial⟩
  · rintro u h2 e2;refine G.ret func62 rfl rfl ?_;exact⟨_,rfl,rfl,e1.trans e2⟩
theorem sO (word:By->Bool) (k:Int) (i:Nat) (x:Tr) (l:List Tr):fe word k i (x::l)=((bY word x && fI k i x) && fe word k (i+1) l):=by rw[fe]
theorem rO (word:By->Bool) (k:Int) (t:By) (l:List Tr):bY word (.mk k t l)=(fS word k t l.length && fe word k 0 l):=by rw[bY]
theorem Cx:∀(d:Nat) (x:Tr),x.dep<=d->x.wt<=1000000->J5 x:=by
 intro d
 induction d with
 |zero=>intro x hx;cases x with|mk k t l=>simp[Tr.dep] at hx
 |succ d ih =>
 intro x hd hwt h O v hg hv;cases x with
 |mk k t l =>
  obtain⟨w,rfl,hw⟩:=id hv.open;obtain⟨a,n,c,rfl,hws⟩:=id hw.open;have hn:l.length=n:=hws.len;subst hn;have hcap:=hws.cap;have hle:=hws.le;simp only[maxLen] at hcap;have htl:=DB k t l;rw[rO];refine ah.of func32 rfl rfl ?_;refine xr func32 rfl ?_;refine xo rfl (aA.gP rfl) ?_;rintro _ h1 ⟨rfl,k1,e1,z1⟩;have k1:bp h1 h.size 25 (tN k t a l.length c):=k1;refine aS 1 [0,1,2] rfl ?_;refine av rfl ?_;refine xr func32 rfl ?_;refine xp rfl (aj.aH H.bO H.aU rfl k1.row (by first|rfl|(simp;done)|(simp;omega))) ?_;refine xo rfl (aq (vs:=[_]) func61 rfl H.Nf rfl (ah.bw (A0 (hg.ax e1) k t a l.length c (by omega)))) ?_;rintro _ h2 ⟨rfl,e2⟩;have e02:=e1.trans e2;have k2:=k1.ax e2;refine aS 1 [0,1,2,7] rfl ?_;refine aI rfl rfl (fun hs=>?_) (fun hs=>?_)
  · have hs:fS bQ k t l.length=false:=by simpa using hs
    refine aZ func32 1 [0,1,2,7] rfl ?_;refine G.ret func32 rfl rfl ?_;exact⟨_,rfl,by rw[hs];rfl,e02⟩
  · have hs:fS bQ k t l.length=true:=by simpa using hs
    rw[hs,Bool.true_and];refine aC rfl ?_;refine av rfl ?_;refine xr func32 rfl ?_;refine xp rfl (af (off:=2) underlying25 rfl rfl H.gq rfl) ?_;refine xp rfl (ai H.ng rfl (k2.cell (i:=2) rfl)) ?_;refine xp rfl (aj.aJ underlying23 rfl) ?_;refine aS 1 [0,1,2,7,9,10,11] rfl ?_;refine G.block rfl rfl ?_;refine bG (σ:=Nat) (fun i=>[(1,ptr h.size),(9,.slice a l.length c),(10,.int .i64 (l.length:Nat)),(11,.int .i64 (i:Nat))]) (fun i g=>i<=l.length/\aD h2 g/\fe bQ k i (l.drop i)=fe bQ k 0 l) (fun i=>l.length-i) (0) rfl ⟨rfl,rfl,rfl,rfl,trivial⟩ ⟨Nat.zero_le _,Ext.refl _ _,rfl⟩ ?_;rintro i g ⟨hi,eg,hq⟩ ihL;have kg:=k2.ax eg;have e0g:=e02.trans eg;refine aZ func32 1 [1,9,10,11,12] rfl ?_;refine av rfl ?_;refine aO rfl rfl (fun hlt=>?_) (fun hlt=>?_)
    · have hil:i<l.length:=by omega
      have hwsg:=hws.mv (Mv.ax e0g);obtain⟨b,o,x,cs,ha,hob,hx,hrow,hR⟩:=Sl.nd hwsg hil;have hxm:x∈l:=List.mem_of_getElem? hx;have hxw:=rM (k:=k) (t:=t) hxm
      have hdr:l.drop i=x::l.drop (i+1):=by
       obtain⟨h1,h2⟩:=List.getElem?_eq_some_iff.1 hx;rw[List.drop_eq_getElem_cons h1,h2]
      rw[hdr,sO,G9] at hq;obtain⟨xk,xt,xa,xn,xc,hcs,hR'⟩:=(fZ.of hR).get;obtain rfl:cs=[.int .i64 xk,.string (bs xt),.slice xa xn xc]:=by have:=congrArg (fun v=>match v with|Value.agg cs=>cs.toList|_=>[]) hcs;simpa using this
      have hxk:xk=x.kind:=by cases x with|mk k' t' l'=>obtain⟨v',hv1,_⟩:=jE hR;cases hv1;rfl
      have hst:=ih x (by have:=uo (k:=k) (t:=t) hxm;omega) (by omega);refine aC rfl ?_;refine av rfl ?_;refine G.block rfl rfl ?_;refine bq func32 1 rfl ?_;refine xp rfl (aj.ay underlying23 H.aU rfl rfl i rfl ha (by omega)) ?_;refine xp rfl (aj.aH H.bO H.aU rfl hrow (by first|rfl|(simp;done)|(simp;omega))) ?_;refine xo rfl (aA.aY H.fc) ?_;rintro _ g1 ⟨rfl,kn,e3,z3⟩;refine bh 1 rfl ?_;refine RW.cu rfl rfl rfl (aA.aB H.aU rfl rfl kn (by first|rfl|(simp;done)|(simp;omega)) (by first|decide|exact of_decide_eq_true rfl|(simp;done)|(simp;omega)) (jD)) ?_;rintro _ g2 ⟨rfl,kx,x2,z2⟩;have kx:bp g2 g.size 25 [.int .i64 xk,.string (bs xt),.slice xa xn xc]:=kx;have eg2:aD g g2:=aD.only e3 x2 (Nat.le_refl _);have kg2:=kg.ax eg2;have hg2:=hg.ax (e0g.trans eg2);have hnx:=(fZ.of hR).mv (Mv.ax eg2);have hcs:=hst g2 O _ hg2 hnx;have hcv:=AH hst hg2 hnx;refine xd [1,3,4,9,10,11,12] rfl ?_;refine av rfl ?_;refine av rfl ?_;refine G.uU (fun(u:Unit) (h':az)=>aD g2 h') (fun(u:Unit)=>[(33,.bool (!(bY bQ x && (decide (k=10) ||alone x))))]) [(1,_),(3,_),(4,_),(9,_),(10,_),(11,_),(12,_)] ⟨rfl,rfl,rfl,rfl,rfl,rfl,rfl,trivial⟩ func32 rfl ?_ ?_
      · refine xp rfl (af (off:=0) underlying25 rfl rfl H.cA rfl) ?_;refine xp rfl (ai H.de rfl (kg2.cell (i:=0) rfl)) ?_;refine bh 2 rfl ?_;refine aP (d:=19) rfl (fun p=>?_) (fun p=>?_)
        · have p:=of_decide_eq_true p;refine xp rfl (aj.aH H.bO H.aU rfl kx.row (by first|rfl|(simp;done)|(simp;omega))) ?_;refine xo rfl (aq (vs:=[_]) func32 rfl H.Ks rfl (ah.bw (hcs))) ?_;rintro _ g3 ⟨rfl,e4⟩;refine bh 3 rfl ?_;refine aP (d:=24) rfl (fun q=>?_) (fun q=>?_)
          · refine bh 9 rfl ?_;refine aE rfl ?_;exact⟨(),e4,aF rfl (by have q:bY bQ x=false:=by { simpa using q };rw[q];rfl),rfl,rfl,rfl,rfl,rfl,rfl,rfl,trivial⟩
          · have q:bY bQ x=true:=by simpa using q
            refine xp rfl (af (off:=0) underlying25 rfl rfl H.cA rfl) ?_;refine xp rfl (ai H.de rfl ((kg2.ax e4).cell (i:=0) rfl)) ?_;refine bh 2 rfl ?_;refine RW.dw (d:=28) (b':=false) rfl ((by rw[p];rfl)) ?_;refine bh 5 rfl ?_;refine aE rfl ?_;exact⟨(),e4,aF rfl (by rw[q,decide_eq_true p];rfl),rfl,rfl,rfl,rfl,rfl,rfl,rfl,trivial⟩
        · have p:=of_decide_eq_false p;refine cD 5 rfl rfl (af (off:=0) underlying25 rfl rfl H.cA rfl) ?_;refine RW.dw (d:=24) (b':=false) rfl (rfl) ?_;refine xp rfl (ai H.de rfl (kg2.cell (i:=0) rfl)) ?_;refine bh 2 rfl ?_;refine RW.dw (d:=28) (b':=true) rfl ((by simpa using p)) ?_;refine xp rfl (aj.aH H.bO H.aU rfl kx.row (by first|rfl|(simp;done)|(simp;omega))) ?_;refine xo rfl (aq (vs:=[_]) func62 rfl H.Nc rfl (ah.bw (hcv))) ?_;rintro _ g3 ⟨rfl,e4⟩;refine bh 3 rfl ?_;refine aE rfl ?_;exact⟨(),e4,aF rfl (by rw[decide_eq_false p,Bool.false_or]),rfl,rfl,rfl,rfl,rfl,rfl,rfl,trivial⟩
      · rintro u g3 e4;have kg3:=kg2.ax e4;have kx3:=kx.ax e4;refine aI rfl rfl (fun hb=>?_) (fun hb=>?_)
        · have hb:(bY bQ x && (decide (k=10) ||alone x))=false:=by rw[Bool.not_eq_true'] at hb;exact hb
          refine aZ func32 1 [1,2,3,4,9,10,11,12,33] rfl ?_;refine G.ret func32 rfl rfl ?_;refine⟨_,rfl,?_,(e0g.trans eg2).trans e4⟩;rw[<-hq,<-Bool.and_assoc,hb];rfl
        · have hb:(bY bQ x && (decide (k=10) ||alone x))=true:=by rw[Bool.not_eq_false'] at hb;exact hb
          rw[<-Bool.and_assoc,hb,Bool.true_and] at hq;refine aC rfl ?_;refine av rfl ?_;refine G.bF [(54,.bool (decide (k=6/\0<i/\xk≠10/\(i=1\/xk≠6))))] [(1,_),(3,_),(4,_),(9,_),(10,_),(11,_),(12,_),(33,_)] ⟨rfl,rfl,rfl,rfl,rfl,rfl,rfl,rfl,trivial⟩ func32 rfl ?_ ?_
          · refine xp rfl (af (off:=0) underlying25 rfl rfl H.cA rfl) ?_;refine xp rfl (ai H.de rfl (kg3.cell (i:=0) rfl)) ?_;refine bh 2 rfl ?_;refine aP (d:=37) rfl (fun p=>?_) (fun p=>?_)
            · have p:=of_decide_eq_true p;refine bh 4 rfl ?_;refine aP (d:=41) rfl (fun q=>?_) (fun q=>?_)
              · have q:=of_decide_eq_true q;refine xp rfl (af (off:=0) underlying25 rfl rfl H.cA rfl) ?_;refine xp rfl (ai H.de rfl (kx3.cell (i:=0) rfl)) ?_;refine bh 3 rfl ?_;refine aP (d:=46) rfl (fun r=>?_) (fun r=>?_)
                · have r:¬xk=10:=by simpa using r
                  refine bh 3 rfl ?_;refine aP (d:=49) rfl (fun s=>?_) (fun s=>?_)
                  · have s:=of_decide_eq_true s;refine bh 5 rfl ?_;refine aE rfl ?_;exact⟨rfl,aF rfl (by rw[decide_eq_true (by omega)]),rfl,rfl,rfl,rfl,rfl,rfl,rfl,rfl,trivial⟩
                  · have s:=of_decide_eq_false s;refine xp rfl (af (off:=0) underlying25 rfl rfl H.cA rfl) ?_;refine xp rfl (ai H.de rfl (kx3.cell (i:=0) rfl)) ?_;refine bh 3 rfl ?_;refine aE rfl ?_;exact⟨rfl,aF rfl (by rw[decide_eq_decide];omega),rfl,rfl,rfl,rfl,rfl,rfl,rfl,rfl,trivial⟩
                · have r:xk=10:=by simpa using r
                  refine bh 8 rfl ?_;refine aE rfl ?_;exact⟨rfl,aF rfl (by rw[decide_eq_false (by omega)]),rfl,rfl,rfl,rfl,rfl,rfl,rfl,rfl,trivial⟩
              · have q:=of_decide_eq_false q;refine bh 13 rfl ?_;refine aE rfl ?_;exact⟨rfl,aF rfl (by rw[decide_eq_false (by omega)]),rfl,rfl,rfl,rfl,rfl,rfl,rfl,rfl,trivial⟩
            · have p:=of_decide_eq_false p;refine bh 17 rfl ?_;refine aE rfl ?_;exact⟨rfl,aF rfl (by rw[decide_eq_false (by omega)]),rfl,rfl,rfl,rfl,rfl,rfl,rfl,rfl,trivial⟩
          · rw[hxk,<-Hi];refine aI rfl rfl (fun hb2=>?_) (fun hb2=>?_)
            · have hb2:Hj k i x=false:=by simpa using hb2
              refine aZ func32 1 [1,2,3,4,9,10,11,12,33,54] rfl ?_;refine G.ret func32 rfl rfl ?_;exact⟨_,rfl,by rw[<-hq,hb2];rfl,(e0g.trans eg2).trans e4⟩
            · have hb2:Hj k i x=true:=by simpa using hb2
              rw[hb2,Bool.true_and] at hq;refine aC rfl ?_;refine G.aR ?_;refine G.cz func32 rfl ?_;refine xp rfl (aj.bE rfl rfl ⟨by omega,by omega⟩) ?_;refine aS 1 [1,3,4,9,10,11,12,33,54] rfl ?_;exact ihL (i+1) _ _ ⟨rfl,rfl,rfl,rfl,trivial⟩ ⟨hil,(eg.trans eg2).trans e4,hq⟩ (by omega)
    · obtain rfl:i=l.length:=by omega
      rw[List.drop_length] at hq;refine bA rfl rfl ?_;refine aZ func32 1 [1,2,9,10,11,12] rfl ?_;refine G.ret func32 rfl rfl ?_;exact⟨_,rfl,by rw[<-hq];rfl,e0g⟩
theorem sM (hw:x.wt<=1000000) (hg:Dz h) (hv:fZ h O v x):ah Tryz.prog 13 #[v] h (dh fun r h'=>r= .bool (bY bQ x)/\aD h h'):=by
 obtain⟨k,t,a,n,c,rfl,hR⟩:=id hv.get;refine ah.of func13 rfl rfl ?_;refine xr func13 rfl ?_;refine xo rfl (aA.gP rfl) ?_;rintro _ h1 ⟨rfl,k1,e1,z1⟩;have hcall:=Cx _ x (Nat.le_refl _) hw h1 O _ (hg.ax e1) (hv.mv (Mv.ax e1));refine aS 1 [0,1,2] rfl ?_;refine xr func13 rfl ?_;refine xp rfl (aj.aH H.bO H.aU rfl k1.row (by first|rfl|(simp;done)|(simp;omega))) ?_;refine xo rfl (aq (vs:=[_]) func32 rfl H.Ks rfl (ah.bw (hcall))) ?_;rintro _ h2 ⟨rfl,e2⟩;refine aS 1 [0,1,2] rfl ?_;refine G.ret func13 rfl rfl ?_;exact⟨_,rfl,rfl,e1.trans e2⟩
theorem nN {a:Option Addr}{n c:Nat}(hws:Sl eN h O a n c l){i:Nat}(hi:i<n) :
 ∃b o x xk xt xa xn xc,a=some ⟨b,o,none⟩/\l[i]? =some x/\Lw.rowAt h b (o+i*3) (tN xk xt xa xn xc)/\fZ h O (.agg #[.int .i64 xk,.string (bs xt),.slice xa xn xc]) x/\xk=x.kind/\¬O b:=by
 obtain⟨b,o,x,cs,ha,hob,hx,hrow,hR⟩:=Sl.nd hws hi;cases x with
 |mk k t m =>
  obtain⟨v,rfl,hs⟩:=jE hR;obtain⟨xa,xn,xc,rfl,_⟩:=id hs.open;exact⟨b,o,_,k,t,xa,xn,xc,ha,hx,hrow,fZ.of hR,rfl,hob⟩
theorem xJ {word:By->Bool}{k:Int}:∀{l:List Tr}{i:Nat}{x:Tr},fe word k i l=true->x∈l->bY word x=true
 | [],_,_,_,h=>by cases h
 |y::l,i,x,q,h=>by
  rw[sO,Bool.and_eq_true,Bool.and_eq_true] at q
  rcases List.mem_cons.1 h with rfl|h
  · exact q.1.1
  · exact xJ q.2 h
theorem rT:∀(l:List Tr) (i:Nat),dG false i l=l.map (aV false)
 | [],_=>by rw[dG];rfl
 |x::l,i=>by rw[dG,rT l,Bool.false_and];rfl
theorem uK (b:Bool) (k:Int) (t:By) (l:List Tr):aV b (.mk k t l)=if k=6/\b=true then pF (dG (decide (k=6)) 0 l) else ia k t (dG (decide (k=6)) 0 l):=by rw[aV]
theorem iH {k:Int}(h:k≠6) (b:Bool) (t:By) (l:List Tr):aV b (.mk k t l)=ia k t (l.map (aV false)):=by
 rw[uK,if_neg (fun q=>h q.1),decide_eq_false h,rT]
theorem CB (h:x.kind≠6) (b:Bool):aV b x=aV false x:=by
 cases x with
 |mk k t l=>have h:k≠6:=h;rw[iH h,iH h]
theorem Ip (t:By) (a b c:Tr):aV false (.mk 6 t [a,b,c])=[40]++pF [aV false a,aV false b,aV true c]++[41]:=by
 rw[uK,if_neg (fun q=>by cases q.2)];simp[dG,ia]
theorem AY (t:By) (a b c:Tr):aV true (.mk 6 t [a,b,c])=pF [aV false a,aV false b,aV true c]:=by
 rw[uK,if_pos ⟨rfl,rfl⟩];simp[dG]
def wL (x:Tr):Prop:=∀(h:az) (O:Nat->Prop) (v:Value),Dz h->fZ h O v x->ah Tryz.prog 31 #[v] h (dh fun r h'=>r= .string (bs (aV false x))/\aD h h')
def yI (x:Tr):Prop:=∀(h:az) (O:Nat->Prop) (v:Value),Dz h->fZ h O v x->ah Tryz.prog 59 #[v] h (dh fun r h'=>r= .string (bs (aV true x))/\aD h h')
theorem Fs {t:By}{y z:Tr}(hw:(Tr.mk 6 t [x,y,z]).wt<=1000000) (hx:wL x) (hy:wL y) (hz:wL z) (hz2:z.kind=6->yI z):yI (.mk 6 t [x,y,z]):=by
 intro h O v hg hv;have w1:=rM (k:=6) (t:=t) (l:=[x,y,z]) (x:=x) (by simp);have w2:=rM (k:=6) (t:=t) (l:=[x,y,z]) (x:=y) (by simp);have w3:=rM (k:=6) (t:=t) (l:=[x,y,z]) (x:=z) (by simp);have p1:=iZ x false;have p2:=iZ y false;have p3:=iZ z false;have p4:=iZ z true;have q1:=bD (aV false x);have q2:=bD (aV false y);have q3:=bD (aV false z);have q4:=bD (aV true z);obtain⟨w,rfl,hw0⟩:=id hv.open;obtain⟨a,n,c,rfl,hws⟩:=id hw0.open;have hn:3=n:=hws.len;subst hn;rw[AY];refine ah.of func59 rfl rfl ?_;refine xr func59 rfl ?_;refine xo rfl (aA.gP rfl) ?_;rintro _ h1 ⟨rfl,k1,e1,z1⟩;have k1:bp h1 h.size 25 (tN 6 t a 3 c):=k1;have hws1:=hws.mv (Mv.ax e1);obtain⟨b0,o0,x0,k0,t0,a0,n0,c0,ha0,hx0,hr0,hv0,_,_⟩:=nN hws1 (show 0<3 by decide);obtain⟨b0',o1,x1,kk1,t1,a1,n1,c1,ha1,hx1,hr1,hv1,_,_⟩:=nN hws1 (show 1<3 by decide);obtain rfl:x0=x:=by cases hx0;rfl
 obtain rfl:x1=y:=by cases hx1;rfl
 have hc0:=hx h1 O _ (hg.ax e1) hv0;refine aS 1 [0,1,2] rfl ?_;refine av rfl ?_;refine b6 (fun _=>False) (fun i=>Nat.blt i 15) (sz:=15) (listed:= #[false,false,false,false,false,false,false,false,false,false,false,false,false,false,false]) func59 H.mixed rfl rfl rfl ?_;refine bL 0 1 (by kernel_rfl) rfl (fun h' e=>af (off:=2) underlying25 rfl rfl H.gq rfl) ?_;refine bL 1 3 (by kernel_rfl) rfl (fun h' e=>ai H.ng rfl (e.cell (fun k=>k) (k1.cell (i:=2) rfl))) ?_;refine bL 2 7 (by kernel_rfl) rfl (fun h' e=>aj.ay underlying23 H.aU rfl rfl 0 rfl ha0 (by decide)) ?_;refine bL 3 15 (by kernel_rfl) rfl (fun h' e=>aj.aH H.bO H.aU rfl (e.rowAt (fun k=>k) hr0) (by first|rfl|(simp;done)|(simp;omega))) ?_;refine bL 7 143 (by kernel_rfl) rfl (fun h' e=>af (off:=2) underlying25 rfl rfl H.gq rfl) ?_;refine bL 8 399 (by kernel_rfl) rfl (fun h' e=>ai H.ng rfl (e.cell (fun k=>k) (k1.cell (i:=2) rfl))) ?_;refine bL 9 911 (by kernel_rfl) rfl (fun h' e=>aj.ay underlying23 H.aU rfl rfl 1 rfl ha1 (by decide)) ?_;refine bL 10 1935 (by kernel_rfl) rfl (fun h' e=>aj.aH H.bO H.aU rfl (e.rowAt (fun k=>k) hr1) (by first|rfl|(simp;done)|(simp;omega))) ?_;refine eM 4 1951 (by kernel_rfl) rfl (aq (vs:=[_]) func31 rfl H.GJ rfl (ah.bw (hc0))) ?_;rintro _ h2 ⟨rfl,e2⟩;refine⟨fun _=>e2,?_⟩;have l3:(⟨#[105,102,32]⟩:ByteArray).size=3:=rfl;have l1:(⟨#[32]⟩:ByteArray).size=1:=rfl;have l6:(⟨#[32,101,108,115,101,32]⟩:ByteArray).size=6:=rfl;have hc1:=hy h2 O _ ((hg.ax e1).ax e2) (hv1.mv (Mv.ax e2));refine bL 5 1983 (by kernel_rfl) rfl (fun h' e=>aj.cx rfl rfl (by simp only[ByteArray.size_append,l3,l1,l6,q1,q2,q3,q4];omega)) ?_;refine bL 6 2047 (by kernel_rfl) rfl (fun h' e=>aj.cx rfl rfl (by simp only[ByteArray.size_append,l3,l1,l6,q1,q2,q3,q4];omega)) ?_;refine eM 11 4095 (by kernel_rfl) rfl (aq (vs:=[_]) func31 rfl H.GJ rfl (ah.bw (hc1))) ?_;rintro _ h3 ⟨rfl,e3⟩;refine⟨fun _=>e3,?_⟩;refine bL 12 8191 (by kernel_rfl) rfl (fun h' e=>aj.cx rfl rfl (by simp only[ByteArray.size_append,l3,l1,l6,q1,q2,q3,q4];omega)) ?_;refine bL 13 16383 (by kernel_rfl) rfl (fun h' e=>aj.cx rfl rfl (by simp only[ByteArray.size_append,l3,l1,l6,q1,q2,q3,q4];omega)) ?_;have e23:=e2.trans e3;have e03:=e1.trans e23;have k3:=k1.ax e23;have hws3:=hws1.mv (Mv.ax e23);obtain⟨b2',o2,x2,kk2,t2,a2,n2,c2,ha2,hx2,hr2,hv2,hk2,_⟩:=nN hws3 (show 2<3 by decide);obtain rfl:x2=z:=by cases hx2;rfl
 have hg3:=hg.ax e03;refine cg 14 32767 (by kernel_rfl) rfl ?_;refine br (by kernel_rfl) ?_;refine xu [0,1,2,3] rfl ?_;refine av rfl ?_;refine xr func59 rfl ?_;refine xp rfl (af (off:=2) underlying25 rfl rfl H.gq rfl) ?_;refine xp rfl (ai H.ng rfl (k3.cell (i:=2) rfl)) ?_;refine xp rfl (aj.ay underlying23 H.aU rfl rfl 2 rfl ha2 (by decide)) ?_;refine xp rfl (af (off:=0) underlying25 rfl rfl H.cA rfl) ?_;refine xp rfl (ai H.de rfl (hr2 0 _ rfl)) ?_;refine aS 1 [0,1,2,3,23] rfl ?_;refine aO rfl rfl (fun c6=>?_) (fun c6=>?_)
 · have hch:=hz2 (by rw[<-hk2];exact c6) h3 O _ hg3 hv2;refine bq func59 1 rfl ?_;refine xp rfl (af (off:=2) underlying25 rfl rfl H.gq rfl) ?_;refine xp rfl (ai H.ng rfl (k3.cell (i:=2) rfl)) ?_;refine xp rfl (aj.ay underlying23 H.aU rfl rfl 2 rfl ha2 (by decide)) ?_;refine xp rfl (aj.aH H.bO H.aU rfl hr2 (by first|rfl|(simp;done)|(simp;omega))) ?_;refine xo rfl (aq (vs:=[_]) func59 rfl H.Ly rfl (ah.bw (hch))) ?_;rintro _ h4 ⟨rfl,e4⟩;refine xp rfl (aj.cx rfl rfl (by simp only[ByteArray.size_append,l3,l1,l6,q1,q2,q3,q4];omega)) ?_;refine aS 1 [0,1,2,3,23] rfl ?_;refine G.ret func59 rfl rfl ?_;refine⟨_,rfl,?_,e03.trans e4⟩
   show Value.string (((((bs [105,102,32]++bs (aV false x0))++bs [32])++bs (aV false x1))++bs [32,101,108,115,101,32])++bs (aV true x2))=_
   simp only[dL];rfl
 · have hch:=hz h3 O _ hg3 hv2;refine aC rfl ?_;refine bq func59 1 rfl ?_;refine xp rfl (af (off:=2) underlying25 rfl rfl H.gq rfl) ?_;refine xp rfl (ai H.ng rfl (k3.cell (i:=2) rfl)) ?_;refine xp rfl (aj.ay underlying23 H.aU rfl rfl 2 rfl ha2 (by decide)) ?_;refine xp rfl (aj.aH H.bO H.aU rfl hr2 (by first|rfl|(simp;done)|(simp;omega))) ?_;refine xo rfl (aq (vs:=[_]) func31 rfl H.GJ rfl (ah.bw (hch))) ?_;rintro _ h4 ⟨rfl,e4⟩;refine xp rfl (aj.cx rfl rfl (by simp only[ByteArray.size_append,l3,l1,l6,q1,q2,q3,q4];omega)) ?_;refine aS 1 [0,1,2,3,23] rfl ?_;refine G.ret func59 rfl rfl ?_;refine⟨_,rfl,?_,e03.trans e4⟩;rw[CB (show x2.kind≠6 from fun q=>c6 (by rw[hk2];exact q)) true]
   show Value.string (((((bs [105,102,32]++bs (aV false x0))++bs [32])++bs (aV false x1))++bs [32,101,108,115,101,32])++bs (aV false x2))=_
   simp only[dL];rfl
theorem mg {enc:α->Value}{base:Nat}{T:TypeId}{va:Option Addr}{vn vc:Nat}{xs:List α}(k:cZ enc h base T (.slice va vn vc) xs) (i:Nat){x:α}(hx:xs[i]? =some x) :
 ∃g,va=some ⟨g,0,none⟩/\i<vn/\vn=xs.length/\cellAt h ⟨g,0+i*1,none⟩=some (enc x):=by
 obtain⟨g,c,hv,_,_,hc,_⟩:=k.at hx;cases hv;exact⟨g,rfl,(List.getElem?_eq_some_iff.1 hx).1,rfl,hc⟩
theorem si {l:List α}(h:l.length=1):∃a,l=[a]:=List.length_eq_one_iff.1 h
theorem Ky {l:List α}(h:l.length=2):∃a b,l=[a,b]:=by
 match l,h with
 | [a,b],_=>exact⟨a,b,rfl⟩
theorem Ma {l:List α}(h:l.length=3):∃a b c,l=[a,b,c]:=by
 match l,h with
 | [a,b,c],_=>exact⟨a,b,c,rfl⟩
theorem Io {k:Int}{t:By}(hw:(Tr.mk k t l).wt<=1000000) (hva:bY bQ (.mk k t l)=true) (hsk:∀y∈l,wL y) (hch:k=6->yI (.mk k t l)):wL (.mk k t l):=by
 intro h O v hg hv;obtain⟨w,rfl,hw0⟩:=id hv.open;obtain⟨a,n,c,rfl,hws⟩:=id hw0.open;have hn:l.length=n:=hws.len;subst hn;have hcap:=hws.cap;have hle:=hws.le;simp only[maxLen] at hcap;have wt0:=DB k t l;have qt:=bD t
 have hkl:∀y∈l,(bs (aV false y)).size<=1000000:=fun y hy=>by
  have:=rM (k:=k) (t:=t) hy;have:=iZ y false;rw[bD];omega
 have hsum:(eR (l.map (aV false))).length<=1000000:=by
  have h1:=vD (dG false 0 l);have h2:=nj l false 0;have h3:=lZ l false 0;rw[<-rT l 0];have h4:(Tr.mk k t l).wt=2*t.length+20+ji l:=by rw[Tr.wt]
  omega
 rw[rO,uL,Bool.and_eq_true,Bool.and_eq_true] at hva;obtain⟨⟨hbd,_⟩,hvq⟩:=hva;have hbd:(0<=k/\k<=10)/\(cW k).1<=l.length/\l.length<=(cW k).2:=of_decide_eq_true hbd
 have hll:l.length<=1000000:=by
  have h2:=nj l false 0;have h4:(Tr.mk k t l).wt=2*t.length+20+ji l:=by rw[Tr.wt]
  omega
 have m40:(⟨#[40]⟩:ByteArray).size=1:=rfl;have m41:(⟨#[41]⟩:ByteArray).size=1:=rfl;have m32:(⟨#[32]⟩:ByteArray).size=1:=rfl;have mlet:(⟨#[108,101,116,32]⟩:ByteArray).size=4:=rfl;have mlet2:(⟨#[40,108,101,116,32]⟩:ByteArray).size=5:=rfl;have meq:(⟨#[32,61,32]⟩:ByteArray).size=3:=rfl;have min_:(⟨#[32,105,110,32]⟩:ByteArray).size=4:=rfl;have mfun:(⟨#[40,102,117,110,32]⟩:ByteArray).size=5:=rfl;have marr:(⟨#[32,45,62,32]⟩:ByteArray).size=4:=rfl;have mopn:(⟨#[123,32]⟩:ByteArray).size=2:=rfl;have mcls:(⟨#[32,125]⟩:ByteArray).size=2:=rfl;refine ah.of func31 rfl rfl ?_;refine xr func31 rfl ?_;refine xo rfl (aA.gP rfl) ?_;rintro _ h1 ⟨rfl,k1,e1,z1⟩;have k1:bp h1 h.size 25 (tN k t a l.length c):=k1;refine aS 1 [0,1,2] rfl ?_;refine aZ func31 1 [0,1,2,3] rfl ?_;refine av rfl ?_;refine xr func31 rfl ?_;refine xp rfl (af (off:=2) underlying25 rfl rfl H.gq rfl) ?_;refine xp rfl (ai H.ng rfl (k1.cell (i:=2) rfl)) ?_;refine xp rfl (aj.aJ underlying23 rfl) ?_;refine aS 1 [0,1,2,3,7,8,9] rfl ?_;refine G.block rfl rfl ?_;refine bG (σ:=Nat×Value) (fun w=>[(1,ptr h.size),(3,w.2),(7,.slice a l.length c),(8,.int .i64 (l.length:Nat)),(9,.int .i64 (w.1:Nat))]) (fun w g=>w.1<=l.length/\aD h1 g/\cZ zU g h1.size 9 w.2 ((l.map (aV false)).take w.1)) (fun w=>l.length-w.1) ((0,.slice none 0 0)) rfl ⟨rfl,rfl,rfl,rfl,rfl,trivial⟩ ⟨Nat.zero_le _,Ext.refl _ _,cZ.nil _ _ _ _⟩ ?_;rintro⟨i,ov⟩ g ⟨hi,eg,ho⟩ ih
 try dsimp only
 dsimp only at hi ho;have kg:=k1.ax eg;have e0g:=e1.trans eg;have hho:aQ g h1.size 9 1 ov ((l.map (aV false)).take i).length (((l.map (aV false)).take i).map zU):=ho;have hlt0:((l.map (aV false)).take i).length=i:=by rw[List.length_take,List.length_map];omega
 rw[hlt0] at hho;obtain⟨va,vc,rfl,_⟩:=hho.open;refine aZ func31 1 [1,3,7,8,9,10] rfl ?_;refine av rfl ?_;refine aO rfl rfl (fun hlt=>?_) (fun hlt=>?_)
 · have hil:i<l.length:=by omega
   obtain⟨b,o,x,xk,xt,xa,xn,xc,ha,hx,hrow,hnx,_,_⟩:=nN (hws.mv (Mv.ax e0g)) hil;have hxm:x∈l:=List.mem_of_getElem? hx;refine aC rfl ?_;refine av rfl ?_;refine G.block rfl rfl ?_;refine xr func31 rfl ?_;refine xp rfl (aj.ay underlying23 H.aU rfl rfl i rfl ha (by omega)) ?_;refine xp rfl (aj.aH H.bO H.aU rfl hrow (by first|rfl|(simp;done)|(simp;omega))) ?_;refine xo rfl (aA.aY H.fc) ?_;rintro _ g1 ⟨rfl,kn,e3,z3⟩;refine RW.cu rfl rfl rfl (aA.aB H.aU rfl rfl kn (by first|rfl|(simp;done)|(simp;omega)) (by first|decide|exact of_decide_eq_true rfl|(simp;done)|(simp;omega)) (jD)) ?_;rintro _ g2 ⟨rfl,kx,x2,z2⟩;have kx:bp g2 g.size 25 (tN xk xt xa xn xc):=kx;have eg2:aD g g2:=aD.only e3 x2 (Nat.le_refl _);have hcall:=hsk x hxm g2 O _ (hg.ax (e0g.trans eg2)) (hnx.mv (Mv.ax eg2));refine xd [1,3,5,7,8,9,10] rfl ?_;refine G.cz func31 rfl ?_;refine cD 1 rfl rfl (aj.aH H.bO H.aU rfl kx.row (by first|rfl|(simp;done)|(simp;omega))) ?_;refine xo rfl (aq (vs:=[_]) func31 rfl H.GJ rfl (ah.bw (hcall))) ?_;rintro _ g3 ⟨rfl,e4⟩;have e24:=eg2.trans e4;refine xo rfl (aA.aX (us:=[_]) underlying87 H.sv rfl rfl (by decide) (by simp[Value.oneCell'])) ?_;rintro _ _ ⟨rfl,rfl⟩;refine xo rfl (aA.bS underlying87 H.sv rfl rfl ((hho.pq e24)) rfl rfl (by first|decide|simp[Value.oneCell']) (by omega) (by decide) (by have:=eg.size;have:=e24.size;omega)) ?_;rintro v5 g5 ⟨ho5,hx5,hx5',hv5⟩
   have ho5:cZ zU g5 h1.size 9 v5 ((l.map (aV false)).take (i+1)):=by
    rw[List.take_add_one,List.getElem?_map,hx];exact cZ.of ho5 hlt0.symm rfl rfl
   refine aS 1 [1,3,5,7,8,9,10] rfl ?_;refine G.aR ?_;refine G.cz func31 rfl ?_;refine xp rfl (aj.bE rfl rfl ⟨by omega,by omega⟩) ?_;refine aS 1 [1,3,5,7,8,9,10] rfl ?_;exact ih (i+1,v5) _ _ ⟨rfl,rfl,rfl,rfl,rfl,trivial⟩ ⟨hil,Ext.own (eg.trans e24) (hho.pq e24) (Nat.le_refl _) hx5,ho5⟩ (by show l.length-(i+1)<l.length-i;omega)
 · obtain rfl:i=l.length:=by omega
   rw[show (l.map (aV false)).take l.length=l.map (aV false) from List.take_of_length_le (by simp)] at ho;refine bA rfl rfl ?_;refine av rfl ?_;refine xr func31 rfl ?_;refine xp rfl (af (off:=0) underlying25 rfl rfl H.cA rfl) ?_;refine xp rfl (ai H.de rfl (kg.cell (i:=0) rfl)) ?_;refine xd [1,3,7,8,9,10,20] rfl ?_;refine G.block rfl rfl ?_;refine aZ func31 2 [1,3,7,8,9,10,20,21] rfl ?_;refine aO rfl rfl (fun c1=>?_) (fun c1=>?_)
   · refine xr func31 rfl ?_;refine xp rfl (af (off:=1) underlying25 rfl rfl H.fL rfl) ?_;refine xp rfl (ai H.gj rfl (kg.cell (i:=1) rfl)) ?_;refine xo rfl (aq (vs:=[_]) func58 rfl H.Nh rfl (ah.bw (Bb (hg.ax e0g).esc t (by omega)))) ?_;rintro _ g2 ⟨rfl,e2⟩;refine aS 1 [1,2,3,7,8,9,10,20,21] rfl ?_;refine G.ret func31 rfl rfl ?_;exact⟨_,rfl,by rw[iH (by omega),c1];rfl,e0g.trans e2⟩
   · refine aZ func31 2 [1,3,7,8,9,10,20,21,26] rfl ?_;refine aO rfl rfl (fun c4=>?_) (fun c4=>?_)
     · subst c4;have hbd2:1<=l.length/\l.length<=1:=hbd.2;obtain⟨x0,rfl⟩:=si (show l.length=1 by omega);have hb0:=hkl x0 (by simp);obtain⟨rg,rfl,_,_,hc0⟩:=mg ho 0 (x:=aV false x0) rfl;refine av rfl ?_;refine G.eY func31 H.mixed rfl (by kernel_rfl) ?_;refine RQ.au rfl rfl rfl rfl (af (off:=1) underlying25 rfl rfl H.fL rfl) ?_;refine RQ.au rfl rfl rfl rfl (ai H.gj rfl (kg.cell (i:=1) rfl)) ?_;refine RQ.au rfl rfl rfl rfl (aj.cx rfl rfl (by first|omega|(simp only[ByteArray.size_append];omega))) ?_;refine RQ.au rfl rfl rfl rfl (aj.cx rfl rfl (by first|omega|(simp only[ByteArray.size_append];omega))) ?_;refine RQ.au rfl rfl rfl rfl (aL rfl) ?_;refine RQ.au rfl rfl rfl rfl (aj.ay underlying87 H.fL rfl rfl 0 rfl rfl (by simp)) ?_;refine RQ.au rfl rfl rfl rfl (ai H.gj rfl hc0) ?_;refine RQ.au rfl rfl rfl rfl (aj.cx rfl rfl (by first|omega|(simp only[ByteArray.size_append];omega))) ?_;refine RQ.au rfl rfl rfl rfl (aj.cx rfl rfl (by first|omega|(simp only[ByteArray.size_append];omega))) ?_;refine RQ.au rfl rfl rfl rfl (aj.assign rfl) ?_;refine cP rfl ?_;refine xu [1,2,3,7,8,9,10,20,21,26] rfl ?_;refine G.ret func31 rfl rfl ?_;refine⟨_,rfl,?_,e0g⟩;rw[iH (by decide)]
       show Value.string ((((bs [40]++bs t)++bs [32])++bs (aV false x0))++bs [41])=_
       simp only[dL];rfl
     · refine aZ func31 2 [1,3,7,8,9,10,20,21,26,37] rfl ?_;refine aO rfl rfl (fun c5=>?_) (fun c5=>?_)
       · subst c5;have hbd2:2<=l.length/\l.length<=2:=hbd.2;obtain⟨x0,x1,rfl⟩:=Ky (show l.length=2 by omega);have hb0:=hkl x0 (by simp);have hb1:=hkl x1 (by simp);obtain⟨rg,rfl,_,_,hc0⟩:=mg ho 0 (x:=aV false x0) rfl;obtain⟨rg',hrg,_,_,hc1⟩:=mg ho 1 (x:=aV false x1) rfl;cases hrg;refine av rfl ?_;refine G.eY func31 H.mixed rfl (by kernel_rfl) ?_;refine RQ.au rfl rfl rfl rfl (aL rfl) ?_;refine RQ.au rfl rfl rfl rfl (aj.ay underlying87 H.fL rfl rfl 0 rfl rfl (by simp)) ?_;refine RQ.au rfl rfl rfl rfl (ai H.gj rfl hc0) ?_;refine RQ.au rfl rfl rfl rfl (aj.cx rfl rfl (by first|omega|(simp only[ByteArray.size_append];omega))) ?_;refine RQ.au rfl rfl rfl rfl (aj.cx rfl rfl (by first|omega|(simp only[ByteArray.size_append];omega))) ?_;refine RQ.au rfl rfl rfl rfl (af (off:=1) underlying25 rfl rfl H.fL rfl) ?_;refine RQ.au rfl rfl rfl rfl (ai H.gj rfl (kg.cell (i:=1) rfl)) ?_;refine RQ.au rfl rfl rfl rfl (aj.cx rfl rfl (by first|omega|(simp only[ByteArray.size_append];omega))) ?_;refine RQ.au rfl rfl rfl rfl (aj.cx rfl rfl (by first|omega|(simp only[ByteArray.size_append];omega))) ?_;refine RQ.au rfl rfl rfl rfl (aL rfl) ?_;refine RQ.au rfl rfl rfl rfl (aj.ay underlying87 H.fL rfl rfl 1 rfl rfl (by simp)) ?_;refine RQ.au rfl rfl rfl rfl (ai H.gj rfl hc1) ?_;refine RQ.au rfl rfl rfl rfl (aj.cx rfl rfl (by first|omega|(simp only[ByteArray.size_append];omega))) ?_;refine RQ.au rfl rfl rfl rfl (aj.cx rfl rfl (by first|omega|(simp only[ByteArray.size_append];omega))) ?_;refine RQ.au rfl rfl rfl rfl (aj.assign rfl) ?_;refine cP rfl ?_;refine xu [1,2,3,7,8,9,10,20,21,26,37] rfl ?_;refine G.ret func31 rfl rfl ?_;refine⟨_,rfl,?_,e0g⟩;rw[iH (by decide)]
         show Value.string ((((((bs [40]++bs (aV false x0))++bs [32])++bs t)++bs [32])++bs (aV false x1))++bs [41])=_
         simp only[dL];rfl
       · refine aZ func31 2 [1,3,7,8,9,10,20,21,26,37,53] rfl ?_;refine aO rfl rfl (fun c6=>?_) (fun c6=>?_)
         · subst c6;have hbd2:3<=l.length/\l.length<=3:=hbd.2;have hcall:=hch rfl g O _ (hg.ax e0g) (hv.mv (Mv.ax e0g));have hpl:=iZ (.mk 6 t l) true;have hq:=bD (aV true (.mk 6 t l));refine xr func31 rfl ?_;refine xp rfl (aj.aH H.bO H.aU rfl kg.row (by first|rfl|(simp;done)|(simp;omega))) ?_;refine xo rfl (aq (vs:=[_]) func59 rfl H.Ly rfl (ah.bw (hcall))) ?_;rintro _ g2 ⟨rfl,e2⟩;refine xp rfl (aj.cx rfl rfl (by first|omega|(simp only[ByteArray.size_append];omega))) ?_;refine xp rfl (aj.cx rfl rfl (by first|omega|(simp only[ByteArray.size_append];omega))) ?_;refine aS 1 [1,2,3,7,8,9,10,20,21,26,37,53] rfl ?_;refine G.ret func31 rfl rfl ?_;refine⟨_,rfl,?_,e0g.trans e2⟩;obtain⟨x0,x1,x2,rfl⟩:=Ma (show l.length=3 by omega);rw[Ip,<-AY t]
           show Value.string ((bs [40]++bs (aV true (.mk 6 t [x0,x1,x2])))++bs [41])=_
           simp only[dL]
         · rw[iH c6];refine aZ func31 2 [1,3,7,8,9,10,20,21,26,37,53,59] rfl ?_;refine aO rfl rfl (fun c7=>?_) (fun c7=>?_)
           · subst c7;have hbd2:1<=l.length/\l.length<=2:=hbd.2;refine av rfl ?_;refine bq func31 1 rfl ?_;refine xp rfl (aj.aJ underlying87 rfl) ?_;refine aS 1 [1,3,7,8,9,10,20,21,26,37,53,59,63] rfl ?_;refine aO rfl rfl (fun hone=>?_) (fun hone=>?_)
             · obtain⟨x0,rfl⟩:=si (show l.length=1 by omega);have hb0:=hkl x0 (by simp);obtain⟨rg,rfl,_,_,hc0⟩:=mg ho 0 (x:=aV false x0) rfl;refine av rfl ?_;refine G.eY func31 H.mixed rfl (by kernel_rfl) ?_;refine RQ.au rfl rfl rfl rfl (af (off:=1) underlying25 rfl rfl H.fL rfl) ?_;refine RQ.au rfl rfl rfl rfl (ai H.gj rfl (kg.cell (i:=1) rfl)) ?_;refine RQ.au rfl rfl rfl rfl (aj.cx rfl rfl (by first|omega|(simp only[ByteArray.size_append];omega))) ?_;refine RQ.au rfl rfl rfl rfl (aj.cx rfl rfl (by first|omega|(simp only[ByteArray.size_append];omega))) ?_;refine RQ.au rfl rfl rfl rfl (aL rfl) ?_;refine RQ.au rfl rfl rfl rfl (aj.ay underlying87 H.fL rfl rfl 0 rfl rfl (by simp)) ?_;refine RQ.au rfl rfl rfl rfl (ai H.gj rfl hc0) ?_;refine RQ.au rfl rfl rfl rfl (aj.cx rfl rfl (by first|omega|(simp only[ByteArray.size_append];omega))) ?_;refine RQ.au rfl rfl rfl rfl (aj.assign rfl) ?_;refine cP rfl ?_;refine xu [1,2,3,7,8,9,10,20,21,26,37,53,59,63] rfl ?_;refine G.ret func31 rfl rfl ?_;refine⟨_,rfl,?_,e0g⟩
               show Value.string (((bs [108,101,116,32]++bs t)++bs [32,61,32])++bs (aV false x0))=_
               simp only[dL];rfl
             · obtain⟨x0,x1,rfl⟩:=Ky (show l.length=2 by omega);have hb0:=hkl x0 (by simp);have hb1:=hkl x1 (by simp);obtain⟨rg,rfl,_,_,hc0⟩:=mg ho 0 (x:=aV false x0) rfl;obtain⟨rg',hrg,_,_,hc1⟩:=mg ho 1 (x:=aV false x1) rfl;cases hrg;refine aC rfl ?_;refine av rfl ?_;refine G.eY func31 H.mixed rfl (by kernel_rfl) ?_;refine RQ.au rfl rfl rfl rfl (af (off:=1) underlying25 rfl rfl H.fL rfl) ?_;refine RQ.au rfl rfl rfl rfl (ai H.gj rfl (kg.cell (i:=1) rfl)) ?_;refine RQ.au rfl rfl rfl rfl (aj.cx rfl rfl (by first|omega|(simp only[ByteArray.size_append];omega))) ?_;refine RQ.au rfl rfl rfl rfl (aj.cx rfl rfl (by first|omega|(simp only[ByteArray.size_append];omega))) ?_;refine RQ.au rfl rfl rfl rfl (aL rfl) ?_;refine RQ.au rfl rfl rfl rfl (aj.ay underlying87 H.fL rfl rfl 0 rfl rfl (by simp)) ?_;refine RQ.au rfl rfl rfl rfl (ai H.gj rfl hc0) ?_;refine RQ.au rfl rfl rfl rfl (aj.cx rfl rfl (by first|omega|(simp only[ByteArray.size_append];omega))) ?_;refine RQ.au rfl rfl rfl rfl (aj.cx rfl rfl (by first|omega|(simp only[ByteArray.size_append];omega))) ?_;refine RQ.au rfl rfl rfl rfl (aL rfl) ?_;refine RQ.au rfl rfl rfl rfl (aj.ay underlying87 H.fL rfl rfl 1 rfl rfl (by simp)) ?_;refine RQ.au rfl rfl rfl rfl (ai H.gj rfl hc1) ?_;refine RQ.au rfl rfl rfl rfl (aj.cx rfl rfl (by first|omega|(simp only[ByteArray.size_append];omega))) ?_;refine RQ.au rfl rfl rfl rfl (aj.cx rfl rfl (by first|omega|(simp only[ByteArray.size_append];omega))) ?_;refine RQ.au rfl rfl rfl rfl (aj.assign rfl) ?_;refine cP rfl ?_;refine xu [1,2,3,7,8,9,10,20,21,26,37,53,59,63] rfl ?_;refine G.ret func31 rfl rfl ?_;refine⟨_,rfl,?_,e0g⟩
               show Value.string ((((((bs [40,108,101,116,32]++bs t)++bs [32,61,32])++bs (aV false x0))++bs [32,105,110,32])++bs (aV false x1))++bs [41])=_
               simp only[dL];rfl
           · refine aZ func31 2 [1,3,7,8,9,10,20,21,26,37,53,59,86] rfl ?_;refine aO rfl rfl (fun c8=>?_) (fun c8=>?_)
             · subst c8;have hbd2:1<=l.length/\l.length<=1:=hbd.2;obtain⟨x0,rfl⟩:=si (show l.length=1 by omega);have hb0:=hkl x0 (by simp);obtain⟨rg,rfl,_,_,hc0⟩:=mg ho 0 (x:=aV false x0) rfl;refine av rfl ?_;refine G.eY func31 H.mixed rfl (by kernel_rfl) ?_;refine RQ.au rfl rfl rfl rfl (af (off:=1) underlying25 rfl rfl H.fL rfl) ?_;refine RQ.au rfl rfl rfl rfl (ai H.gj rfl (kg.cell (i:=1) rfl)) ?_;refine RQ.au rfl rfl rfl rfl (aj.cx rfl rfl (by first|omega|(simp only[ByteArray.size_append];omega))) ?_;refine RQ.au rfl rfl rfl rfl (aj.cx rfl rfl (by first|omega|(simp only[ByteArray.size_append];omega))) ?_;refine RQ.au rfl rfl rfl rfl (aL rfl) ?_;refine RQ.au rfl rfl rfl rfl (aj.ay underlying87 H.fL rfl rfl 0 rfl rfl (by simp)) ?_;refine RQ.au rfl rfl rfl rfl (ai H.gj rfl hc0) ?_;refine RQ.au rfl rfl rfl rfl (aj.cx rfl rfl (by first|omega|(simp only[ByteArray.size_append];omega))) ?_;refine RQ.au rfl rfl rfl rfl (aj.cx rfl rfl (by first|omega|(simp only[ByteArray.size_append];omega))) ?_;refine RQ.au rfl rfl rfl rfl (aj.assign rfl) ?_;refine cP rfl ?_;refine xu [1,2,3,7,8,9,10,20,21,26,37,53,59,86] rfl ?_;refine G.ret func31 rfl rfl ?_;refine⟨_,rfl,?_,e0g⟩
               show Value.string ((((bs [40,102,117,110,32]++bs t)++bs [32,45,62,32])++bs (aV false x0))++bs [41])=_
               simp only[dL];rfl
             · refine aZ func31 2 [1,3,7,8,9,10,20,21,26,37,53,59,86,97] rfl ?_;refine aO rfl rfl (fun c9=>?_) (fun c9=>?_)
               · subst c9;have hbd2:2<=l.length/\l.length<=2:=hbd.2;obtain⟨x0,x1,rfl⟩:=Ky (show l.length=2 by omega);have hb0:=hkl x0 (by simp);have hb1:=hkl x1 (by simp);obtain⟨rg,rfl,_,_,hc0⟩:=mg ho 0 (x:=aV false x0) rfl;obtain⟨rg',hrg,_,_,hc1⟩:=mg ho 1 (x:=aV false x1) rfl;cases hrg;refine av rfl ?_;refine G.eY func31 H.mixed rfl (by kernel_rfl) ?_;refine RQ.au rfl rfl rfl rfl (aL rfl) ?_;refine RQ.au rfl rfl rfl rfl (aj.ay underlying87 H.fL rfl rfl 0 rfl rfl (by simp)) ?_;refine RQ.au rfl rfl rfl rfl (ai H.gj rfl hc0) ?_;refine RQ.au rfl rfl rfl rfl (aj.cx rfl rfl (by first|omega|(simp only[ByteArray.size_append];omega))) ?_;refine RQ.au rfl rfl rfl rfl (aL rfl) ?_;refine RQ.au rfl rfl rfl rfl (aj.ay underlying87 H.fL rfl rfl 1 rfl rfl (by simp)) ?_;refine RQ.au rfl rfl rfl rfl (ai H.gj rfl hc1) ?_;refine RQ.au rfl rfl rfl rfl (aj.cx rfl rfl (by first|omega|(simp only[ByteArray.size_append];omega))) ?_;refine RQ.au rfl rfl rfl rfl (aj.cx rfl rfl (by first|omega|(simp only[ByteArray.size_append];omega))) ?_;refine RQ.au rfl rfl rfl rfl (aj.assign rfl) ?_;refine cP rfl ?_;refine xu [1,2,3,7,8,9,10,20,21,26,37,53,59,86,97] rfl ?_;refine G.ret func31 rfl rfl ?_;refine⟨_,rfl,?_,e0g⟩
                 show Value.string (((bs (aV false x0)++bs [40])++bs (aV false x1))++bs [41])=_
                 simp only[dL];rfl
               · refine aZ func31 2 [1,3,7,8,9,10,20,21,26,37,53,59,86,97,108] rfl ?_;refine aO rfl rfl (fun c10=>?_) (fun c10=>?_)
                 · subst c10;have hq:=bD (eR (l.map (aV false)));refine bq func31 1 rfl ?_;refine xo rfl (aq (vs:=[_,_]) func60 rfl H.Ng rfl (ah.bw (Dx (cZ.read (h1:=fun _=>rfl) ho (fun _ _ k=>k)) (by omega)))) ?_;rintro _ g2 ⟨rfl,e2⟩;refine xp rfl (aj.cx rfl rfl (by first|omega|(simp only[ByteArray.size_append];omega))) ?_;refine xp rfl (aj.cx rfl rfl (by first|omega|(simp only[ByteArray.size_append];omega))) ?_;refine aS 1 [1,2,3,7,8,9,10,20,21,26,37,53,59,86,97,108] rfl ?_;refine G.ret func31 rfl rfl ?_;refine⟨_,rfl,?_,e0g.trans e2⟩
                   show Value.string ((bs [123,32]++bs (eR (l.map (aV false))))++bs [32,125])=_
                   simp only[dL];rfl
                 · refine aC rfl ?_;refine G.aR ?_;refine xr func31 rfl ?_;refine xp rfl (af (off:=1) underlying25 rfl rfl H.fL rfl) ?_;refine xp rfl (ai H.gj rfl (kg.cell (i:=1) rfl)) ?_;refine aS 1 [1,2,3,7,8,9,10,20,21,26,37,53,59,86,97,108] rfl ?_;refine G.ret func31 rfl rfl ?_;refine⟨_,rfl,?_,e0g⟩;unfold ia;rw[if_neg c1,if_neg c4,if_neg c5,if_neg c6,if_neg c7,if_neg c8,if_neg c9,if_neg c10];rfl
theorem F8:∀(d:Nat) (x:Tr),x.dep<=d->x.wt<=1000000->bY bQ x=true->wL x/\(x.kind=6->yI x):=by
 intro d
 induction d with
 |zero=>intro x hx;cases x with|mk k t l=>simp[Tr.dep] at hx
 |succ d ih =>
 intro x hd hw hva;cases x with
 |mk k t l =>
  have hva0:=hva;rw[rO,uL,Bool.and_eq_true,Bool.and_eq_true] at hva;obtain⟨⟨hbd,_⟩,hvq⟩:=hva;have hbd:(0<=k/\k<=10)/\(cW k).1<=l.length/\l.length<=(cW k).2:=of_decide_eq_true hbd;have hk:∀y∈l,wL y/\(y.kind=6->yI y):=fun y hy=>ih y (by have:=uo (k:=k) (t:=t) hy;omega) (by have:=rM (k:=k) (t:=t) hy;omega) (xJ hvq hy)
  have hch:k=6->yI (.mk k t l):=fun q=>by
   subst q;have hbd2:3<=l.length/\l.length<=3:=hbd.2;obtain⟨x0,x1,x2,rfl⟩:=Ma (show l.length=3 by omega);exact Fs hw (hk x0 (by simp)).1 (hk x1 (by simp)).1 (hk x2 (by simp)).1 (hk x2 (by simp)).2
  exact⟨Io hw hva0 (fun y hy=>(hk y hy).1) hch,hch⟩
def lY (x:Tr):By:=if bY bQ x=true then aV false x else []
theorem qq (hw:x.wt<=1000000) (hg:Dz h) (hv:fZ h O v x):ah Tryz.prog 12 #[v] h (dh fun r h'=>r= .string (bs (lY x))/\aD h h'):=by
 obtain⟨k,t,a,n,c,rfl,hR⟩:=id hv.get;refine ah.of func12 rfl rfl ?_;refine xr func12 rfl ?_;refine xo rfl (aA.gP rfl) ?_;rintro _ h1 ⟨rfl,k1,e1,z1⟩;refine aS 1 [0,1,2] rfl ?_;refine av rfl ?_;refine xr func12 rfl ?_;refine xp rfl (aj.aH H.bO H.aU rfl k1.row (by first|rfl|(simp;done)|(simp;omega))) ?_;refine xo rfl (aq (vs:=[_]) func13 rfl H.LW rfl (ah.bw (sM hw (hg.ax e1) (hv.mv (Mv.ax e1))))) ?_;rintro _ h2 ⟨rfl,e2⟩;refine aS 1 [0,1,2,5] rfl ?_;refine aI rfl rfl (fun hb=>?_) (fun hb=>?_)
 · have hb:bY bQ x=false:=by simpa using hb
   refine aZ func12 1 [0,1,2,5] rfl ?_;refine G.ret func12 rfl rfl ?_;exact⟨_,rfl,by unfold lY;rw[hb];rfl,e1.trans e2⟩
 · have hb:bY bQ x=true:=by simpa using hb
   have hcall:=(F8 _ x (Nat.le_refl _) hw hb).1 h2 O _ (hg.ax (e1.trans e2)) (hv.mv (Mv.ax (e1.trans e2)));refine aC rfl ?_;refine xr func12 rfl ?_;refine xp rfl (aj.aH H.bO H.aU rfl (k1.ax e2).row (by first|rfl|(simp;done)|(simp;omega))) ?_;refine xo rfl (aq (vs:=[_]) func31 rfl H.GJ rfl (ah.bw (hcall))) ?_;rintro _ h3 ⟨rfl,e3⟩;refine aS 1 [0,1,2,5] rfl ?_;refine G.ret func12 rfl rfl ?_;exact⟨_,rfl,by unfold lY;rw[if_pos hb];rfl,(e1.trans e2).trans e3⟩
def J6 (x:Tr):Prop:=∀(y:Tr) (h:az) (O O':Nat->Prop) (v v':Value),fZ h O v x->fZ h O' v' y->ah Tryz.prog 14 #[v,v'] h (dh fun r h'=>r= .bool (sU x y)/\aD h h')
theorem drop_cons {l:List α}{i:Nat}{x:α}(h:l[i]? =some x):l.drop i=x::l.drop (i+1):=by
 obtain⟨h1,h2⟩:=List.getElem?_eq_some_iff.1 h;rw[List.drop_eq_getElem_cons h1,h2]
theorem Gg {l':List Tr}(h:l.length≠l'.length):lg l l'=false:=by
 rw[Bool.eq_false_iff];intro q;rw[rW] at q;rw[q] at h;exact h rfl
theorem BN {O':Nat->Prop}{l':List Tr}{v':Value}(hs:∀x∈l,J6 x) (hv:bX eN h O v l) (hv':bX eN h O' v' l') :
 ah Tryz.prog 33 #[v,v',.func (.func 14) #[] #[]] h (dh fun r h'=>r= .bool (lg l l')/\aD h h'):=by
 obtain⟨a,n,c,rfl,hws⟩:=id hv.open;obtain⟨a',n',c',rfl,hws'⟩:=id hv'.open;have hn:l.length=n:=hws.len;have hn':l'.length=n':=hws'.len;subst hn hn';have hcap:=hws.cap;have hle:=hws.le;simp only[maxLen] at hcap;have hfn:Jp Tryz.prog 14:=⟨_,func14,rfl,by kernel_rfl⟩
 refine ah.of func33 rfl rfl ?_;refine aZ func33 1 [0,1,2,6] rfl ?_;refine av rfl ?_;refine bq func33 1 rfl ?_;refine xp rfl (aj.aJ underlying23 rfl) ?_;refine cD 1 rfl rfl (aj.aJ underlying23 rfl) ?_;refine aS 1 [0,1,2,6,14] rfl ?_;refine aO rfl rfl (fun hne=>?_) (fun hne=>?_)
 · refine aZ func33 1 [0,1,2,6,14] rfl ?_;refine G.ret func33 rfl rfl ?_;exact⟨_,rfl,by rw[Gg (by omega)];rfl,Ext.refl _ _⟩
 · have hll:l.length=l'.length:=by omega
   refine aC rfl ?_;refine av rfl ?_;refine bq func33 1 rfl ?_;refine xp rfl (aj.aJ underlying23 rfl) ?_;refine aS 1 [0,1,2,6,14,15,16,17] rfl ?_;refine G.block rfl rfl ?_;refine bG (σ:=Nat) (fun i=>[(15,.slice a l.length c),(1,.slice a' l'.length c'),(2,.func (.func 14) #[] #[]),(16,.int .i64 (l.length:Nat)),(17,.int .i64 (i:Nat))]) (fun i g=>i<=l.length/\aD h g/\lg (l.drop i) (l'.drop i)=lg l l') (fun i=>l.length-i) (0) rfl ⟨rfl,rfl,rfl,rfl,rfl,trivial⟩ ⟨Nat.zero_le _,Ext.refl _ _,rfl⟩ ?_;rintro i g ⟨hi,eg,hq⟩ ih;refine aZ func33 1 [1,2,15,16,17,18] rfl ?_;refine av rfl ?_;refine aO rfl rfl (fun hlt=>?_) (fun hlt=>?_)
   · have hil:i<l.length:=by omega
     obtain⟨b,o,x,xk,xt,xa,xn,xc,ha,hx,hrow,hnx,_,_⟩:=nN (hws.mv (Mv.ax eg)) hil;rw[drop_cons hx] at hq;refine aC rfl ?_;refine av rfl ?_;refine G.block rfl rfl ?_;refine bq func33 1 rfl ?_;refine xp rfl (aj.ay underlying23 H.aU rfl rfl i rfl ha (by omega)) ?_;refine xp rfl (aj.aH H.bO H.aU rfl hrow (by first|rfl|(simp;done)|(simp;omega))) ?_;refine xo rfl (aA.aY H.fc) ?_;rintro _ g1 ⟨rfl,kn,e3,z3⟩;refine bh 1 rfl ?_;refine RW.cu rfl rfl rfl (aA.aB H.aU rfl rfl kn (by first|rfl|(simp;done)|(simp;omega)) (by first|decide|exact of_decide_eq_true rfl|(simp;done)|(simp;omega)) (jD)) ?_;rintro _ g2 ⟨rfl,kx,x2,z2⟩;have kx:bp g2 g.size 25 (tN xk xt xa xn xc):=kx;have eg2:aD g g2:=aD.only e3 x2 (Nat.le_refl _);obtain⟨b',o',y,yk,yt,ya,yn,yc,ha',hy,hrow',hny,_,_⟩:=nN (hws'.mv (Mv.ax (eg.trans eg2))) (show i<l'.length by omega);rw[drop_cons hy,lg] at hq;refine xd [1,2,7,8,15,16,17,18] rfl ?_;refine bq func33 2 rfl ?_;refine xp rfl (aj.ay underlying23 H.aU rfl rfl i rfl ha' (by omega)) ?_;refine xp rfl (aj.aH H.bO H.aU rfl hrow' (by first|rfl|(simp;done)|(simp;omega))) ?_;refine xo rfl (aA.aY H.fc) ?_;rintro _ g3 ⟨rfl,kn',e4,z4⟩;refine RW.cu rfl rfl rfl (aA.aB H.aU rfl rfl kn' (by first|rfl|(simp;done)|(simp;omega)) (by first|decide|exact of_decide_eq_true rfl|(simp;done)|(simp;omega)) (jD)) ?_;rintro _ g4 ⟨rfl,ky,x4,zz4⟩;have ky:bp g4 g2.size 25 (tN yk yt ya yn yc):=ky;have eg4:aD g2 g4:=aD.only e4 x4 (Nat.le_refl _);have hcall:=hs x (List.mem_of_getElem? hx) y g4 O O' _ _ (hnx.mv (Mv.ax (eg2.trans eg4))) (hny.mv (Mv.ax eg4));refine xd [1,2,7,8,9,15,16,17,18] rfl ?_;refine bq func33 1 rfl ?_;refine xp rfl (aj.aH H.bO H.aU rfl (kx.ax eg4).row (by first|rfl|(simp;done)|(simp;omega))) ?_;refine xp rfl (aj.aH H.bO H.aU rfl ky.row (by first|rfl|(simp;done)|(simp;omega))) ?_;refine xo rfl (aA.HE (vs:=[_,_]) rfl hfn rfl (ah.bw (hcall))) ?_;rintro _ g5 ⟨rfl,e5⟩;refine aS 1 [1,2,7,8,9,15,16,17,18,30] rfl ?_;refine aI rfl rfl (fun hb=>?_) (fun hb=>?_)
     · have hb:sU x y=false:=by simpa using hb
       refine aZ func33 1 [1,2,6,7,8,9,15,16,17,18,30] rfl ?_;refine G.ret func33 rfl rfl ?_;exact⟨_,rfl,by rw[<-hq,hb];rfl,((eg.trans eg2).trans eg4).trans e5⟩
     · have hb:sU x y=true:=by simpa using hb
       rw[hb,Bool.true_and] at hq;refine aC rfl ?_;refine G.aR ?_;refine G.cz func33 rfl ?_;refine xp rfl (aj.bE rfl rfl ⟨by omega,by omega⟩) ?_;refine aS 1 [1,2,7,8,9,15,16,17,18,30] rfl ?_;exact ih (i+1) _ _ ⟨rfl,rfl,rfl,rfl,rfl,trivial⟩ ⟨hil,((eg.trans eg2).trans eg4).trans e5,hq⟩ (by omega)
   · obtain rfl:i=l.length:=by omega
     rw[List.drop_length,hll,List.drop_length] at hq;refine bA rfl rfl ?_;refine aZ func33 1 [1,2,6,15,16,17,18] rfl ?_;refine G.ret func33 rfl rfl ?_;exact⟨_,rfl,by rw[<-hq];rfl,eg⟩
theorem Gf:∀(d:Nat) (x:Tr),x.dep<=d->J6 x:=by
 intro d
 induction d with
 |zero=>intro x hx;cases x with|mk k t l=>simp[Tr.dep] at hx
 |succ d ih =>
 intro x hd y h O O' v v' hv hv';cases x with
 |mk k t l =>
 cases y with
 |mk k' t' l' =>
  obtain⟨w,rfl,hw⟩:=id hv.open;obtain⟨a,n,c,rfl,_⟩:=id hw.open;obtain⟨w',rfl,hw'⟩:=id hv'.open;obtain⟨a',n',c',rfl,_⟩:=id hw'.open;rw[sU];refine ah.of func14 rfl rfl ?_;refine xr func14 rfl ?_;refine xo rfl (aA.gP rfl) ?_;rintro _ h1 ⟨rfl,k1,e1,z1⟩;refine xo rfl (aA.gP rfl) ?_;rintro _ h2 ⟨rfl,k2,e2,z2⟩;have k1:bp h2 h.size 25 (tN k t a n c):=k1.ax e2;have k2:bp h2 h1.size 25 (tN k' t' a' n' c'):=k2;have e02:=e1.trans e2;have heq:=BN (fun x hx=>ih x (by have:=uo (k:=k) (t:=t) hx;omega)) (hw.ax e02) (hw'.ax e02);refine aS 1 [0,1,2,3,4] rfl ?_;refine av rfl ?_;refine G.uU (fun(u:Unit) (h':az)=>aD h2 h') (fun(u:Unit)=>[(4,.bool (decide (k=k') && (decide (t=t') && lg l l')))]) [(0,_),(1,_),(2,_),(3,_)] ⟨rfl,rfl,rfl,rfl,trivial⟩ func14 rfl ?_ ?_
  · refine xp rfl (af (off:=0) underlying25 rfl rfl H.cA rfl) ?_;refine xp rfl (ai H.de rfl (k1.cell (i:=0) rfl)) ?_;refine xp rfl (af (off:=0) underlying25 rfl rfl H.cA rfl) ?_;refine xp rfl (ai H.de rfl (k2.cell (i:=0) rfl)) ?_;refine bh 2 rfl ?_;refine aP (d:=10) rfl (fun p=>?_) (fun p=>?_)
    · have p:=of_decide_eq_true p;refine xp rfl (af (off:=1) underlying25 rfl rfl H.fL rfl) ?_;refine xp rfl (ai H.gj rfl (k1.cell (i:=1) rfl)) ?_;refine xp rfl (af (off:=1) underlying25 rfl rfl H.fL rfl) ?_;refine xp rfl (ai H.gj rfl (k2.cell (i:=1) rfl)) ?_;refine xp rfl (aj.dX rfl rfl) ?_;refine bh 2 rfl ?_;refine aP (d:=17) rfl (fun q=>?_) (fun q=>?_)
      · have q:t=t':=eT (of_decide_eq_true q);refine xp rfl (af (off:=2) underlying25 rfl rfl H.gq rfl) ?_;refine xp rfl (ai H.ng rfl (k1.cell (i:=2) rfl)) ?_;refine xp rfl (af (off:=2) underlying25 rfl rfl H.gq rfl) ?_;refine xp rfl (ai H.ng rfl (k2.cell (i:=2) rfl)) ?_;refine xo rfl (aq (vs:=[_,_,_]) func33 rfl H.Nq rfl (ah.bw (heq))) ?_;rintro _ h3 ⟨rfl,e3⟩;refine bh 2 rfl ?_;refine aE rfl ?_;exact⟨(),e3,aF rfl (by rw[decide_eq_true p,decide_eq_true q];rfl),rfl,rfl,rfl,rfl,trivial⟩
      · have q:¬t=t':=fun r=>of_decide_eq_false q (by rw[r])
        refine bh 7 rfl ?_;refine aE rfl ?_;exact⟨(),Ext.refl _ _,aF rfl (by rw[decide_eq_false q,decide_eq_true p];rfl),rfl,rfl,rfl,rfl,trivial⟩
    · have p:=of_decide_eq_false p;refine bh 14 rfl ?_;refine aE rfl ?_;exact⟨(),Ext.refl _ _,aF rfl (by rw[decide_eq_false p];rfl),rfl,rfl,rfl,rfl,trivial⟩
  · rintro u h3 e3;refine G.ret func14 rfl rfl ?_;exact⟨_,rfl,rfl,e02.trans e3⟩
theorem Dn {y:Tr}{O':Nat->Prop}{v':Value}(hv:fZ h O v x) (hv':fZ h O' v' y):ah Tryz.prog 14 #[v,v'] h (dh fun r h'=>r= .bool (sU x y)/\aD h h'):=Gf _ x (Nat.le_refl _) y h O O' v v' hv hv'
end
end Go.Proofs.YtmehdcdbeafljaaGreatDoor

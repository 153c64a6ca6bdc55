/- What the proof of the statement leans on (part 26). -/
import Derived.Below
import Derived.Lib.TrimUEq
import Derived.Test.YtiigijehmmcfgaaGreatDoorQy

namespace Go.Proofs.YtiigijehmmcfgaaGreatDoor
open Go.Proofs.Tryz
open Go Go.Lw
set_option maxRecDepth 20000
section
variable {h:ay}
def HM (h:ay):Prop:=(∀c,c<256->cellAt h ⟨0,c,none⟩=some (.int .u8 (Lib.firstT c))) /\
 (∀i,i<16->cellAt h ⟨1,2*i,none⟩=some (.int .u8 (Lib.accLo i))/\cellAt h ⟨1,2*i+1,none⟩=some (.int .u8 (Lib.accHi i)))
structure jb (h:ay):Prop where
 sg:∃lim,lim<=h.size/\Sg h lim
 tens:si h
 rules:lD h
 utf:HM h
 most:∃m,cellAt h ⟨2,0,none⟩=some (.int .i64 m)
theorem jb.ax {h h':ay}(k:jb h) (e:aD h h'):jb h':=by
 obtain⟨⟨lim,h1,h2⟩,h3,h4,h5,m,h6⟩:=k;have hz:=e.size;exact⟨⟨lim,by omega,h2.ext e (fun _ k=>k.elim)⟩,h3.ax e,h4.ax e,⟨fun c hc=>e.cell (fun k=>k) (h5.1 c hc),fun i hi=>⟨e.cell (fun k=>k) (h5.2 i hi).1,e.cell (fun k=>k) (h5.2 i hi).2⟩⟩,m,e.cell (fun k=>k) h6⟩
theorem xY (hg:jb h) (l:By) (hl:l≠[]):ah Tryz.prog 83 #[.string (bs l)] h (bX fun r h'=>(∃x:Nat,r= .tuple #[.int .i32 (x:Nat),.int .i64 (bw l:Nat)])/\aD h h'):=by
 refine ah.nr fun w hw=>?_
 subst hw;have hT:Lib.Utf8Tabs 0 1 w:=⟨fun c hc=>by rw[cU];exact hg.utf.1 c hc,fun i hi=>⟨by rw[cU];exact(hg.utf.2 i hi).1,by rw[cU];exact(hg.utf.2 i hi).2⟩⟩
 refine(Tryz.utf8_DecodeRuneInString (bs l) w hT).mono ?_;rintro e w' ⟨rfl,hb⟩
 have hn:(Lib.decodeGo (bs l)).2=bw l:=by
  have h0:¬(bs l).size=0:=by rw[aZ];have:=List.length_pos_iff.2 hl;omega
  unfold Lib.decodeGo;rw[if_neg h0,Lib.decode_N,ir];rfl
 refine⟨_,rfl,⟨⟨(Lib.decodeGo (bs l)).1,by rw[hn]⟩,⟨hb.size,fun b hlt _=>hb.block b hlt⟩⟩,hb.os,hb.tape,hb.output⟩
theorem mJ (hg:jb h) (s t:By) (hs:s.length<=1000000):ah Tryz.prog 144 #[.string (bs s),.string (bs t)] h (bX fun r h'=>r= .bool (Lib.contains s t)/\h'=h):=by
 obtain⟨m,hm⟩:=hg.most;refine ah.nr fun w hw=>?_
 subst hw;refine(Tryz.strings_Contains (bs s) (bs t) m w (by rw[aZ];omega) (by rw[cU];exact hm)).mono ?_;rintro e w' ⟨rfl,rfl⟩;rw[ir,ir];exact⟨_,rfl,⟨rfl,rfl⟩,rfl,rfl,rfl⟩
theorem AD (hg:jb h) (s:By) (hs:s.length<=1000000):ah Tryz.prog 127 #[.string (bs s)] h (bX fun r h'=>r= .bool (qP s)/\h'=h):=by
 have hbs:=aZ s
 have e1:((⟨#[32]⟩:ByteArray)++bs s)++⟨#[32]⟩=bs (32::(s++[32])):=by
  rw[show (⟨#[32]⟩:ByteArray)=bs [32] from rfl,dA,dA];rfl
 have w1:(⟨#[32]⟩:ByteArray).size=1:=rfl;refine ah.of func127 rfl rfl ?_;refine aY func127 1 [0,2] rfl ?_;refine au rfl ?_;refine G.bu [(2,.bool (qP s))] [(0,_)] ⟨rfl,trivial⟩ func127 rfl ?_ ?_
 · refine cx 1 rfl rfl (ak.mq rfl rfl) ?_;refine aV 1 rfl ?_;refine aH (d:=5) rfl (fun hc=>?_) (fun hc=>?_)
   · have hc':decide (s≠[])=true:=decide_eq_true (fun e=>of_decide_eq_true hc (by rw[e];rfl));refine aV 1 rfl ?_;refine xo rfl (aj (vs:=[_,_]) func144 rfl H.Hq rfl (ah.aX (mJ hg s [32] hs))) ?_;rintro _ h0 ⟨rfl,hh0⟩;subst hh0;refine aV 3 rfl ?_;refine aH (d:=10) rfl (fun hc2=>?_) (fun hc2=>?_)
     · refine cx 1 rfl rfl (ak.gj rfl rfl (by omega)) ?_;refine xp rfl (ak.gj rfl rfl (by rw[ByteArray.size_append];omega)) ?_;rw[e1];refine xo rfl (aj (vs:=[_,_]) func144 rfl H.Hq rfl (ah.aX (mJ hg Ee (32::(s++[32])) (by decide)))) ?_;rintro _ h1 ⟨rfl,hh1⟩;subst hh1;refine aV 2 rfl ?_;refine aC rfl ?_;exact⟨rfl,az rfl (by rw[qP,hc',hc2,Bool.true_and,Bool.true_and]),rfl,trivial⟩
     · refine aV 6 rfl ?_;refine aC rfl ?_;exact⟨rfl,az rfl (by rw[qP,hc',hc2,Bool.true_and,Bool.false_and]),rfl,trivial⟩
   · refine aV 11 rfl ?_;refine aC rfl ?_;exact⟨rfl,az rfl (by rw[qP,decide_eq_false (fun k=>of_decide_eq_false hc (fun e=>k (gE (m:=[]) e))),Bool.false_and]),rfl,trivial⟩
 · refine aK func127 rfl rfl ?_;exact⟨_,rfl,rfl,rfl⟩
theorem Dt {m:Nat}(hm:m<3){i:Nat}:(n7 m)[i]?.map (fun r=>(r.2.1,r.2.2))=(tM m)[i]? :=by
 have h:(n7 m).map (fun r=>(r.2.1,r.2.2))=tM m:=by
  match m,hm with
  | 0,_=>decide
  | 1,_=>decide
  | 2,_=>decide
 rw[<-h,List.getElem?_map]
theorem qB {m:Int}(h:m<0\/3<=m):tM m=[]:=by
 unfold tM;rw[if_neg (by omega),if_neg (by omega),if_neg (by omega)]
theorem DE {α:Type}{l:List α}{kn:Nat}{n:Int}(hk:l.length=kn) (hn:¬n<0):decide ((kn:Int)<=n)= !(l[n.toNat]?).isSome:=by
 cases hq:l[n.toNat]? with
 |none=>have:=List.getElem?_eq_none_iff.1 hq;simp;omega
 |some v=>have:=(List.getElem?_eq_some_iff.1 hq).1;simp;omega
theorem ue (hg:jb h) (m n:Int):ah Tryz.prog 143 #[.int .i64 m,.int .i64 n] h (bX fun r h'=>(∃x:By×Int×Int,r= .tuple #[.agg (eT x).toArray,.bool (jm m n).isSome]/\∀p,jm m n=some p->(x.2.1,x.2.2)=p)/\aD h h'):=by
 refine ah.of func143 rfl rfl ?_;refine xr func143 rfl ?_;refine xo rfl (av.aW H.yu) ?_;rintro _ h1 ⟨rfl,k1,e1,z1⟩;have k1:br h1 h.size 155 [.string ⟨#[]⟩,.int .i64 0,.int .i64 0]:=k1
 have hrow:∀mm:Nat,mm<3->∃oa kn kc,cellAt h1 ⟨3,0+mm*1,none⟩=some (.slice oa kn kc)/\Sl Is h1 (fun _=>False) oa kn kc (n7 mm):=fun mm hmm=>by
  obtain⟨v,hv,hsl⟩:=(hg.rules.ax e1) mm hmm;obtain⟨oa,kn,kc,rfl,h2⟩:=hsl.open;exact⟨oa,kn,kc,by rw[Nat.mul_one,Nat.zero_add];exact hv,h2⟩
 have hlenT:∀mm:Nat,mm<3->(n7 mm).length=(tM mm).length:=fun mm hmm=>by
  match mm,hmm with
  | 0,_=>rfl
  | 1,_=>rfl
  | 2,_=>rfl
 refine aS 1 [0,1,4,5] rfl ?_;refine au rfl ?_;refine au rfl ?_;refine G.bu [(23,.bool (!(jm m n).isSome))] [(0,_),(1,_),(4,_),(5,_)] ⟨rfl,rfl,rfl,rfl,trivial⟩ func143 rfl ?_ ?_
 · refine aV 3 rfl ?_;refine aH (d:=8) rfl (fun c1=>?_) (fun c1=>?_)
   · have c1':=of_decide_eq_true c1;refine aV 15 rfl ?_;refine aC rfl ?_;exact⟨rfl,az rfl (by rw[jm,qB (.inl c1')];simp),rfl,rfl,rfl,rfl,trivial⟩
   · have c1':=of_decide_eq_false c1;refine aV 4 rfl ?_;refine aH (d:=12) rfl (fun c2=>?_) (fun c2=>?_)
     · have c2':=of_decide_eq_true c2;refine aV 11 rfl ?_;refine aC rfl ?_;exact⟨rfl,az rfl (by rw[jm,qB (.inr c2')];simp),rfl,rfl,rfl,rfl,trivial⟩
     · have c2':=of_decide_eq_false c2;refine aV 4 rfl ?_;refine aH (d:=16) rfl (fun c3=>?_) (fun c3=>?_)
       · have c3':=of_decide_eq_true c3;refine aV 7 rfl ?_;refine aC rfl ?_;exact⟨rfl,az rfl (by rw[jm,if_pos c3'];rfl),rfl,rfl,rfl,rfl,trivial⟩
       · have c3':=of_decide_eq_false c3;obtain⟨mm,rfl⟩:=Int.eq_ofNat_of_zero_le (show 0<=m by omega);have hmm:mm<3:=by omega
         obtain⟨oa,kn,kc,hv,hsl⟩:=hrow mm hmm;have hkl:=hsl.len;rw[hlenT mm hmm] at hkl;refine cx 2 rfl rfl (ak.dW underlying156 H.Es rfl rfl mm rfl (by omega)) ?_;refine xp rfl (af H.CC rfl hv) ?_;refine xp rfl (ak.aN underlying153 rfl) ?_;refine aV 2 rfl ?_;refine aC rfl ?_;exact⟨rfl,az rfl (by rw[jm,if_neg c3'];exact DE hkl c3'),rfl,rfl,rfl,rfl,trivial⟩
 · rcases hf:jm m n with _|p
   · refine aO rfl rfl (fun _=>?_) (fun hc=>absurd hc (by simp));refine xr func143 rfl ?_;refine xp rfl (aP (H.IA ) rfl) ?_;refine RW.bh rfl rfl rfl (av.an H.jW rfl rfl k1 (by first|rfl|(simp;done)|(simp;omega)) (by first|decide|exact of_decide_eq_true rfl|(simp;done)|(simp;omega)) (by first|decide|simp[Value.oneCell'])) ?_;rintro _ h2 ⟨rfl,k2,x2,z2⟩;refine aS 1 [0,1,4,5,23] rfl ?_;have k2:br h2 h.size 155 (eT ([],0,0)):=k2;refine G.bq func143 rfl (.cons (aL.bn H.Ar H.jW rfl (k2.row) (by first|rfl|(simp;done)|(simp;omega))) (.cons (aL.tmp rfl) (.nil))) ?_;exact⟨_,rfl,⟨([],0,0),rfl,fun p hp=>by cases hp⟩,e1.only x2 (Nat.le_refl _)⟩
   · have hn0:0<=n:=by
      by_cases q:n<0
      · rw[jm,if_pos q] at hf;cases hf
      · omega
     have hm0:0<=m/\m<3:=by
      by_cases q:m<0\/3<=m
      · rw[jm,qB q] at hf;simp at hf
      · omega
     obtain⟨mm,rfl⟩:=Int.eq_ofNat_of_zero_le hm0.1;obtain⟨i,rfl⟩:=Int.eq_ofNat_of_zero_le hn0;have hmm:mm<3:=by omega
     obtain⟨oa,kn,kc,hv,hsl⟩:=hrow mm hmm;have hkl:=hsl.len;rw[jm,if_neg (by omega),Int.toNat_natCast,<-Dt hmm] at hf;obtain⟨r,hr,hrp⟩:=Option.map_eq_some_iff.1 hf;obtain⟨b3,o3,cs3,ha3,_,hrow3,rfl⟩:=hsl.get i r hr;have hil:=(List.getElem?_eq_some_iff.1 hr).1;refine aO rfl rfl (fun hc=>absurd hc (by simp)) (fun _=>?_);refine aA rfl ?_;refine bB func143 1 rfl ?_;refine xp rfl (ak.dW underlying156 H.Es rfl rfl mm rfl (by omega)) ?_;refine xp rfl (af H.CC rfl hv) ?_;refine cx 1 rfl rfl (ak.aF underlying153 H.jW rfl rfl i rfl ha3 (by omega)) ?_;refine xp rfl (ak.aq H.Ar H.jW rfl hrow3 (by first|rfl|(simp;done)|(simp;omega))) ?_;refine RW.bh rfl rfl rfl (av.an H.jW rfl rfl k1 (by first|rfl|(simp;done)|(simp;omega)) (by first|decide|exact of_decide_eq_true rfl|(simp;done)|(simp;omega)) (pE r)) ?_;rintro _ h2 ⟨rfl,k2,x2,z2⟩;refine aS 1 [0,1,4,5,23] rfl ?_;have k2:br h2 h.size 155 (eT r):=k2;refine G.bq func143 rfl (.cons (aL.bn H.Ar H.jW rfl (k2.row) (by first|rfl|(simp;done)|(simp;omega))) (.cons (aL.tmp rfl) (.nil))) ?_;exact⟨_,rfl,⟨r,rfl,fun p hp=>by cases hp;exact hrp⟩,e1.only x2 (Nat.le_refl _)⟩
theorem Bn (hg:jb h) (m n:Int):ah Tryz.prog 126 #[.int .i64 m,.int .i64 n] h (bX fun r h'=>r= .int .i64 (pV m n)/\aD h h'):=by
 refine ah.of func126 rfl rfl ?_;refine aY func126 1 [0,1,4] rfl ?_;refine bB func126 2 rfl ?_;refine xo rfl (aj (vs:=[_,_]) func143 rfl H.Hr rfl (ah.aX (ue hg m n))) ?_;rintro _ h1 ⟨⟨x,rfl,hx⟩,e1⟩;refine aV 3 rfl ?_;refine xo rfl (av.aW H.yu) ?_;rintro _ h2 ⟨rfl,k2,e2,z2⟩;refine RW.bh rfl rfl rfl (av.an H.jW rfl rfl k2 (by first|rfl|(simp;done)|(simp;omega)) (by first|decide|exact of_decide_eq_true rfl|(simp;done)|(simp;omega)) (pE x)) ?_;rintro _ h3 ⟨rfl,k3,x3,z3⟩;have k3:br h3 h1.size 155 (eT x):=k3;have e3:aD h1 h3:=e2.only x3 (Nat.le_refl _)
 rcases hf:jm m n with _|p
 · refine aS 1 [0,1,4,5,6] rfl ?_;refine au rfl ?_;refine aY func126 2 [0,1,4,5,6,14] rfl ?_;refine aO rfl rfl (fun _=>?_) (fun hc=>absurd hc (by simp));refine aY func126 1 [0,1,4,5,6,14] rfl ?_;refine aK func126 rfl rfl ?_;exact⟨_,rfl,by rw[pV,hf];rfl,e1.trans e3⟩
 · have hp:=hx p hf;refine aS 1 [0,1,4,5,6] rfl ?_;refine au rfl ?_;refine aY func126 2 [0,1,4,5,6,14] rfl ?_;refine aO rfl rfl (fun hc=>absurd hc (by simp)) (fun _=>?_);refine aA rfl ?_;refine xr func126 rfl ?_;refine xp rfl (aa (off:=1) underlying155 rfl rfl H.aQ rfl) ?_;refine xp rfl (af H.bD rfl (k3.cell (i:=1) rfl)) ?_;refine aS 1 [0,1,4,5,6,14] rfl ?_;refine aK func126 rfl rfl ?_;exact⟨_,rfl,by rw[pV,hf,<-hp];rfl,e1.trans e3⟩
end
end Go.Proofs.YtiigijehmmcfgaaGreatDoor

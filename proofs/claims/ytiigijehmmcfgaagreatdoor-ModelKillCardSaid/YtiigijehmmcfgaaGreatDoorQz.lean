/- What the proof of the statement leans on (part 26). -/
import Derived.Below
import Derived.Lib.TrimUEq
import Derived.Test.YtiigijehmmcfgaaGreatDoorQy

namespace Go.Proofs.YtiigijehmmcfgaaGreatDoor
open Go.Proofs.Tryz
open Go Go.Lw
set_option maxRecDepth 20000
section
variable {h:ay}
def Ig (h:ay):Prop:=(∀c,c<256->cellAt h ⟨0,c,none⟩=some (.int .u8 (Lib.firstT c))) /\
 (∀i,i<16->cellAt h ⟨1,2*i,none⟩=some (.int .u8 (Lib.accLo i))/\cellAt h ⟨1,2*i+1,none⟩=some (.int .u8 (Lib.accHi i)))
structure iW (h:ay):Prop where
 sg:∃lim,lim<=h.size/\Sg h lim
 tens:sD h
 rules:lK h
 utf:Ig h
 most:∃m,cellAt h ⟨2,0,none⟩=some (.int .i64 m)
theorem iW.av {h h':ay}(k:iW h) (e:aD h h'):iW h':=by
 obtain⟨⟨lim,h1,h2⟩,h3,h4,h5,m,h6⟩:=k;have hz:=e.size;exact⟨⟨lim,by omega,h2.ext e (fun _ k=>k.elim)⟩,h3.av e,h4.av e,⟨fun c hc=>e.cell (fun k=>k) (h5.1 c hc),fun i hi=>⟨e.cell (fun k=>k) (h5.2 i hi).1,e.cell (fun k=>k) (h5.2 i hi).2⟩⟩,m,e.cell (fun k=>k) h6⟩
theorem yx (hg:iW h) (l:By) (hl:l≠[]):ah Tryz.prog 83 #[.string (bs l)] h (bX fun r h'=>(∃x:Nat,r= .tuple #[.int .i32 (x:Nat),.int .i64 (aZ l:Nat)])/\aD h h'):=by
 refine ah.kY fun w hw=>?_
 subst hw;have hT:Lib.Utf8Tabs 0 1 w:=⟨fun c hc=>by rw[cJ];exact hg.utf.1 c hc,fun i hi=>⟨by rw[cJ];exact(hg.utf.2 i hi).1,by rw[cJ];exact(hg.utf.2 i hi).2⟩⟩
 refine(Tryz.utf8_DecodeRuneInString (bs l) w hT).mono ?_;rintro e w' ⟨rfl,hb⟩
 have hn:(Lib.decodeGo (bs l)).2=aZ l:=by
  have h0:¬(bs l).size=0:=by rw[bf];have:=List.length_pos_iff.2 hl;omega
  unfold Lib.decodeGo;rw[if_neg h0,Lib.decode_N,gJ];rfl
 refine⟨_,rfl,⟨⟨(Lib.decodeGo (bs l)).1,by rw[hn]⟩,⟨hb.size,fun b hlt _=>hb.block b hlt⟩⟩,hb.os,hb.tape,hb.output⟩
theorem mO (hg:iW h) (s t:By) (hs:s.length<=1000000):ah Tryz.prog 144 #[.string (bs s),.string (bs t)] h (bX fun r h'=>r= .bool (Lib.contains s t)/\h'=h):=by
 obtain⟨m,hm⟩:=hg.most;refine ah.kY fun w hw=>?_
 subst hw;refine(Tryz.strings_Contains (bs s) (bs t) m w (by rw[bf];omega) (by rw[cJ];exact hm)).mono ?_;rintro e w' ⟨rfl,rfl⟩;rw[gJ,gJ];exact⟨_,rfl,⟨rfl,rfl⟩,rfl,rfl,rfl⟩
theorem AW (hg:iW h) (s:By) (hs:s.length<=1000000):ah Tryz.prog 127 #[.string (bs s)] h (bX fun r h'=>r= .bool (rf s)/\h'=h):=by
 have hbs:=bf s
 have e1:((⟨#[32]⟩:ByteArray)++bs s)++⟨#[32]⟩=bs (32::(s++[32])):=by
  rw[show (⟨#[32]⟩:ByteArray)=bs [32] from rfl,dQ,dQ];rfl
 have w1:(⟨#[32]⟩:ByteArray).size=1:=rfl;refine ah.of func127 rfl rfl ?_;refine aY func127 1 [0,2] rfl ?_;refine au rfl ?_;refine G.bz [(2,.bool (rf s))] [(0,_)] ⟨rfl,trivial⟩ func127 rfl ?_ ?_
 · refine cz 1 rfl rfl (ak.tF rfl rfl) ?_;refine aV 1 rfl ?_;refine aH (d:=5) rfl (fun hc=>?_) (fun hc=>?_)
   · have hc':decide (s≠[])=true:=decide_eq_true (fun e=>of_decide_eq_true hc (by rw[e];rfl));refine aV 1 rfl ?_;refine xo rfl (aj (vs:=[_,_]) func144 rfl H.HM rfl (ah.aX (mO hg s [32] hs))) ?_;rintro _ h0 ⟨rfl,hh0⟩;subst hh0;refine aV 3 rfl ?_;refine aH (d:=10) rfl (fun hc2=>?_) (fun hc2=>?_)
     · refine cz 1 rfl rfl (ak.iq rfl rfl (by omega)) ?_;refine xp rfl (ak.iq rfl rfl (by rw[ByteArray.size_append];omega)) ?_;rw[e1];refine xo rfl (aj (vs:=[_,_]) func144 rfl H.HM rfl (ah.aX (mO hg Ez (32::(s++[32])) (by decide)))) ?_;rintro _ h1 ⟨rfl,hh1⟩;subst hh1;refine aV 2 rfl ?_;refine aC rfl ?_;exact⟨rfl,az rfl (by rw[rf,hc',hc2,Bool.true_and,Bool.true_and]),rfl,trivial⟩
     · refine aV 6 rfl ?_;refine aC rfl ?_;exact⟨rfl,az rfl (by rw[rf,hc',hc2,Bool.true_and,Bool.false_and]),rfl,trivial⟩
   · refine aV 11 rfl ?_;refine aC rfl ?_;exact⟨rfl,az rfl (by rw[rf,decide_eq_false (fun k=>of_decide_eq_false hc (fun e=>k (gK (m:=[]) e))),Bool.false_and]),rfl,trivial⟩
 · refine aJ func127 rfl rfl ?_;exact⟨_,rfl,rfl,rfl⟩
theorem DN {m:Nat}(hm:m<3){i:Nat}:(om m)[i]?.map (fun r=>(r.2.1,r.2.2))=(uk m)[i]? :=by
 have h:(om m).map (fun r=>(r.2.1,r.2.2))=uk m:=by
  match m,hm with
  | 0,_=>decide
  | 1,_=>decide
  | 2,_=>decide
 rw[<-h,List.getElem?_map]
theorem qL {m:Int}(h:m<0\/3<=m):uk m=[]:=by
 unfold uk;rw[if_neg (by omega),if_neg (by omega),if_neg (by omega)]
theorem DZ {α:Type}{l:List α}{kn:Nat}{n:Int}(hk:l.length=kn) (hn:¬n<0):decide ((kn:Int)<=n)= !(l[n.toNat]?).isSome:=by
 cases hq:l[n.toNat]? with
 |none=>have:=List.getElem?_eq_none_iff.1 hq;simp;omega
 |some v=>have:=(List.getElem?_eq_some_iff.1 hq).1;simp;omega
theorem uA (hg:iW h) (m n:Int):ah Tryz.prog 143 #[.int .i64 m,.int .i64 n] h (bX fun r h'=>(∃x:By×Int×Int,r= .tuple #[.agg (eW x).toArray,.bool (jt m n).isSome]/\∀p,jt m n=some p->(x.2.1,x.2.2)=p)/\aD h h'):=by
 refine ah.of func143 rfl rfl ?_;refine xr func143 rfl ?_;refine xo rfl (ax.aW H.yM) ?_;rintro _ h1 ⟨rfl,k1,e1,z1⟩;have k1:bu h1 h.size 155 [.string ⟨#[]⟩,.int .i64 0,.int .i64 0]:=k1
 have hrow:∀mm:Nat,mm<3->∃oa kn kc,cellAt h1 ⟨3,0+mm*1,none⟩=some (.slice oa kn kc)/\Sl IS h1 (fun _=>False) oa kn kc (om mm):=fun mm hmm=>by
  obtain⟨v,hv,hsl⟩:=(hg.rules.av e1) mm hmm;obtain⟨oa,kn,kc,rfl,h2⟩:=hsl.open;exact⟨oa,kn,kc,by rw[Nat.mul_one,Nat.zero_add];exact hv,h2⟩
 have hlenT:∀mm:Nat,mm<3->(om mm).length=(uk mm).length:=fun mm hmm=>by
  match mm,hmm with
  | 0,_=>rfl
  | 1,_=>rfl
  | 2,_=>rfl
 refine aS 1 [0,1,4,5] rfl ?_;refine au rfl ?_;refine au rfl ?_;refine G.bz [(23,.bool (!(jt m n).isSome))] [(0,_),(1,_),(4,_),(5,_)] ⟨rfl,rfl,rfl,rfl,trivial⟩ func143 rfl ?_ ?_
 · refine aV 3 rfl ?_;refine aH (d:=8) rfl (fun c1=>?_) (fun c1=>?_)
   · have c1':=of_decide_eq_true c1;refine aV 15 rfl ?_;refine aC rfl ?_;exact⟨rfl,az rfl (by rw[jt,qL (.inl c1')];simp),rfl,rfl,rfl,rfl,trivial⟩
   · have c1':=of_decide_eq_false c1;refine aV 4 rfl ?_;refine aH (d:=12) rfl (fun c2=>?_) (fun c2=>?_)
     · have c2':=of_decide_eq_true c2;refine aV 11 rfl ?_;refine aC rfl ?_;exact⟨rfl,az rfl (by rw[jt,qL (.inr c2')];simp),rfl,rfl,rfl,rfl,trivial⟩
     · have c2':=of_decide_eq_false c2;refine aV 4 rfl ?_;refine aH (d:=16) rfl (fun c3=>?_) (fun c3=>?_)
       · have c3':=of_decide_eq_true c3;refine aV 7 rfl ?_;refine aC rfl ?_;exact⟨rfl,az rfl (by rw[jt,if_pos c3'];rfl),rfl,rfl,rfl,rfl,trivial⟩
       · have c3':=of_decide_eq_false c3;obtain⟨mm,rfl⟩:=Int.eq_ofNat_of_zero_le (show 0<=m by omega);have hmm:mm<3:=by omega
         obtain⟨oa,kn,kc,hv,hsl⟩:=hrow mm hmm;have hkl:=hsl.len;rw[hlenT mm hmm] at hkl;refine cz 2 rfl rfl (ak.dY underlying156 H.EM rfl rfl mm rfl (by omega)) ?_;refine xp rfl (af H.C0 rfl hv) ?_;refine xp rfl (ak.aM underlying153 rfl) ?_;refine aV 2 rfl ?_;refine aC rfl ?_;exact⟨rfl,az rfl (by rw[jt,if_neg c3'];exact DZ hkl c3'),rfl,rfl,rfl,rfl,trivial⟩
 · rcases hf:jt m n with _|p
   · refine aP rfl rfl (fun _=>?_) (fun hc=>absurd hc (by simp));refine xr func143 rfl ?_;refine xp rfl (aO (H.IZ ) rfl) ?_;refine RW.bk rfl rfl rfl (ax.an H.ke rfl rfl k1 (by first|rfl|(simp;done)|(simp;omega)) (by first|decide|exact of_decide_eq_true rfl|(simp;done)|(simp;omega)) (by first|decide|simp[Value.oneCell'])) ?_;rintro _ h2 ⟨rfl,k2,x2,z2⟩;refine aS 1 [0,1,4,5,23] rfl ?_;have k2:bu h2 h.size 155 (eW ([],0,0)):=k2;refine G.br func143 rfl (.cons (aL.bp H.AL H.ke rfl (k2.row) (by first|rfl|(simp;done)|(simp;omega))) (.cons (aL.tmp rfl) (.nil))) ?_;exact⟨_,rfl,⟨([],0,0),rfl,fun p hp=>by cases hp⟩,e1.only x2 (Nat.le_refl _)⟩
   · have hn0:0<=n:=by
      by_cases q:n<0
      · rw[jt,if_pos q] at hf;cases hf
      · omega
     have hm0:0<=m/\m<3:=by
      by_cases q:m<0\/3<=m
      · rw[jt,qL q] at hf;simp at hf
      · omega
     obtain⟨mm,rfl⟩:=Int.eq_ofNat_of_zero_le hm0.1;obtain⟨i,rfl⟩:=Int.eq_ofNat_of_zero_le hn0;have hmm:mm<3:=by omega
     obtain⟨oa,kn,kc,hv,hsl⟩:=hrow mm hmm;have hkl:=hsl.len;rw[jt,if_neg (by omega),Int.toNat_natCast,<-DN hmm] at hf;obtain⟨r,hr,hrp⟩:=Option.map_eq_some_iff.1 hf;obtain⟨b3,o3,cs3,ha3,_,hrow3,rfl⟩:=hsl.get i r hr;have hil:=(List.getElem?_eq_some_iff.1 hr).1;refine aP rfl rfl (fun hc=>absurd hc (by simp)) (fun _=>?_);refine aA rfl ?_;refine bC func143 1 rfl ?_;refine xp rfl (ak.dY underlying156 H.EM rfl rfl mm rfl (by omega)) ?_;refine xp rfl (af H.C0 rfl hv) ?_;refine cz 1 rfl rfl (ak.aF underlying153 H.ke rfl rfl i rfl ha3 (by omega)) ?_;refine xp rfl (ak.aq H.AL H.ke rfl hrow3 (by first|rfl|(simp;done)|(simp;omega))) ?_;refine RW.bk rfl rfl rfl (ax.an H.ke rfl rfl k1 (by first|rfl|(simp;done)|(simp;omega)) (by first|decide|exact of_decide_eq_true rfl|(simp;done)|(simp;omega)) (pH r)) ?_;rintro _ h2 ⟨rfl,k2,x2,z2⟩;refine aS 1 [0,1,4,5,23] rfl ?_;have k2:bu h2 h.size 155 (eW r):=k2;refine G.br func143 rfl (.cons (aL.bp H.AL H.ke rfl (k2.row) (by first|rfl|(simp;done)|(simp;omega))) (.cons (aL.tmp rfl) (.nil))) ?_;exact⟨_,rfl,⟨r,rfl,fun p hp=>by cases hp;exact hrp⟩,e1.only x2 (Nat.le_refl _)⟩
theorem BI (hg:iW h) (m n:Int):ah Tryz.prog 126 #[.int .i64 m,.int .i64 n] h (bX fun r h'=>r= .int .i64 (p6 m n)/\aD h h'):=by
 refine ah.of func126 rfl rfl ?_;refine aY func126 1 [0,1,4] rfl ?_;refine bC func126 2 rfl ?_;refine xo rfl (aj (vs:=[_,_]) func143 rfl H.HN rfl (ah.aX (uA hg m n))) ?_;rintro _ h1 ⟨⟨x,rfl,hx⟩,e1⟩;refine aV 3 rfl ?_;refine xo rfl (ax.aW H.yM) ?_;rintro _ h2 ⟨rfl,k2,e2,z2⟩;refine RW.bk rfl rfl rfl (ax.an H.ke rfl rfl k2 (by first|rfl|(simp;done)|(simp;omega)) (by first|decide|exact of_decide_eq_true rfl|(simp;done)|(simp;omega)) (pH x)) ?_;rintro _ h3 ⟨rfl,k3,x3,z3⟩;have k3:bu h3 h1.size 155 (eW x):=k3;have e3:aD h1 h3:=e2.only x3 (Nat.le_refl _)
 rcases hf:jt m n with _|p
 · refine aS 1 [0,1,4,5,6] rfl ?_;refine au rfl ?_;refine aY func126 2 [0,1,4,5,6,14] rfl ?_;refine aP rfl rfl (fun _=>?_) (fun hc=>absurd hc (by simp));refine aY func126 1 [0,1,4,5,6,14] rfl ?_;refine aJ func126 rfl rfl ?_;exact⟨_,rfl,by rw[p6,hf];rfl,e1.trans e3⟩
 · have hp:=hx p hf;refine aS 1 [0,1,4,5,6] rfl ?_;refine au rfl ?_;refine aY func126 2 [0,1,4,5,6,14] rfl ?_;refine aP rfl rfl (fun hc=>absurd hc (by simp)) (fun _=>?_);refine aA rfl ?_;refine xr func126 rfl ?_;refine xp rfl (aa (off:=1) underlying155 rfl rfl H.aQ rfl) ?_;refine xp rfl (af H.bG rfl (k3.cell (i:=1) rfl)) ?_;refine aS 1 [0,1,4,5,6,14] rfl ?_;refine aJ func126 rfl rfl ?_;exact⟨_,rfl,by rw[p6,hf,<-hp];rfl,e1.trans e3⟩
end
end Go.Proofs.YtiigijehmmcfgaaGreatDoor

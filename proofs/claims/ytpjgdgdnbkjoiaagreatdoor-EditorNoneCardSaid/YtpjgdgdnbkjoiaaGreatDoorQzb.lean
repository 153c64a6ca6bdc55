/- What the proof of the statement leans on (part 28). -/
import Derived.Below
import Derived.Lib.TrimUEq
import Derived.Test.YtpjgdgdnbkjoiaaGreatDoorQza

namespace Go.Proofs.YtpjgdgdnbkjoiaaGreatDoor
open Go Go.Lw
set_option maxRecDepth 20000 set_option maxHeartbeats 4000000
section
variable {h:ai}
def L4 (h:ai):Prop:=(∀c,c<256->cellAt h ⟨2,c,none⟩=some (.int .u8 (Lib.firstT c))) /\
 (∀i,i<16->cellAt h ⟨3,2*i,none⟩=some (.int .u8 (Lib.accLo i))/\cellAt h ⟨3,2*i+1,none⟩=some (.int .u8 (Lib.accHi i)))
structure kF (h:ai):Prop where
 sg:∃lim,lim<=h.size/\Sg h lim
 tens:tH h
 rules:ko h
 utf:L4 h
 most:∃m,cellAt h ⟨1,0,none⟩=some (.int .i64 m)
theorem kF.aj {h h':ai}(k:kF h) (e:ak h h'):kF h':=by
 obtain⟨⟨lim,h1,h2⟩,h3,h4,h5,m,h6⟩:=k;have hz:=e.size;exact⟨⟨lim,by omega,h2.ext e (fun _ k=>k.elim)⟩,h3.aj e,h4.aj e,⟨fun c hc=>e.cell (fun k=>k) (h5.1 c hc),fun i hi=>⟨e.cell (fun k=>k) (h5.2 i hi).1,e.cell (fun k=>k) (h5.2 i hi).2⟩⟩,m,e.cell (fun k=>k) h6⟩
theorem Bg (hg:kF h) (l:By) (hl:l≠[]):af Tryz.prog 175 #[.string (bs l)] h (aX fun r h'=>(∃x:Nat,r= .tuple #[.int .i32 (x:Nat),.int .i64 (aN l:Nat)])/\ak h h'):=by
 refine af.oY fun w hw=>?_
 subst hw;have hT:Lib.Utf8Tabs 2 3 w:=⟨fun c hc=>by rw[cE];exact hg.utf.1 c hc,fun i hi=>⟨by rw[cE];exact(hg.utf.2 i hi).1,by rw[cE];exact(hg.utf.2 i hi).2⟩⟩
 refine(Tryz.utf8_DecodeRuneInString (bs l) w hT).mono ?_;rintro e w' ⟨rfl,hb⟩
 have hn:(Lib.decodeGo (bs l)).2=aN l:=by
  have h0:¬(bs l).size=0:=by rw[aF];have:=List.length_pos_iff.2 hl;omega
  unfold Lib.decodeGo;rw[if_neg h0,Lib.decode_N,jr];rfl
 refine⟨_,rfl,⟨⟨(Lib.decodeGo (bs l)).1,by rw[hn]⟩,⟨hb.size,fun b hlt _=>hb.block b hlt⟩⟩,hb.os,hb.tape,hb.output⟩
theorem oz (hg:kF h) (s t:By) (hs:s.length<=1000000):af Tryz.prog 177 #[.string (bs s),.string (bs t)] h (aX fun r h'=>r= .bool (Lib.contains s t)/\h'=h):=by
 obtain⟨m,hm⟩:=hg.most;refine af.oY fun w hw=>?_
 subst hw;refine(Tryz.strings_Contains (bs s) (bs t) m w (by rw[aF];omega) (by rw[cE];exact hm)).mono ?_;rintro e w' ⟨rfl,rfl⟩;rw[jr,jr];exact⟨_,rfl,⟨rfl,rfl⟩,rfl,rfl,rfl⟩
theorem Dr (hg:kF h) (s:By) (hs:s.length<=1000000):af Tryz.prog 126 #[.string (bs s)] h (aX fun r h'=>r= .bool (tK s)/\h'=h):=by
 have hbs:=aF s
 have e1:((⟨#[32]⟩:ByteArray)++bs s)++⟨#[32]⟩=bs (32::(s++[32])):=by
  rw[show (⟨#[32]⟩:ByteArray)=bs [32] from rfl,fK,fK];rfl
 have w1:(⟨#[32]⟩:ByteArray).size=1:=rfl;refine cu ?_;refine bZ ?_;refine eu ?_;refine b7 ?_;refine fu ?_;refine bZ ?_;refine jR [(2,.bool (tK s))] rfl ?_ ?_
 · refine ah ?_;refine gU 5 (fun hc=>?_) (fun hc=>?_)
   · have hc':decide (s≠[])=true:=decide_eq_true (fun e=>of_decide_eq_true hc (by rw[e];rfl));refine ah ?_;refine xo rfl (bl rfl (oz hg s [32] hs)) ?_;rintro _ h0 ⟨rfl,hh0⟩;subst hh0;refine ah ?_;refine gU 10 (fun hc2=>?_) (fun hc2=>?_)
     · iterate 2 refine b7 ?_
       refine xp rfl (an.mM rfl rfl (by rw[ByteArray.size_append];omega)) ?_;rw[e1];refine xo rfl (bl rfl (oz hg HM (32::(s++[32])) (by decide))) ?_;rintro _ h1 ⟨rfl,hh1⟩;subst hh1;refine ah ?_;exact bq rfl ⟨aq rfl (by rw[tK,hc',hc2,Bool.true_and,Bool.true_and]),sb rfl⟩
     · refine ah ?_;exact bq rfl ⟨aq rfl (by rw[tK,hc',hc2,Bool.true_and,Bool.false_and]),sb rfl⟩
   · refine ah ?_;exact bq rfl ⟨aq rfl (by rw[tK,decide_eq_false (fun k=>of_decide_eq_false hc (fun e=>k (gX (m:=[]) e))),Bool.false_and]),sb rfl⟩
 · refine bE ?_;exact⟨_,rfl,rfl,rfl⟩
theorem GM {m:Nat}(hm:m<3){i:Nat}:(qp m)[i]?.map (fun r=>(r.2.1,r.2.2))=(wL m)[i]? :=by
 have h:(qp m).map (fun r=>(r.2.1,r.2.2))=wL m:=by
  match m,hm with
  | 0,_=>decide
  | 1,_=>decide
  | 2,_=>decide
 rw[<-h,List.getElem?_map]
theorem th {m:Int}(h:m<0\/3<=m):wL m=[]:=by
 unfold wL;rw[if_neg (by omega),if_neg (by omega),if_neg (by omega)]
theorem GX {α:Type}{l:List α}{kn:Nat}{n:Int}(hk:l.length=kn) (hn:¬n<0):decide ((kn:Int)<=n)= !(l[n.toNat]?).isSome:=by
 cases hq:l[n.toNat]? with
 |none=>have:=List.getElem?_eq_none_iff.1 hq;simp;omega
 |some v=>have:=(List.getElem?_eq_some_iff.1 hq).1;simp;omega
theorem wY (hg:kF h) (m n:Int):af Tryz.prog 176 #[.int .i64 m,.int .i64 n] h (aX fun r h'=>(∃x:By×Int×Int,r= .tuple #[.agg (eY x).toArray,.bool (jI m n).isSome]/\∀p,jI m n=some p->(x.2.1,x.2.2)=p)/\ak h h'):=by
 refine cu ?_;refine ah ?_;refine xo rfl (iT) ?_;rintro _ h1 ⟨rfl,k1,e1,z1⟩;have k1:aE h1 h.size 162 [.string ⟨#[]⟩,.int .i64 0,.int .i64 0]:=k1
 have hrow:∀mm:Nat,mm<3->∃oa kn kc,cellAt h1 ⟨0,0+mm*1,none⟩=some (.slice oa kn kc)/\Sl MP h1 (fun _=>False) oa kn kc (qp mm):=fun mm hmm=>by
  obtain⟨v,hv,hsl⟩:=(hg.rules.aj e1) mm hmm;obtain⟨oa,kn,kc,rfl,h2⟩:=hsl.open;exact⟨oa,kn,kc,by rw[Nat.mul_one,Nat.zero_add];exact hv,h2⟩
 have hlenT:∀mm:Nat,mm<3->(qp mm).length=(wL mm).length:=fun mm hmm=>by
  match mm,hmm with
  | 0,_=>rfl
  | 1,_=>rfl
  | 2,_=>rfl
 refine b7 ?_;refine fu ?_
 iterate 2 refine bZ ?_
 refine jR [(23,.bool (!(jI m n).isSome))] rfl ?_ ?_
 · refine ah ?_;refine gU 8 (fun c1=>?_) (fun c1=>?_)
   · have c1':=of_decide_eq_true c1;refine ah ?_;exact bq rfl ⟨aq rfl (by rw[jI,th (.inl c1')];simp),sb rfl⟩
   · have c1':=of_decide_eq_false c1;refine ah ?_;refine gU 12 (fun c2=>?_) (fun c2=>?_)
     · have c2':=of_decide_eq_true c2;refine ah ?_;exact bq rfl ⟨aq rfl (by rw[jI,th (.inr c2')];simp),sb rfl⟩
     · have c2':=of_decide_eq_false c2;refine ah ?_;refine gU 16 (fun c3=>?_) (fun c3=>?_)
       · have c3':=of_decide_eq_true c3;refine ah ?_;exact bq rfl ⟨aq rfl (by rw[jI,if_pos c3'];rfl),sb rfl⟩
       · have c3':=of_decide_eq_false c3;obtain⟨mm,rfl⟩:=Int.eq_ofNat_of_zero_le (show 0<=m by omega);have hmm:mm<3:=by omega
         obtain⟨oa,kn,kc,hv,hsl⟩:=hrow mm hmm;have hkl:=hsl.len;rw[hlenT mm hmm] at hkl
         iterate 2 refine b7 ?_
         refine xp rfl (Dl rfl rfl mm rfl (by omega)) ?_;refine xp rfl (aM rfl hv) ?_;refine ah ?_;exact bq rfl ⟨aq rfl (by rw[jI,if_neg c3'];exact GX hkl c3'),sb rfl⟩
 · rcases hf:jI m n with _|p
   · refine mX rfl (by simp) ?_;refine ah ?_;refine xp rfl (aB (H.MZ ) rfl) ?_;refine bQ rfl (er rfl rfl k1) ?_;rintro _ h2 ⟨rfl,k2,x2,z2⟩;refine ah ?_;have k2:aE h2 h.size 162 (eY ([],0,0)):=k2;refine jQ (jd rfl k2.row (Kg jP)) ?_;exact⟨_,rfl,⟨([],0,0),rfl,fun p hp=>by cases hp⟩,e1.only x2 (Nat.le_refl _)⟩
   · have hn0:0<=n:=by
      by_cases q:n<0
      · rw[jI,if_pos q] at hf;cases hf
      · omega
     have hm0:0<=m/\m<3:=by
      by_cases q:m<0\/3<=m
      · rw[jI,th q] at hf;simp at hf
      · omega
     obtain⟨mm,rfl⟩:=Int.eq_ofNat_of_zero_le hm0.1;obtain⟨i,rfl⟩:=Int.eq_ofNat_of_zero_le hn0;have hmm:mm<3:=by omega
     obtain⟨oa,kn,kc,hv,hsl⟩:=hrow mm hmm;have hkl:=hsl.len;rw[jI,if_neg (by omega),Int.toNat_natCast,<-GM hmm] at hf;obtain⟨r,hr,hrp⟩:=Option.map_eq_some_iff.1 hf;obtain⟨b3,o3,cs3,ha3,_,hrow3,rfl⟩:=hsl.get i r hr;have hil:=(List.getElem?_eq_some_iff.1 hr).1;refine mQ rfl (by simp) ?_
     iterate 2 refine bZ ?_
     refine eu ?_;refine b7 ?_;refine xp rfl (Dl rfl rfl mm rfl (by omega)) ?_;refine xp rfl (aM rfl hv) ?_;refine b7 ?_;refine xp rfl (eK rfl rfl i rfl ha3) ?_;refine xp rfl (eN rfl hrow3) ?_;refine bQ rfl (er rfl rfl k1 (rH r)) ?_;rintro _ h2 ⟨rfl,k2,x2,z2⟩;refine ah ?_;have k2:aE h2 h.size 162 (eY r):=k2;refine jQ (jd rfl k2.row (Kg jP)) ?_;exact⟨_,rfl,⟨r,rfl,fun p hp=>by cases hp;exact hrp⟩,e1.only x2 (Nat.le_refl _)⟩
theorem Ef (hg:kF h) (m n:Int):af Tryz.prog 125 #[.int .i64 m,.int .i64 n] h (aX fun r h'=>r= .int .i64 (rX m n)/\ak h h'):=by
 refine cu ?_;refine ah ?_;refine xo rfl (bl rfl (wY hg m n)) ?_;rintro _ h1 ⟨⟨x,rfl,hx⟩,e1⟩;refine ah ?_;refine xo rfl (iT) ?_;rintro _ h2 ⟨rfl,k2,e2,z2⟩;refine bQ rfl (er rfl rfl k2 (rH x)) ?_;rintro _ h3 ⟨rfl,k3,x3,z3⟩;have k3:aE h3 h1.size 162 (eY x):=k3;have e3:ak h1 h3:=e2.only x3 (Nat.le_refl _)
 rcases hf:jI m n with _|p
 · refine ah ?_;refine mX rfl (by simp) ?_;refine ah ?_;refine bE ?_;exact⟨_,rfl,by rw[rX,hf];rfl,e1.trans e3⟩
 · have hp:=hx p hf;refine ah ?_;refine mQ rfl (by simp) ?_;refine ah ?_;refine xp rfl (aM rfl (k3.cell (i:=1) rfl)) ?_;refine ah ?_;refine bE ?_;exact⟨_,rfl,by rw[rX,hf,<-hp];rfl,e1.trans e3⟩
end
end Go.Proofs.YtpjgdgdnbkjoiaaGreatDoor

/- What the proof of the statement leans on (part 28). -/
import Derived.Below
import Derived.Lib.TrimUEq
import Derived.Test.YtpjgdgdnbkjoiaaGreatDoorQza

namespace Go.Proofs.YtpjgdgdnbkjoiaaGreatDoor
open Go Go.Lw
set_option maxRecDepth 20000 set_option maxHeartbeats 4000000
section
variable {h:ai}
def Mi (h:ai):Prop:=(∀c,c<256->cellAt h ⟨2,c,none⟩=some (.int .u8 (Lib.firstT c))) /\
 (∀i,i<16->cellAt h ⟨3,2*i,none⟩=some (.int .u8 (Lib.accLo i))/\cellAt h ⟨3,2*i+1,none⟩=some (.int .u8 (Lib.accHi i)))
structure lf (h:ai):Prop where
 sg:∃lim,lim<=h.size/\Sg h lim
 tens:tW h
 rules:kY h
 utf:Mi h
 most:∃m,cellAt h ⟨1,0,none⟩=some (.int .i64 m)
theorem lf.aj {h h':ai}(k:lf h) (e:an h h'):lf h':=by
 obtain⟨⟨lim,h1,h2⟩,h3,h4,h5,m,h6⟩:=k;have hz:=e.size;exact⟨⟨lim,by omega,h2.ext e (fun _ k=>k.elim)⟩,h3.aj e,h4.aj e,⟨fun c hc=>e.cell (fun k=>k) (h5.1 c hc),fun i hi=>⟨e.cell (fun k=>k) (h5.2 i hi).1,e.cell (fun k=>k) (h5.2 i hi).2⟩⟩,m,e.cell (fun k=>k) h6⟩
theorem Bt (hg:lf h) (l:By) (hl:l≠[]):af Tryz.prog 175 #[.string (bs l)] h (bg fun r h'=>(∃x:Nat,r= .tuple #[.int .i32 (x:Nat),.int .i64 (aN l:Nat)])/\an h h'):=by
 refine af.pG fun w hw=>?_
 subst hw;have hT:Lib.Utf8Tabs 2 3 w:=⟨fun c hc=>by rw[cA];exact hg.utf.1 c hc,fun i hi=>⟨by rw[cA];exact(hg.utf.2 i hi).1,by rw[cA];exact(hg.utf.2 i hi).2⟩⟩
 refine(Tryz.utf8_DecodeRuneInString (bs l) w hT).mono ?_;rintro e w' ⟨rfl,hb⟩
 have hn:(Lib.decodeGo (bs l)).2=aN l:=by
  have h0:¬(bs l).size=0:=by rw[aE];have:=List.length_pos_iff.2 hl;omega
  unfold Lib.decodeGo;rw[if_neg h0,Lib.decode_N,jC];rfl
 refine⟨_,rfl,⟨⟨(Lib.decodeGo (bs l)).1,by rw[hn]⟩,⟨hb.size,fun b hlt _=>hb.block b hlt⟩⟩,hb.os,hb.tape,hb.output⟩
theorem oL (hg:lf h) (s t:By) (hs:s.length<=1000000):af Tryz.prog 177 #[.string (bs s),.string (bs t)] h (bg fun r h'=>r= .bool (Lib.contains s t)/\h'=h):=by
 obtain⟨m,hm⟩:=hg.most;refine af.pG fun w hw=>?_
 subst hw;refine(Tryz.strings_Contains (bs s) (bs t) m w (by rw[aE];omega) (by rw[cA];exact hm)).mono ?_;rintro e w' ⟨rfl,rfl⟩;rw[jC,jC];exact⟨_,rfl,⟨rfl,rfl⟩,rfl,rfl,rfl⟩
theorem DE (hg:lf h) (s:By) (hs:s.length<=1000000):af Tryz.prog 126 #[.string (bs s)] h (bg fun r h'=>r= .bool (tZ s)/\h'=h):=by
 have hbs:=aE s
 have e1:((⟨#[32]⟩:ByteArray)++bs s)++⟨#[32]⟩=bs (32::(s++[32])):=by
  rw[show (⟨#[32]⟩:ByteArray)=bs [32] from rfl,fQ,fQ];rfl
 have w1:(⟨#[32]⟩:ByteArray).size=1:=rfl;refine cw ?_;refine bY ?_;refine ew ?_;refine b6 ?_;refine fB ?_;refine bY ?_;refine j9 [(2,.bool (tZ s))] rfl ?_ ?_
 · refine ah ?_;refine hU 5 (fun hc=>?_) (fun hc=>?_)
   · have hc':decide (s≠[])=true:=decide_eq_true (fun e=>of_decide_eq_true hc (by rw[e];rfl));refine ah ?_;refine xo rfl (bh rfl (oL hg s [32] hs)) ?_;rintro _ h0 ⟨rfl,hh0⟩;subst hh0;refine ah ?_;refine hU 10 (fun hc2=>?_) (fun hc2=>?_)
     · iterate 2 refine b6 ?_
       refine xp rfl (ak.nu rfl rfl (by rw[ByteArray.size_append];omega)) ?_;rw[e1];refine xo rfl (bh rfl (oL hg HR (32::(s++[32])) (by decide))) ?_;rintro _ h1 ⟨rfl,hh1⟩;subst hh1;refine ah ?_;exact bn rfl ⟨au rfl (by rw[tZ,hc',hc2,Bool.true_and,Bool.true_and]),sb rfl⟩
     · refine ah ?_;exact bn rfl ⟨au rfl (by rw[tZ,hc',hc2,Bool.true_and,Bool.false_and]),sb rfl⟩
   · refine ah ?_;exact bn rfl ⟨au rfl (by rw[tZ,decide_eq_false (fun k=>of_decide_eq_false hc (fun e=>k (ie (m:=[]) e))),Bool.false_and]),sb rfl⟩
 · refine bE ?_;exact⟨_,rfl,rfl,rfl⟩
theorem GV {m:Nat}(hm:m<3){i:Nat}:(qz m)[i]?.map (fun r=>(r.2.1,r.2.2))=(wZ m)[i]? :=by
 have h:(qz m).map (fun r=>(r.2.1,r.2.2))=wZ m:=by
  match m,hm with
  | 0,_=>decide
  | 1,_=>decide
  | 2,_=>decide
 rw[<-h,List.getElem?_map]
theorem tI {m:Int}(h:m<0\/3<=m):wZ m=[]:=by
 unfold wZ;rw[if_neg (by omega),if_neg (by omega),if_neg (by omega)]
theorem G5 {α:Type}{l:List α}{kn:Nat}{n:Int}(hk:l.length=kn) (hn:¬n<0):decide ((kn:Int)<=n)= !(l[n.toNat]?).isSome:=by
 cases hq:l[n.toNat]? with
 |none=>have:=List.getElem?_eq_none_iff.1 hq;simp;omega
 |some v=>have:=(List.getElem?_eq_some_iff.1 hq).1;simp;omega
theorem xG (hg:lf h) (m n:Int):af Tryz.prog 176 #[.int .i64 m,.int .i64 n] h (bg fun r h'=>(∃x:By×Int×Int,r= .tuple #[.agg (fe x).toArray,.bool (jV m n).isSome]/\∀p,jV m n=some p->(x.2.1,x.2.2)=p)/\an h h'):=by
 refine cw ?_;refine ah ?_;refine xo rfl (jf) ?_;rintro _ h1 ⟨rfl,k1,e1,z1⟩;have k1:aD h1 h.size 162 [.string ⟨#[]⟩,.int .i64 0,.int .i64 0]:=k1
 have hrow:∀mm:Nat,mm<3->∃oa kn kc,cellAt h1 ⟨0,0+mm*1,none⟩=some (.slice oa kn kc)/\Sl M5 h1 (fun _=>False) oa kn kc (qz mm):=fun mm hmm=>by
  obtain⟨v,hv,hsl⟩:=(hg.rules.aj e1) mm hmm;obtain⟨oa,kn,kc,rfl,h2⟩:=hsl.open;exact⟨oa,kn,kc,by rw[Nat.mul_one,Nat.zero_add];exact hv,h2⟩
 have hlenT:∀mm:Nat,mm<3->(qz mm).length=(wZ mm).length:=fun mm hmm=>by
  match mm,hmm with
  | 0,_=>rfl
  | 1,_=>rfl
  | 2,_=>rfl
 refine b6 ?_;refine fB ?_
 iterate 2 refine bY ?_
 refine j9 [(23,.bool (!(jV m n).isSome))] rfl ?_ ?_
 · refine ah ?_;refine hU 8 (fun c1=>?_) (fun c1=>?_)
   · have c1':=of_decide_eq_true c1;refine ah ?_;exact bn rfl ⟨au rfl (by rw[jV,tI (.inl c1')];simp),sb rfl⟩
   · have c1':=of_decide_eq_false c1;refine ah ?_;refine hU 12 (fun c2=>?_) (fun c2=>?_)
     · have c2':=of_decide_eq_true c2;refine ah ?_;exact bn rfl ⟨au rfl (by rw[jV,tI (.inr c2')];simp),sb rfl⟩
     · have c2':=of_decide_eq_false c2;refine ah ?_;refine hU 16 (fun c3=>?_) (fun c3=>?_)
       · have c3':=of_decide_eq_true c3;refine ah ?_;exact bn rfl ⟨au rfl (by rw[jV,if_pos c3'];rfl),sb rfl⟩
       · have c3':=of_decide_eq_false c3;obtain⟨mm,rfl⟩:=Int.eq_ofNat_of_zero_le (show 0<=m by omega);have hmm:mm<3:=by omega
         obtain⟨oa,kn,kc,hv,hsl⟩:=hrow mm hmm;have hkl:=hsl.len;rw[hlenT mm hmm] at hkl
         iterate 2 refine b6 ?_
         refine xp rfl (Dz rfl rfl mm rfl (by omega)) ?_;refine xp rfl (aL rfl hv) ?_;refine ah ?_;exact bn rfl ⟨au rfl (by rw[jV,if_neg c3'];exact G5 hkl c3'),sb rfl⟩
 · rcases hf:jV m n with _|p
   · refine nH rfl (by simp) ?_;refine ah ?_;refine xp rfl (az (H.Ng ) rfl) ?_;refine bP rfl (eu rfl rfl k1) ?_;rintro _ h2 ⟨rfl,k2,x2,z2⟩;refine ah ?_;have k2:aD h2 h.size 162 (fe ([],0,0)):=k2;refine j8 (jo rfl k2.row (Kp j7)) ?_;exact⟨_,rfl,⟨([],0,0),rfl,fun p hp=>by cases hp⟩,e1.only x2 (Nat.le_refl _)⟩
   · have hn0:0<=n:=by
      by_cases q:n<0
      · rw[jV,if_pos q] at hf;cases hf
      · omega
     have hm0:0<=m/\m<3:=by
      by_cases q:m<0\/3<=m
      · rw[jV,tI q] at hf;simp at hf
      · omega
     obtain⟨mm,rfl⟩:=Int.eq_ofNat_of_zero_le hm0.1;obtain⟨i,rfl⟩:=Int.eq_ofNat_of_zero_le hn0;have hmm:mm<3:=by omega
     obtain⟨oa,kn,kc,hv,hsl⟩:=hrow mm hmm;have hkl:=hsl.len;rw[jV,if_neg (by omega),Int.toNat_natCast,<-GV hmm] at hf;obtain⟨r,hr,hrp⟩:=Option.map_eq_some_iff.1 hf;obtain⟨b3,o3,cs3,ha3,_,hrow3,rfl⟩:=hsl.get i r hr;have hil:=(List.getElem?_eq_some_iff.1 hr).1;refine nA rfl (by simp) ?_
     iterate 2 refine bY ?_
     refine ew ?_;refine b6 ?_;refine xp rfl (Dz rfl rfl mm rfl (by omega)) ?_;refine xp rfl (aL rfl hv) ?_;refine b6 ?_;refine xp rfl (eM rfl rfl i rfl ha3) ?_;refine xp rfl (eN rfl hrow3) ?_;refine bP rfl (eu rfl rfl k1 (rR r)) ?_;rintro _ h2 ⟨rfl,k2,x2,z2⟩;refine ah ?_;have k2:aD h2 h.size 162 (fe r):=k2;refine j8 (jo rfl k2.row (Kp j7)) ?_;exact⟨_,rfl,⟨r,rfl,fun p hp=>by cases hp;exact hrp⟩,e1.only x2 (Nat.le_refl _)⟩
theorem Et (hg:lf h) (m n:Int):af Tryz.prog 125 #[.int .i64 m,.int .i64 n] h (bg fun r h'=>r= .int .i64 (sy m n)/\an h h'):=by
 refine cw ?_;refine ah ?_;refine xo rfl (bh rfl (xG hg m n)) ?_;rintro _ h1 ⟨⟨x,rfl,hx⟩,e1⟩;refine ah ?_;refine xo rfl (jf) ?_;rintro _ h2 ⟨rfl,k2,e2,z2⟩;refine bP rfl (eu rfl rfl k2 (rR x)) ?_;rintro _ h3 ⟨rfl,k3,x3,z3⟩;have k3:aD h3 h1.size 162 (fe x):=k3;have e3:an h1 h3:=e2.only x3 (Nat.le_refl _)
 rcases hf:jV m n with _|p
 · refine ah ?_;refine nH rfl (by simp) ?_;refine ah ?_;refine bE ?_;exact⟨_,rfl,by rw[sy,hf];rfl,e1.trans e3⟩
 · have hp:=hx p hf;refine ah ?_;refine nA rfl (by simp) ?_;refine ah ?_;refine xp rfl (aL rfl (k3.cell (i:=1) rfl)) ?_;refine ah ?_;refine bE ?_;exact⟨_,rfl,by rw[sy,hf,<-hp];rfl,e1.trans e3⟩
end
end Go.Proofs.YtpjgdgdnbkjoiaaGreatDoor

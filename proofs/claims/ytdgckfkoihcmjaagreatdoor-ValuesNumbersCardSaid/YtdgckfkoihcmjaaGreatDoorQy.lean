/- What the proof of the statement leans on (part 25). -/
import Derived.Below
import Derived.Lib.TrimUEq
import Derived.KernelRfl
import Derived.Lib.MakeNoZero
import Derived.Laws.CopyOwn
import Derived.Lib.ConvBytes
import Derived.Lib.AtoiErrMem
import Derived.Laws.Runes
import Derived.Test.YtdgckfkoihcmjaaGreatDoorQx

namespace Go.Proofs.YtdgckfkoihcmjaaGreatDoor
open Go.Proofs.Tryz
open Go Go.Lw
set_option maxRecDepth 20000 set_option maxHeartbeats 4000000
section
variable {h:aj}{p:Value}
def Kq (h:aj):Prop:=(∀c,c<256->cellAt h ⟨8,c,none⟩=some (.int .u8 (Lib.firstT c))) /\
 (∀i,i<16->cellAt h ⟨9,2*i,none⟩=some (.int .u8 (Lib.accLo i))/\cellAt h ⟨9,2*i+1,none⟩=some (.int .u8 (Lib.accHi i)))
structure BW (h:aj):Prop where
 sg:∃lim,lim<=h.size/\Sg h lim
 tens:qX h
 rules:lQ h
 utf:Kq h
 most:∃m,cellAt h ⟨7,0,none⟩=some (.int .i64 m)
theorem BW.ah {h h':aj}(k:BW h) (e:aq h h'):BW h':=by
 obtain⟨⟨lim,h1,h2⟩,h3,h4,h5,m,h6⟩:=k;have hz:=e.size;exact⟨⟨lim,by omega,h2.ext e (fun _ k=>k.elim)⟩,h3.ah e,h4.ah e,⟨fun c hc=>e.cell (fun k=>k) (h5.1 c hc),fun i hi=>⟨e.cell (fun k=>k) (h5.2 i hi).1,e.cell (fun k=>k) (h5.2 i hi).2⟩⟩,m,e.cell (fun k=>k) h6⟩
theorem zh (hg:BW h) (l:By) (hl:l≠[]):av Tryz.prog 105 #[.string (bs l)] h (bq fun r h'=>(∃x:Nat,r= .tuple #[.int .i32 (x:Nat),.int .i64 (pI l:Nat)])/\aq h h'):=by
 refine av.pL fun w hw=>?_
 subst hw;have hT:Lib.Utf8Tabs 8 9 w:=⟨fun c hc=>by rw[dw];exact hg.utf.1 c hc,fun i hi=>⟨by rw[dw];exact(hg.utf.2 i hi).1,by rw[dw];exact(hg.utf.2 i hi).2⟩⟩
 refine(Tryz.utf8_DecodeRuneInString (bs l) w hT).mono ?_;rintro e w' ⟨rfl,hb⟩
 have hn:(Lib.decodeGo (bs l)).2=pI l:=by
  have h0:¬(bs l).size=0:=by rw[aL];have:=List.length_pos_iff.2 hl;omega
  unfold Lib.decodeGo;rw[if_neg h0,Lib.decode_N,ig];rfl
 refine⟨_,rfl,⟨⟨(Lib.decodeGo (bs l)).1,by rw[hn]⟩,⟨hb.size,fun b hlt _=>hb.block b hlt⟩⟩,hb.os,hb.tape,hb.output⟩
theorem mS (hg:BW h) (s t:By) (hs:s.length<=1000000):av Tryz.prog 107 #[.string (bs s),.string (bs t)] h (bq fun r h'=>r= .bool (Lib.contains s t)/\h'=h):=by
 obtain⟨m,hm⟩:=hg.most;refine av.pL fun w hw=>?_
 subst hw;refine(Tryz.strings_Contains (bs s) (bs t) m w (by rw[aL];omega) (by rw[dw];exact hm)).mono ?_;rintro e w' ⟨rfl,rfl⟩;rw[ig,ig];exact⟨_,rfl,⟨rfl,rfl⟩,rfl,rfl,rfl⟩
theorem tf (hg:BW h) (s:By) (hs:s.length<=1000000):av Tryz.prog 70 #[.string (bs s)] h (bq fun r h'=>r= .bool (aS s)/\h'=h):=by
 have hbs:=aL s
 have e1:((⟨#[32]⟩:ByteArray)++bs s)++⟨#[32]⟩=bs (32::(s++[32])):=by
  rw[show (⟨#[32]⟩:ByteArray)=bs [32] from rfl,iX,iX];rfl
 have w1:(⟨#[32]⟩:ByteArray).size=1:=rfl;refine bP ?_;refine aR ?_;refine de ?_;refine aZ ?_;refine cV ?_;refine aR ?_;refine dW [(2,.bool (aS s))] rfl ?_ ?_
 · refine af ?_;refine b9 5 (fun hc=>?_) (fun hc=>?_)
   · have hc':decide (s≠[])=true:=decide_eq_true (fun e=>of_decide_eq_true hc (by rw[e];rfl));refine af ?_;refine xo rfl (aF rfl (mS hg s [32] hs)) ?_;rintro _ h0 ⟨rfl,hh0⟩;subst hh0;refine af ?_;refine b9 10 (fun hc2=>?_) (fun hc2=>?_)
     · iterate 2 refine aZ ?_
       refine xp rfl (ay.C4 rfl rfl (by rw[ByteArray.size_append];omega)) ?_;rw[e1];refine xo rfl (aF rfl (mS hg jX (32::(s++[32])) (by decide))) ?_;rintro _ h1 ⟨rfl,hh1⟩;subst hh1;refine af ?_;exact aA rfl ⟨ai rfl (by rw[aS,hc',hc2,Bool.true_and,Bool.true_and]),sb rfl⟩
     · refine af ?_;exact aA rfl ⟨ai rfl (by rw[aS,hc',hc2,Bool.true_and,Bool.false_and]),sb rfl⟩
   · refine af ?_;exact aA rfl ⟨ai rfl (by rw[aS,decide_eq_false (fun k=>of_decide_eq_false hc (fun e=>k (aI (m:=[]) e))),Bool.false_and]),sb rfl⟩
 · refine bh ?_;exact⟨_,rfl,rfl,rfl⟩
theorem ES {m:Nat}(hm:m<3){i:Nat}:(oy m)[i]?.map (fun r=>(r.2.1,r.2.2))=(uw m)[i]? :=by
 have h:(oy m).map (fun r=>(r.2.1,r.2.2))=uw m:=by
  match m,hm with
  | 0,_=>decide
  | 1,_=>decide
  | 2,_=>decide
 rw[<-h,List.getElem?_map]
theorem qK {m:Int}(h:m<0\/3<=m):uw m=[]:=by
 unfold uw;rw[if_neg (by omega),if_neg (by omega),if_neg (by omega)]
theorem E0 {α:Type}{l:List α}{kn:Nat}{n:Int}(hk:l.length=kn) (hn:¬n<0):decide ((kn:Int)<=n)= !(l[n.toNat]?).isSome:=by
 cases hq:l[n.toNat]? with
 |none=>have:=List.getElem?_eq_none_iff.1 hq;simp;omega
 |some v=>have:=(List.getElem?_eq_some_iff.1 hq).1;simp;omega
theorem uK (hg:BW h) (m n:Int):av Tryz.prog 106 #[.int .i64 m,.int .i64 n] h (bq fun r h'=>(∃x:By×Int×Int,r= .tuple #[.agg (eE x).toArray,.bool (jw m n).isSome]/\∀p,jw m n=some p->(x.2.1,x.2.2)=p)/\aq h h'):=by
 refine bP ?_;refine af ?_;refine xo rfl (cm) ?_;rintro _ h1 ⟨rfl,k1,e1,z1⟩;have k1:aC h1 h.size 146 [.string ⟨#[]⟩,.int .i64 0,.int .i64 0]:=k1
 have hrow:∀mm:Nat,mm<3->∃oa kn kc,cellAt h1 ⟨0,0+mm*1,none⟩=some (.slice oa kn kc)/\Sl K1 h1 (fun _=>False) oa kn kc (oy mm):=fun mm hmm=>by
  obtain⟨v,hv,hsl⟩:=(hg.rules.ah e1) mm hmm;obtain⟨oa,kn,kc,rfl,h2⟩:=hsl.open;exact⟨oa,kn,kc,by rw[Nat.mul_one,Nat.zero_add];exact hv,h2⟩
 have hlenT:∀mm:Nat,mm<3->(oy mm).length=(uw mm).length:=fun mm hmm=>by
  match mm,hmm with
  | 0,_=>rfl
  | 1,_=>rfl
  | 2,_=>rfl
 refine aZ ?_;refine cV ?_
 iterate 2 refine aR ?_
 refine dW [(23,.bool (!(jw m n).isSome))] rfl ?_ ?_
 · refine af ?_;refine b9 8 (fun c1=>?_) (fun c1=>?_)
   · have c1':=of_decide_eq_true c1;refine af ?_;exact aA rfl ⟨ai rfl (by rw[jw,qK (.inl c1')];simp),sb rfl⟩
   · have c1':=of_decide_eq_false c1;refine af ?_;refine b9 12 (fun c2=>?_) (fun c2=>?_)
     · have c2':=of_decide_eq_true c2;refine af ?_;exact aA rfl ⟨ai rfl (by rw[jw,qK (.inr c2')];simp),sb rfl⟩
     · have c2':=of_decide_eq_false c2;refine af ?_;refine b9 16 (fun c3=>?_) (fun c3=>?_)
       · have c3':=of_decide_eq_true c3;refine af ?_;exact aA rfl ⟨ai rfl (by rw[jw,if_pos c3'];rfl),sb rfl⟩
       · have c3':=of_decide_eq_false c3;obtain⟨mm,rfl⟩:=Int.eq_ofNat_of_zero_le (show 0<=m by omega);have hmm:mm<3:=by omega
         obtain⟨oa,kn,kc,hv,hsl⟩:=hrow mm hmm;have hkl:=hsl.len;rw[hlenT mm hmm] at hkl
         iterate 2 refine aZ ?_
         refine xp rfl (xM rfl rfl mm rfl (by omega)) ?_;refine xp rfl (az rfl hv) ?_;refine af ?_;exact aA rfl ⟨ai rfl (by rw[jw,if_neg c3'];exact E0 hkl c3'),sb rfl⟩
 · rcases hf:jw m n with _|p
   · refine eu rfl (by simp) ?_;refine af ?_;refine xp rfl (au (H.Lb ) rfl) ?_;refine aH rfl (aK rfl rfl k1) ?_;rintro _ h2 ⟨rfl,k2,x2,z2⟩;refine af ?_;have k2:aC h2 h.size 146 (eE ([],0,0)):=k2;refine bF (br rfl k2.row (dM bE)) ?_;exact⟨_,rfl,⟨([],0,0),rfl,fun p hp=>by cases hp⟩,e1.only x2 (Nat.le_refl _)⟩
   · have hn0:0<=n:=by
      by_cases q:n<0
      · rw[jw,if_pos q] at hf;cases hf
      · omega
     have hm0:0<=m/\m<3:=by
      by_cases q:m<0\/3<=m
      · rw[jw,qK q] at hf;simp at hf
      · omega
     obtain⟨mm,rfl⟩:=Int.eq_ofNat_of_zero_le hm0.1;obtain⟨i,rfl⟩:=Int.eq_ofNat_of_zero_le hn0;have hmm:mm<3:=by omega
     obtain⟨oa,kn,kc,hv,hsl⟩:=hrow mm hmm;have hkl:=hsl.len;rw[jw,if_neg (by omega),Int.toNat_natCast,<-ES hmm] at hf;obtain⟨r,hr,hrp⟩:=Option.map_eq_some_iff.1 hf;obtain⟨b3,o3,cs3,ha3,_,hrow3,rfl⟩:=hsl.get i r hr;have hil:=(List.getElem?_eq_some_iff.1 hr).1;refine eC rfl (by simp) ?_
     iterate 2 refine aR ?_
     refine de ?_;refine aZ ?_;refine xp rfl (xM rfl rfl mm rfl (by omega)) ?_;refine xp rfl (az rfl hv) ?_;refine aZ ?_;refine xp rfl (cK rfl rfl i rfl ha3) ?_;refine xp rfl (bV rfl hrow3) ?_;refine aH rfl (aK rfl rfl k1 (pF r)) ?_;rintro _ h2 ⟨rfl,k2,x2,z2⟩;refine af ?_;have k2:aC h2 h.size 146 (eE r):=k2;refine bF (br rfl k2.row (dM bE)) ?_;exact⟨_,rfl,⟨r,rfl,fun p hp=>by cases hp;exact hrp⟩,e1.only x2 (Nat.le_refl _)⟩
theorem CJ (hg:BW h) (m n:Int):av Tryz.prog 69 #[.int .i64 m,.int .i64 n] h (bq fun r h'=>r= .int .i64 (pX m n)/\aq h h'):=by
 refine bP ?_;refine af ?_;refine xo rfl (aF rfl (uK hg m n)) ?_;rintro _ h1 ⟨⟨x,rfl,hx⟩,e1⟩;refine af ?_;refine xo rfl (cm) ?_;rintro _ h2 ⟨rfl,k2,e2,z2⟩;refine aH rfl (aK rfl rfl k2 (pF x)) ?_;rintro _ h3 ⟨rfl,k3,x3,z3⟩;have k3:aC h3 h1.size 146 (eE x):=k3;have e3:aq h1 h3:=e2.only x3 (Nat.le_refl _)
 rcases hf:jw m n with _|p
 · refine af ?_;refine eu rfl (by simp) ?_;refine af ?_;refine bh ?_;exact⟨_,rfl,by rw[pX,hf];rfl,e1.trans e3⟩
 · have hp:=hx p hf;refine af ?_;refine eC rfl (by simp) ?_;refine af ?_;refine xp rfl (az rfl (k3.cell (i:=1) rfl)) ?_;refine af ?_;refine bh ?_;exact⟨_,rfl,by rw[pX,hf,<-hp];rfl,e1.trans e3⟩
def bT (s:vK):List Value:=[.int .i64 s.1,.int .i64 s.2]
theorem gX (s:vK):∀v∈bT s,v.oneCell'=true:=fun v hv=>by simp[bT] at hv;rcases hv with rfl|rfl<;>rfl
def Ip (i:Int):Prop:= -9223372036854775808<=i/\i<=9223372036854775807
theorem si (hg:BW h) (s:vK) (n:Int) (hs:Ip s.2):av Tryz.prog 71 #[.agg (bT s).toArray,.int .i64 n] h (bq fun r h'=>r= .agg (bT (jB s n)).toArray/\aq h h'):=by
 obtain⟨m,d⟩:=s;obtain⟨hd1,hd2⟩:=hs;simp only at hd1 hd2;refine bP ?_;refine af ?_;refine xo rfl (iF) ?_;rintro _ h1 ⟨rfl,k1,e1,z1⟩;refine xo rfl (cm) ?_;rintro _ h2 ⟨rfl,k2,e2,z2⟩;have k1:aC h1 h.size 54 [.int .i64 m,.int .i64 d]:=k1;have k2:aC h2 h1.size 54 [.int .i64 0,.int .i64 0]:=k2;have e02:=e1.trans e2;have q1:=k1.ah e2;refine af ?_;refine xp rfl (az rfl (q1.cell (i:=0) rfl)) ?_;refine af ?_;refine xo rfl (aF rfl (uK (hg.ah e02) m n)) ?_;rintro _ h3 ⟨⟨x,rfl,hx⟩,e3⟩;refine af ?_;refine xo rfl (cm) ?_;rintro _ h4 ⟨rfl,k4,e4,z4⟩;refine aH rfl (aK rfl rfl k4 (pF x)) ?_;rintro _ h5 ⟨rfl,k5,x5,z5⟩;have k5:aC h5 h3.size 146 (eE x):=k5;have e45:aq h3 h5:=e4.only x5 (Nat.le_refl _);have e25:=e3.trans e45;have e05:=e02.trans e25;have s1:=q1.ah e25;have s2:=k2.ah e25;have hz1:=e1.size;have hz2:=e2.size;have hz5:=e25.size;have hne:¬h.size=h1.size:=by omega
 have hout:∀{g:aj},Ext (fun b=>b=h1.size) h5 g->aq h g:=fun e=>aq.only e05 e hz1
 rcases hf:jw m n with _|p
 · have haf:jB (m,d) n=(m,d):=by unfold jB;rw[hf]
   refine af ?_;refine eu rfl (by simp) ?_;refine af ?_;refine eu rfl (by simp) ?_;refine af ?_;refine xp rfl (bV rfl s1.row) ?_;refine aH rfl (aK rfl rfl s2) ?_;rintro _ h6 ⟨rfl,k6,x6,z6⟩;refine af ?_;have k6:aC h6 h1.size 54 (bT (m,d)):=k6;refine bF (br rfl k6.row bE) ?_;exact⟨_,rfl,by rw[haf];rfl,hout x6⟩
 · have hp:=hx p hf;obtain⟨hp1,hp2⟩:=Prod.mk.inj hp;have haf:jB (m,d) n=if x.2.2=0 then (m,d) else if x.2.2=1 then (1,0) else if x.2.2=3 then (2,min (max d 0) 16383+1) else if x.2.2=4/\1<d then (m,d-1) else (0,0):=by unfold jB;rw[hf,<-hp]
   refine af ?_;refine eC rfl (by simp) ?_;refine af ?_;refine xp rfl (az rfl (k5.cell (i:=2) rfl)) ?_;refine af ?_;refine aP (fun h0=>?_) (fun h0=>?_)
   · rw[if_pos h0] at haf;refine af ?_;refine xp rfl (bV rfl s1.row) ?_;refine aH rfl (aK rfl rfl s2) ?_;rintro _ h6 ⟨rfl,k6,x6,z6⟩;refine af ?_;have k6:aC h6 h1.size 54 (bT (m,d)):=k6;refine bF (br rfl k6.row bE) ?_;exact⟨_,rfl,by rw[haf];rfl,hout x6⟩
   · rw[if_neg h0] at haf;refine af ?_;refine xp rfl (az rfl (k5.cell (i:=2) rfl)) ?_;refine af ?_;refine aP (fun h1'=>?_) (fun h1'=>?_)
     · rw[if_pos h1'] at haf;refine af ?_;refine xp rfl (au (H.K7 _) rfl) ?_;refine aH rfl (aK rfl rfl s2) ?_;rintro _ h6 ⟨rfl,k6,x6,z6⟩;refine af ?_;have k6:aC h6 h1.size 54 (bT (1,0)):=k6;refine bF (br rfl k6.row bE) ?_;exact⟨_,rfl,by rw[haf];rfl,hout x6⟩
     · rw[if_neg h1'] at haf;refine af ?_;refine xp rfl (az rfl (k5.cell (i:=2) rfl)) ?_;refine af ?_;refine aP (fun h3'=>?_) (fun h3'=>?_)
       · rw[if_pos h3'] at haf;refine af ?_;refine xp rfl (az rfl (s1.cell (i:=1) rfl)) ?_;refine af ?_;refine xp rfl (au (H.HM _ _) rfl) ?_;refine aH rfl (aK rfl rfl s2) ?_;rintro _ h6 ⟨rfl,k6,x6,z6⟩;refine af ?_;have hmm:(if (16383:Int)<if d<0 then 0 else d then 16383 else if d<0 then 0 else d)=min (max d 0) 16383:=by split<;>split<;>omega
         have k6:aC h6 h1.size 54 (bT (2,min (max d 0) 16383+1)):=by rw[<-hmm];exact k6
         refine bF (br rfl k6.row bE) ?_;exact⟨_,rfl,by rw[haf];rfl,hout x6⟩
       · rw[if_neg h3'] at haf;refine aR ?_;refine dW [(36,.bool (decide (x.2.2=4/\1<d)))] rfl ?_ ?_
         · refine af ?_;refine xp rfl (az rfl (k5.cell (i:=2) rfl)) ?_;refine af ?_;refine b9 40 (fun hc=>?_) (fun hc=>?_)
           · have hc':=of_decide_eq_true hc;refine af ?_;refine xp rfl (az rfl (s1.cell (i:=1) rfl)) ?_;refine af ?_;exact aA rfl ⟨ai rfl (by simp[hc']),sb rfl⟩
           · have hc':=of_decide_eq_false hc;refine af ?_;exact aA rfl ⟨ai rfl (by simp[hc']),sb rfl⟩
         · refine aP (fun h4'=>?_) (fun h4'=>?_)
           · rw[if_pos h4'] at haf;refine af ?_;refine xp rfl (az rfl (s1.cell (i:=1) rfl)) ?_;refine af ?_;refine aH rfl (bU H.jM rfl rfl rfl (s1.cell (i:=1) rfl) s1.nf) ?_;rintro _ h6 ⟨rfl,hg6⟩;have s6:=s1.set 1 (.int .i64 (d-1));have x6:Ext (fun b=>b=h.size) h5 h6:=by rw[hg6];exact Ext.dK _ _ _ rfl
             have s6:aC h6 h.size 54 (bT (m,d-1)):=by rw[hg6];exact s6
             refine af ?_;refine xp rfl (bV rfl s6.row) ?_;refine aH rfl (aK rfl rfl ((s2.ext x6 (fun k=>by omega))) (gX _)) ?_;rintro _ h7 ⟨rfl,k7,x7,z7⟩;refine af ?_;have k7:aC h7 h1.size 54 (bT (m,d-1)):=k7;refine bF (br rfl k7.row bE) ?_;have hz6:=x6.size;exact⟨_,rfl,by rw[haf];rfl,aq.only (aq.only e05 x6 (Nat.le_refl _)) x7 hz1⟩
           · rw[if_neg h4'] at haf;refine af ?_;refine xp rfl (au (H.MQ ) rfl) ?_;refine aH rfl (aK rfl rfl s2) ?_;rintro _ h6 ⟨rfl,k6,x6,z6⟩;refine af ?_;have k6:aC h6 h1.size 54 (bT (0,0)):=k6;refine bF (br rfl k6.row bE) ?_;exact⟨_,rfl,by rw[haf];rfl,hout x6⟩
theorem Br (hg:BW h) (s:By) (k:Nat) (hk:k<s.length) (hs:s.length<=1000000):av Tryz.prog 68 #[.string (bs s),.int .i64 (k:Nat)] h (bq fun r h'=>(∃(x:Nat) (ok:Bool),r= .tuple #[.int .i32 (x:Nat),.int .i64 (pI (s.drop k):Nat),.bool ok])/\aq h h'):=by
 have hbs:=aL s;have hne:s.drop k≠[]:=fun e=>by have:=congrArg List.length e;rw[List.length_drop] at this;simp at this;omega
 refine bP ?_;refine aR ?_;refine de ?_
 iterate 3 refine aZ ?_
 refine cV ?_
 iterate 2 refine aR ?_
 refine dW [(14,.bool false)] rfl ?_ ?_
 · refine af ?_;refine RW.ck (d:=9) (b':=false) rfl ((by simp)) ?_;refine af ?_;exact aA rfl ⟨ai rfl (by simp;omega),sb rfl⟩
 · refine eC rfl (by decide) ?_;refine af ?_;refine xp rfl (ay.ct underlying9 rfl rfl k rfl (by omega)) ?_;rw[eI];refine xo rfl (aF rfl (zh hg (s.drop k) hne)) ?_;rintro _ h1 ⟨⟨x,rfl⟩,e1⟩;generalize hn:pI (s.drop k)=n
   iterate 5 refine aZ ?_
   refine cV ?_;refine aR ?_;refine dW [(4,.int .i32 (x:Nat)),(5,.int .i64 (n:Nat)),(6,.bool (decide (¬(x:Int)=65533\/(1:Int)<n)))] rfl ?_ ?_
   · refine af ?_;refine b9 26 (fun hc=>?_) (fun hc=>?_)
     · have hc':=of_decide_eq_true hc;refine af ?_;exact aA rfl ⟨rfl,rfl,ai rfl (by rw[decide_eq_true (Or.inl hc')]),sb rfl⟩
     · have hc':=of_decide_eq_false hc;refine af ?_;exact aA rfl ⟨rfl,rfl,ai rfl (by simp only[decide_eq_decide];exact⟨fun q=>.inr q,fun q=>q.resolve_left hc'⟩),sb rfl⟩
   · refine bh ?_;exact⟨_,rfl,⟨x,_,rfl⟩,e1⟩
theorem AX (k:ow h p):av Tryz.prog 66 #[p] h (bq fun r h'=>r= .bool false/\h'=h):=by
 obtain⟨lb,vm,rfl,hk,⟨oa,n,c,rfl,hl,_⟩⟩:=k;have hl:n=3:=by rw[<-hl];rfl
 subst hl;refine bP ?_;refine aR ?_;refine de ?_;refine aZ ?_;refine cV ?_;refine aR ?_;refine dW [(2,.bool false)] rfl ?_ ?_
 · refine aZ ?_;refine xp rfl (ay.qO underlying50 rfl rfl) ?_;refine af ?_;refine RW.ck (d:=5) (b':=false) rfl (rfl) ?_;refine af ?_;refine xp rfl (az rfl (hk.cell (i:=0) rfl)) ?_;refine af ?_;exact aA rfl ⟨ai rfl (rfl),sb rfl⟩
 · refine bh ?_;exact⟨_,rfl,rfl,rfl⟩
def CE (m:Int) (l:By):Int:=if 0<=m/\m<3 then (aJ (lE (nQ m)) l 0 0 (0,-1)).2.2 else 0
theorem EL (m:Nat) (hm:m<3) (s:By) (k:Nat) (hk:k<=s.length):cN (lE (nQ m)) s k=((gO m (s.drop k)).1,(gO m (s.drop k)).2,CE m (s.drop k)):=by
 obtain⟨ss,st,h1,h2,h3,h4,h5⟩:=ug m hm;have hok:=nI h2;have hsp:=wV hok.1 hok.2;have htl:=Ce hok.1 hsp.1 hsp.2.2.2.2 hok.2 hsp.2.1 (fun w=>(hsp.2.2.2.1 w).symm) s k;have htm:=Ae h2 s k;have hst:=(fU h1).stl
 have hM:yG (gM m) s k=gO m (s.drop k):=by
  unfold yG CA;rw[h1];simp only;rw[if_neg (by omega),Int.toNat_natCast,h4]
 rw[hM] at htm
 have hA:(cN (lE (nQ m)) s k).2.2=CE m (s.drop k):=by
  rw[CE,if_pos (show (0:Int)<=m/\(m:Int)<3 by omega),cN,if_neg (by have:=hsp.2.1;omega),Int.toNat_natCast]
 rw[<-hA];refine Prod.ext ?_ (Prod.ext ?_ rfl)
 · rw[<-htl.1];exact(Prod.mk.inj htm).1
 · rw[<-htl.2.1];exact(Prod.mk.inj htm).2
theorem GR {m:Int}(h:m<0\/3<=m) (l:By):gO m l=(0,-1):=by
 unfold gO;rw[if_neg (by omega),if_neg (by omega),if_neg (by omega)]
theorem yH (k:ow h p) (s:By) (i:Nat) (hi:i<=s.length) (hs:s.length<=1000000) (m:Int) :
 av Tryz.prog 67 #[p,.string (bs s),.int .i64 (i:Nat),.int .i64 m] h (bq fun r h'=>r= .tuple #[.int .i64 (gO m (s.drop i)).1,.int .i64 (gO m (s.drop i)).2,.int .i64 (CE m (s.drop i))]/\h'=h):=by
 obtain⟨lb,vm,rfl,hk,hv⟩:=k;obtain⟨oa,n,c,rfl,hsl⟩:=hv.open;have hl:n=3:=by rw[<-hsl.len];rfl
 subst hl;refine bP ?_;refine aR ?_;refine de ?_
 iterate 3 refine aZ ?_
 refine cV ?_
 iterate 2 refine aR ?_
 refine dW [(21,.bool (decide (m<0\/3<=m)))] rfl ?_ ?_
 · refine af ?_;refine b9 13 (fun hc=>?_) (fun hc=>?_)
   · have hc':=of_decide_eq_true hc;refine af ?_;exact aA rfl ⟨ai rfl (by simp[hc']),sb rfl⟩
   · have hc':=of_decide_eq_false hc;refine af ?_;refine xp rfl (az rfl (hk.cell (i:=0) rfl)) ?_;refine af ?_;exact aA rfl ⟨ai rfl (by simp only[decide_eq_decide];omega),sb rfl⟩
 · refine aP (fun hout=>?_) (fun hout=>?_)
   · rw[GR hout];refine af ?_;refine bh ?_;exact⟨_,rfl,by rw[CE,if_neg (by omega)];rfl,rfl⟩
   · obtain⟨mm,rfl⟩:=Int.eq_ofNat_of_zero_le (show 0<=m by omega);have hmm:mm<3:=by omega
     have hx:(uh 3)[mm]? =some (lE (nQ mm)):=by
      match mm,hmm with
      | 0,_=>rfl
      | 1,_=>rfl
      | 2,_=>rfl
     obtain⟨b3,o3,cs3,ha3,_,hrow3,db,rfl,htab⟩:=hsl.get mm _ hx;obtain⟨ss,st,h1,h2,h3,h4,h5⟩:=ug mm hmm;have hok:=nI h2;have hsp:=wV hok.1 hok.2;refine af ?_;refine xp rfl (az rfl (hk.cell (i:=0) rfl)) ?_;refine aZ ?_;refine xp rfl (cK rfl rfl mm rfl ha3) ?_;refine xp rfl (az rfl (hrow3 0 _ rfl)) ?_;refine af ?_;refine xo rfl (aF rfl (y8 (s:=s) (a:=(i:Int)) (.inr ⟨db,rfl,htab.rd⟩) hsp.1 hs)) ?_;rintro _ h0 ⟨rfl,hh0⟩;subst hh0;rw[EL mm hmm s i hi];refine af ?_;refine bh ?_;exact⟨_,rfl,rfl,rfl⟩
def eY (t:Tk):List Value:=[.int .i64 t.1,.int .i64 t.2.1,.int .i64 t.2.2]
theorem ox (t:Tk):∀v∈eY t,v.oneCell'=true:=fun v hv=>by simp[eY] at hv;rcases hv with rfl|rfl|rfl<;>rfl
theorem Fs {s:vK}(h:Ip s.2) (n:Int):Ip (jB s n).2:=by
 unfold Ip at *;unfold jB;split
 · exact h
 · split
   · exact h
   · split
     · simp only;omega
     · split
       · simp only;omega
       · split
         · simp only;omega
         · simp only;omega
theorem IQ {s:vK}(h:Ip s.2) (l:By):Ip (pN l s).2:=by
 unfold pN;split
 · exact h
 · exact Fs h _
theorem jg {h':aj}{b:Nat}{t:TypeId}{cs:List Value}(k:aC h b t cs) (k':aC h' b t cs) (e:Ext (fun x=>x=b) h h'):aq h h':=⟨e.size,fun x hx _=>by
 by_cases q:x=b
 · subst q;exact k'.trans k.symm
 · exact e.block x hx q⟩
def KQ (s:By) (i:Nat) (st:vK):Value:=.tuple #[.agg (eY (A9 (s.drop i) st.1,(i:Int),((i+iP (s.drop i) st.1:Nat):Int))).toArray,.agg (bT (pN (s.drop i) st)).toArray,.int .i64 (CE st.1 (s.drop i))]
theorem EB (hg:BW h) (k:ow h p) (s:By) (i:Nat) (hi:i<s.length) (hs:s.length<=1000000) (st:vK) (hst:Ip st.2) :
 av Tryz.prog 29 #[p,.string (bs s),.int .i64 (i:Nat),.agg (bT st).toArray] h (bq fun r h'=>r=KQ s i st/\aq h h'):=by
 have hbs:=aL s;unfold KQ;have hne:s.drop i≠[]:=fun e=>by have:=congrArg List.length e;rw[List.length_drop] at this;simp at this;omega
 have hll:=AZ st.1 (s.drop i);have hrl:=As hne;rw[List.length_drop] at hll hrl;refine bP ?_;refine af ?_;refine xo rfl (iF) ?_;rintro _ h1 ⟨rfl,k7,e1,z1⟩;refine xo rfl (cm) ?_;rintro _ h2 ⟨rfl,k8,e2,z2⟩;refine xo rfl (cm) ?_;rintro _ h3 ⟨rfl,k9,e3,z3⟩;have k7:aC h1 h.size 54 (bT st):=k7;have k8:aC h2 h1.size 92 (eY (0,0,0)):=k8;have k9:aC h3 h2.size 54 (bT (0,0)):=k9;have e03:=(e1.trans e2).trans e3;have q7:=(k7.ah e2).ah e3;have q8:=k8.ah e3;have y1:=e1.size;have y2:=e2.size;have hout:∀{g g2 g3:aj},aq h3 g->Ext (fun b=>b=h1.size) g g2->Ext (fun b=>b=h2.size) g2 g3->aq h g3:=fun ea eb ec=>aq.only (aq.only (e03.trans ea) eb (by omega)) ec (by omega)
 refine aZ ?_;refine cV ?_
 iterate 2 refine aR ?_
 refine dW [(27,.bool false)] rfl ?_ ?_
 · refine af ?_;refine xo rfl (aF rfl (AX (k.ah e03))) ?_;rintro _ h4 ⟨rfl,hh4⟩;subst hh4;refine af ?_;refine RW.ck (d:=18) (b':=false) rfl (rfl) ?_;refine af ?_;refine RW.ck (d:=22) (b':=false) rfl ((by simp)) ?_;refine af ?_;exact aA rfl ⟨ai rfl (by simp;omega),sb rfl⟩
 · refine eC rfl (by decide) ?_;refine af ?_;refine xp rfl (az rfl (q7.cell (i:=0) rfl)) ?_;refine xo rfl (aF rfl (yH (k.ah e03) s i (by omega) hs st.1)) ?_;rintro _ h4 ⟨rfl,hh4⟩;subst hh4;refine af ?_;refine aP (fun hz=>?_) (fun hz=>?_)
   · have hlen:iP (s.drop i) st.1=pI (s.drop i):=by rw[iP,if_pos hz]
     have hknd:A9 (s.drop i) st.1=0:=by rw[A9,if_pos hz]
     have hnxt:pN (s.drop i) st=st:=by rw[pN,if_pos hz]
     rw[hlen,hknd,hnxt];refine af ?_;refine xo rfl (aF rfl (Br (hg.ah e03) s i hi hs)) ?_;rintro _ h5 ⟨⟨x,ok,rfl⟩,e5⟩;have r7:=q7.ah e5;have r8:=q8.ah e5;have r9:=k9.ah e5;have y5:=e5.size;have hM7:¬(h.size=h1.size\/h.size=h2.size\/Array.size h5<=h.size):=by have:=e03.size;omega
     refine af ?_;refine kH 10 (fun b=>b=Array.size h1\/b=Array.size h2\/Array.size h5<=b) (fun i=>Nat.blt i 9) ?_;refine aG 0 ?_;refine aG 1 ?_;refine aG 2 ?_;refine aG 3 ?_;refine bC 4 rfl (fun h' e=>au (H.vh _ _ _) rfl) ?_;refine bC 5 rfl (fun h' e=>bV rfl (e.rowAt hM7 r7.row)) ?_;refine aG 6 ?_;refine iA 7 rfl (aK rfl rfl r8) ?_;rintro _ h6 ⟨rfl,w8,x6,z6⟩;refine⟨fun _=>x6.mono (fun _ _ k=>.inl k),?_⟩;refine iA 8 rfl (aK rfl rfl ((r9.ext x6 (fun k=>by omega))) (gX st)) ?_;rintro _ h7 ⟨rfl,w9,x7,z7⟩;refine⟨fun _=>x7.mono (fun _ _ k=>.inr (.inl k)),?_⟩;have w8:aC h6 h1.size 92 (eY (0,(i:Int),((i+pI (s.drop i):Nat):Int))):=by rw[Int.natCast_add];exact w8
     have w8:=w8.ext x7 (show ¬h1.size=h2.size by omega);have w9:aC h7 h2.size 54 (bT st):=w9;refine aG 9 ?_;refine gV ?_;refine bF (br rfl w8.row (br rfl w9.row (dM bE))) ?_;exact⟨_,rfl,rfl,hout e5 x6 x7⟩
   · obtain⟨L,hL⟩:=Int.eq_ofNat_of_zero_le hll.1;have hL0:0<L:=by omega
     have hlen:iP (s.drop i) st.1=L:=by rw[iP,if_neg hz,hL];rfl
     have hknd:A9 (s.drop i) st.1=if pX st.1 (gO st.1 (s.drop i)).2=3/\aS ((s.drop i).take L)=true then 4 else pX st.1 (gO st.1 (s.drop i)).2:=by rw[A9,if_neg hz,hL];rfl
     have hnxt:pN (s.drop i) st=jB st (gO st.1 (s.drop i)).2:=by rw[pN,if_neg hz]
     rw[hlen,hknd,hnxt,hL];generalize (gO st.1 (s.drop i)).2=rl at *;rw[hL] at hll;refine af ?_;refine xp rfl (az rfl (q7.cell (i:=0) rfl)) ?_;refine af ?_;refine xo rfl (aF rfl (CJ (hg.ah e03) st.1 rl)) ?_;rintro _ h5 ⟨rfl,e5⟩;refine af ?_;refine xp rfl (au (H.vh _ _ _) rfl) ?_;refine aH rfl (aK rfl rfl ((q8.ah e5))) ?_;rintro _ h6 ⟨rfl,w8,x6,z6⟩;have w8:aC h6 h1.size 92 (eY (pX st.1 rl,(i:Int),((i+L:Nat):Int))):=by rw[Int.natCast_add];exact w8
     generalize pX st.1 rl=kd at *;have hcut:(bs s).extract i (i+L)=bs ((s.drop i).take L):=by rw[DL s i (i+L) (by omega),List.drop_take,Nat.add_sub_cancel_left]
     have y6:=x6.size;have e06:aq h h6:=aq.only (e03.trans e5) x6 (by omega);have r7:=(q7.ah e5).ext x6 (show ¬h.size=h1.size by omega);have r9:=(k9.ah e5).ext x6 (show ¬h2.size=h1.size by omega);refine cV ?_
     iterate 2 refine aR ?_
     refine dW [(76,.bool (decide (kd=3/\aS ((s.drop i).take L)=true)))] rfl ?_ ?_
     · refine af ?_;refine xp rfl (az rfl (w8.cell (i:=0) rfl)) ?_;refine af ?_;refine b9 68 (fun hc=>?_) (fun hc=>?_)
       · have hc':kd=3:=of_decide_eq_true hc;refine af ?_;refine xp rfl (az rfl (w8.cell (i:=1) rfl)) ?_;refine af ?_;refine xp rfl (az rfl (w8.cell (i:=2) rfl)) ?_;refine xp rfl (ay.Am underlying9 rfl rfl i rfl rfl (i+L) rfl (by omega) (by omega)) ?_;rw[hcut];refine xo rfl (aF rfl (tf (hg.ah e06) ((s.drop i).take L) (by rw[List.length_take,List.length_drop];omega))) ?_;rintro _ h7 ⟨rfl,hh7⟩;subst hh7;refine af ?_;exact aA rfl ⟨ai rfl (by simp[hc']),sb rfl⟩
       · have hc':¬kd=3:=of_decide_eq_false hc;refine af ?_;exact aA rfl ⟨ai rfl (by simp[hc']),sb rfl⟩
     · refine aP (fun hw=>?_) (fun hw=>?_)
       · refine af ?_;refine aH rfl (bU H.jM rfl rfl rfl (w8.cell (i:=0) rfl) w8.nf) ?_;rintro _ h7 ⟨rfl,hg7⟩;have w7:=w8.set 0 (.int .i64 4);have x7:Ext (fun b=>b=h1.size) h6 h7:=by rw[hg7];exact Ext.dK _ _ _ rfl
         have w7:aC h7 h1.size 92 (eY (4,(i:Int),((i+L:Nat):Int))):=by rw[hg7];exact w7
         have y7:=x7.size;have e07:aq h h7:=aq.only e06 x7 (by omega);have p7:=r7.ext x7 (show ¬h.size=h1.size by omega);have p9:=r9.ext x7 (show ¬h2.size=h1.size by omega);have hMa:¬(h1.size=h2.size\/Array.size h7<=h1.size):=by have:=e03.size;have:=e5.size;omega
         have hMb:¬(h.size=h2.size\/Array.size h7<=h.size):=by have:=e03.size;have:=e5.size;omega
         refine af ?_;refine kH 8 (fun b=>b=Array.size h2\/Array.size h7<=b) (fun i=>Nat.blt i 7) ?_;refine bC 0 rfl (fun h' e=>bV rfl (e.rowAt hMa w7.row)) ?_;refine bC 1 rfl (fun h' e=>bV rfl (e.rowAt hMb p7.row)) ?_;refine aG 2 ?_;refine aG 4 ?_;refine cU 3 rfl (aF rfl (si (hg.ah e07) st rl hst)) ?_;rintro _ h8 ⟨rfl,e8⟩;refine⟨fun _=>e8.mono (fun _ _ k=>k.elim),?_⟩;have w8':=w7.ah e8;refine iA 5 rfl (aK rfl rfl w8' (ox _)) ?_;rintro _ h9 ⟨rfl,w9',x9,z9⟩;refine⟨fun _=>(jg w8' w9' x9).mono (fun _ _ k=>k.elim),?_⟩;have w9':aC h9 h1.size 92 (eY (4,(i:Int),((i+L:Nat):Int))):=w9';have e9:=jg w8' w9' x9;have p9':=(p9.ah e8).ah e9;refine iA 6 rfl (aK rfl rfl p9' (gX _)) ?_;rintro _ h10 ⟨rfl,w10,x10,z10⟩;refine⟨fun _=>x10.mono (fun _ _ k=>.inl k),?_⟩;have w10:aC h10 h2.size 54 (bT (jB st rl)):=w10;have w11:=w9'.ext x10 (show ¬h1.size=h2.size by omega);refine aG 7 ?_;refine gV ?_;refine bF (br rfl w11.row (br rfl w10.row (dM bE))) ?_;have y10:=x10.size;exact⟨_,rfl,by rw[if_pos hw];rfl,aq.only ((e07.trans e8).trans e9) x10 (by omega)⟩
       · have hMa:¬(h1.size=h2.size\/Array.size h6<=h1.size):=by have:=e03.size;have:=e5.size;omega
         have hMb:¬(h.size=h2.size\/Array.size h6<=h.size):=by have:=e03.size;have:=e5.size;omega
         refine af ?_;refine kH 8 (fun b=>b=Array.size h2\/Array.size h6<=b) (fun i=>Nat.blt i 7) ?_;refine bC 0 rfl (fun h' e=>bV rfl (e.rowAt hMa w8.row)) ?_;refine bC 1 rfl (fun h' e=>bV rfl (e.rowAt hMb r7.row)) ?_;refine aG 2 ?_;refine aG 4 ?_;refine cU 3 rfl (aF rfl (si (hg.ah e06) st rl hst)) ?_;rintro _ h8 ⟨rfl,e8⟩;refine⟨fun _=>e8.mono (fun _ _ k=>k.elim),?_⟩;have w8':=w8.ah e8;refine iA 5 rfl (aK rfl rfl w8' (ox _)) ?_;rintro _ h9 ⟨rfl,w9',x9,z9⟩;refine⟨fun _=>(jg w8' w9' x9).mono (fun _ _ k=>k.elim),?_⟩;have w9':aC h9 h1.size 92 (eY (kd,(i:Int),((i+L:Nat):Int))):=w9';have e9:=jg w8' w9' x9;have p9':=(r9.ah e8).ah e9;refine iA 6 rfl (aK rfl rfl p9' (gX _)) ?_;rintro _ h10 ⟨rfl,w10,x10,z10⟩;refine⟨fun _=>x10.mono (fun _ _ k=>.inl k),?_⟩;have w10:aC h10 h2.size 54 (bT (jB st rl)):=w10;have w11:=w9'.ext x10 (show ¬h1.size=h2.size by omega);refine aG 7 ?_;refine gV ?_;refine bF (br rfl w11.row (br rfl w10.row (dM bE))) ?_;have y10:=x10.size;exact⟨_,rfl,by rw[if_neg hw];rfl,aq.only ((e06.trans e8).trans e9) x10 (by omega)⟩
end
end Go.Proofs.YtdgckfkoihcmjaaGreatDoor
namespace Go.Proofs.YtdgckfkoihcmjaaGreatDoor
open Go
theorem HX (n a:Nat) (st:vK):jI n [] a st=([],st):=by cases n<;>simp[jI]
theorem Fq {n:Nat}{l:By}(hl:l≠[]) (hn:l.length<=n) (a:Nat) (st:vK) :
 jI n l a st=((A9 l st.1,(a:Int),((a+iP l st.1:Nat):Int))::(jI n (l.drop (iP l st.1)) (a+iP l st.1) (pN l st)).1,(jI n (l.drop (iP l st.1)) (a+iP l st.1) (pN l st)).2):=by
 have hp:=List.length_pos_iff.2 hl;have hk:=pV hl st.1;obtain⟨m,rfl⟩:∃m,n=m+1:=⟨n-1,by omega⟩
 rw[qW (m+1) (m+1) (l.drop (iP l st.1)) _ _ (by rw[List.length_drop];omega) (by rw[List.length_drop];omega),<-qW m (m+1) (l.drop (iP l st.1)) (a+iP l st.1) (pN l st) (by rw[List.length_drop];omega) (by rw[List.length_drop];omega)];rw[jI,if_neg hl]
theorem BI:∀(n:Nat) (l:By) (a:Nat) (st:vK),(jI n l a st).1.length<=l.length
 | 0,l,a,st=>by simp[jI]
 |n+1,l,a,st=>by
  rw[jI];split
  · simp
  · rename_i h;have h1:=pV h st.1;have h2:=BI n (l.drop (iP l st.1)) (a+iP l st.1) (pN l st);rw[List.length_drop] at h2;simp only[List.length_cons];omega
end Go.Proofs.YtdgckfkoihcmjaaGreatDoor
namespace Go.Proofs.YtdgckfkoihcmjaaGreatDoor
open Go.Proofs.Tryz
open Go Go.Lw
set_option maxRecDepth 20000 set_option maxHeartbeats 4000000
section
variable {h:aj}{p:Value}
theorem IN {b:Bool}(hn:∀g,aq h g->av Tryz.prog 66 #[p] g (bq fun r h'=>r= .bool b/\h'=g)) (s:By) (i:Int) (hs:s.length<=1000000) (st:vK) (hb:b=true\/i<0\/(s.length:Int)<=i) :
 av Tryz.prog 29 #[p,.string (bs s),.int .i64 i,.agg (bT st).toArray] h (bq fun r h'=>r= .tuple #[.agg (eY (0,0,0)).toArray,.agg (bT st).toArray,.int .i64 0]/\aq h h'):=by
 have hbs:=aL s;refine bP ?_;refine af ?_;refine xo rfl (iF) ?_;rintro _ h1 ⟨rfl,k7,e1,z1⟩;refine xo rfl (cm) ?_;rintro _ h2 ⟨rfl,k8,e2,z2⟩;refine xo rfl (cm) ?_;rintro _ h3 ⟨rfl,k9,e3,z3⟩;have k7:aC h1 h.size 54 (bT st):=k7;have k8:aC h2 h1.size 92 (eY (0,0,0)):=k8;have k9:aC h3 h2.size 54 (bT (0,0)):=k9;have e03:=(e1.trans e2).trans e3;have q7:=(k7.ah e2).ah e3;have q8:=k8.ah e3;have y1:=e1.size;have y2:=e2.size;refine aZ ?_;refine cV ?_
 iterate 2 refine aR ?_
 refine dW [(27,.bool true)] rfl ?_ ?_
 · refine af ?_;refine xo rfl (aF rfl (hn _ e03)) ?_;rintro _ h4 ⟨rfl,hh4⟩;subst hh4;refine af ?_;refine b9 18 (fun c1=>?_) (fun c1=>?_)
   · refine af ?_;exact aA rfl ⟨ai rfl (rfl),sb rfl⟩
   · refine af ?_;refine b9 22 (fun c2=>?_) (fun c2=>?_)
     · refine af ?_;exact aA rfl ⟨ai rfl (rfl),sb rfl⟩
     · have c2':=of_decide_eq_false c2;refine af ?_;exact aA rfl ⟨ai rfl (by rw[decide_eq_true_iff];rcases hb with k|k|k;rw[c1] at k;cases k;exact absurd k c2';omega),sb rfl⟩
 · refine eu rfl (by decide) ?_;have hM:¬(h.size=h1.size\/Array.size h3<=h.size):=by have:=e03.size;omega
   refine af ?_;refine kH 5 (fun b=>b=Array.size h1\/Array.size h3<=b) (fun i=>Nat.blt i 3) ?_;refine bC 0 rfl (fun h' e=>au (H.MM ) rfl) ?_;refine bC 1 rfl (fun h' e=>bV rfl (e.rowAt hM q7.row)) ?_;refine iA 2 rfl (aK rfl rfl q8) ?_;rintro _ h4 ⟨rfl,w8,x4,zz4⟩;refine⟨fun _=>x4.mono (fun _ _ k=>.inl k),?_⟩;have w8:aC h4 h1.size 92 (eY (0,0,0)):=w8;refine iA 3 rfl (aK rfl rfl ((k9.ext x4 (show ¬h2.size=h1.size by omega))) (gX st)) ?_;rintro _ h5 ⟨rfl,w9,x5,z5⟩;refine⟨nofun,?_⟩;refine aG 4 ?_;refine gV ?_;have w9:aC h5 h2.size 54 (bT st):=w9;have w8:=w8.ext x5 (show ¬h1.size=h2.size by omega);refine bF (br rfl w8.row (br rfl w9.row (dM bE))) ?_;exact⟨_,rfl,rfl,aq.only (aq.only e03 x4 (by omega)) x5 (by omega)⟩
def Jo:gD Tk:=.record 3 (by decide) eY (fun _=>rfl) ox
theorem A8 (O:Nat->Prop) (hO:∀y,O y->y<h.size) (hg:BW h) (k:ow h p) (s:By) (hs:s.length<=1000000) :
 av Tryz.prog 13 #[p,.string (bs s)] h (bq fun r h'=>(∃v,r= .tuple #[v,.agg (bT (gS s).2).toArray]/\aY Jo h' O v (gS s).1)/\aq h h'):=by
 have hbs:=aL s;generalize hres:gS s=res;refine bP ?_;refine af ?_;refine xo rfl (cm) ?_;rintro _ h1 ⟨rfl,k5,e1,z1⟩;have k5:aC h1 h.size 54 (bT (0,0)):=k5;have y1:=e1.size;refine af ?_;refine gJ (σ:=Nat×vK×Value×List Tk) (fun q=>[(4,q.2.2.1),(6,.int .i64 (q.1:Nat))]) (fun q h'=>(q.1<=s.length/\q.2.2.2.length<=q.1/\Ip q.2.1.2)/\aq h h'/\h1.size<=h'.size/\aC h' h.size 54 (bT q.2.1)/\lf 3 eY h' h1.size 92 q.2.2.1 q.2.2.2/\(q.2.2.2++(jI s.length (s.drop q.1) q.1 q.2.1).1,(jI s.length (s.drop q.1) q.1 q.2.1).2)=res) (fun q=>s.length+1-q.1) ((0,(0,0),.slice none 0 0,[])) ⟨⟨Nat.zero_le _,by simp,by show Ip 0;unfold Ip;omega⟩,e1,Nat.le_refl _,k5,lf.nil _ _ _ _ _,hres⟩ rfl ?_;rintro⟨i,st,vt,toks⟩ g ⟨⟨hi,htl,hst⟩,eg,hz,kS,ho,hcon⟩ ih
 try dsimp only
 dsimp only at hi htl hst kS ho hcon;have hho:aB g h1.size 92 3 vt toks.length (toks.flatMap eY):=ho;obtain⟨ta,tc,rfl,_⟩:=hho.open;have tge:∀b,(Value.slice ta toks.length tc).ownBlock=some b->h1.size<=b/\b<g.size:=fun b hb=>hho.lt hb
 rcases Nat.lt_or_ge i s.length with hlt|hge
 · have hne:s.drop i≠[]:=fun e=>by have:=congrArg List.length e;rw[List.length_drop] at this;simp at this;omega
   have hkl:=pV hne st.1;rw[List.length_drop] at hkl;rw[Fq hne (by rw[List.length_drop];omega)] at hcon;have hone:=EB (hg.ah eg) (k.ah eg) s i hlt hs st hst;unfold KQ at hone;have hnI:=IQ hst (s.drop i);rw[List.drop_drop] at hcon;generalize iP (s.drop i) st.1=L at *;generalize A9 (s.drop i) st.1=kd at *;generalize pN (s.drop i) st=nx at *;generalize CE st.1 (s.drop i)=sp at *;refine af ?_;refine xp rfl (bV rfl kS.row) ?_;refine xo rfl (aF rfl hone) ?_;rintro _ g1 ⟨rfl,f1⟩;refine af ?_;refine xo rfl (cm) ?_;rintro _ g2 ⟨rfl,c7,f2,y2⟩;refine xo rfl (cm) ?_;rintro _ g3 ⟨rfl,c8,f3,y3⟩;refine aH rfl (aK rfl rfl ((c7.ah f3)) (ox _)) ?_;rintro _ g4 ⟨rfl,d7,x4,y4⟩;have d7:aC g4 g1.size 92 (eY (kd,(i:Int),((i+L:Nat):Int))):=d7;have yz1:=f1.size;have yz2:=f2.size;have yz4:=x4.size;refine aH rfl (aK rfl rfl (((c8.ext x4 (show ¬g2.size=g1.size by omega)))) (gX nx)) ?_;rintro _ g5 ⟨rfl,d8,x5,y5⟩;have d8:aC g5 g2.size 54 (bT nx):=d8;have d7:=d7.ext x5 (show ¬g1.size=g2.size by omega);have yz5:=x5.size;have eg5:aq g g5:=aq.only (aq.only ((f1.trans f2).trans f3) x4 (by omega)) x5 (by omega);have hho5:=hho.DC eg5;refine af ?_;refine xp rfl (az rfl (d7.cell (i:=2) rfl)) ?_;refine af ?_;refine eC rfl (by simp;omega) ?_;refine af ?_;refine xp rfl (bV rfl d7.row) ?_;refine xo rfl (sH) ?_;rintro _ _ ⟨rfl,rfl⟩;refine xo rfl (aT.gm underlying52 H.Mu rfl rfl (hho5) rfl rfl (ox _) (by omega) (by decide) (by omega)) ?_;rintro vt2 g6 ⟨ho6,hx6,hx6',hv6⟩;have yz6:=hx6.size;have d7:=d7.ext hx6 (fun k=>by have:=tge _ k.symm;omega);have d8:=d8.ext hx6 (fun k=>by have:=tge _ k.symm;omega);have kS6:=(kS.ah eg5).ext hx6 (fun k=>by have:=tge _ k.symm;omega);have e06:aq h g6:=Ext.own (eg.trans eg5) hho5 (by omega) hx6;have ho6:lf 3 eY g6 h1.size 92 vt2 (toks++[(kd,(i:Int),((i+L:Nat):Int))]):=lf.of ho6 rfl rfl;have hMa:¬(g1.size=h.size\/Array.size g6<=g1.size):=by omega
   have hMb:¬(g2.size=h.size\/Array.size g6<=g2.size):=by omega
   refine af ?_;refine kH 5 (fun b=>b=Array.size h\/Array.size g6<=b) (fun i=>Nat.blt i 6) ?_;refine aG 0 ?_;refine bC 1 rfl (fun h' e=>az rfl (e.cell hMa (d7.cell (i:=2) rfl))) ?_;refine bC 2 rfl (fun h' e=>bV rfl (e.rowAt hMb d8.row)) ?_;refine aG 3 ?_;refine iA 4 rfl (aK rfl rfl kS6 (gX nx)) ?_;rintro _ g7 ⟨rfl,kS7,x7,y7⟩;refine⟨fun _=>x7.mono (fun _ _ k=>.inl k),?_⟩;have kS7:aC g7 h.size 54 (bT nx):=kS7;have ho7:lf 3 eY g7 h1.size 92 vt2 (toks++[(kd,(i:Int),((i+L:Nat):Int))]):=aB.ext x7 ho6 (fun b hb (k:b=h.size)=>by have:=(aB.lt ho6 hb).1;omega);refine gV ?_;refine af ?_;exact ih (i+L,nx,vt2,toks++[(kd,(i:Int),((i+L:Nat):Int))]) ⟨⟨by show i+L<=s.length;omega,by simp;omega,hnI⟩,aq.only e06 x7 (by omega),by have:=x7.size;show h1.size<=g7.size;omega,kS7,ho7,by simpa using hcon⟩
 · obtain rfl:i=s.length:=by omega
   have hone:=IN (h:=g) (p:=p) (b:=false) (fun g' eg'=>AX (k.ah (eg.trans eg'))) s (s.length:Nat) hs st (.inr (.inr (by omega)));rw[List.drop_length,HX] at hcon;refine af ?_;refine xp rfl (bV rfl kS.row) ?_;refine xo rfl (aF rfl hone) ?_;rintro _ g1 ⟨rfl,f1⟩;refine af ?_;refine xo rfl (cm) ?_;rintro _ g2 ⟨rfl,c7,f2,y2⟩;refine xo rfl (cm) ?_;rintro _ g3 ⟨rfl,c8,f3,y3⟩;refine aH rfl (aK rfl rfl ((c7.ah f3)) (ox _)) ?_;rintro _ g4 ⟨rfl,d7,x4,y4⟩;have d7:aC g4 g1.size 92 (eY (0,0,0)):=d7;have yz1:=f1.size;have yz2:=f2.size;have yz4:=x4.size;refine aH rfl (aK rfl rfl (((c8.ext x4 (show ¬g2.size=g1.size by omega)))) (gX st)) ?_;rintro _ g5 ⟨rfl,d8,x5,y5⟩;have d7:=d7.ext x5 (show ¬g1.size=g2.size by omega);have yz5:=x5.size;have eg5:aq g g5:=aq.only (aq.only ((f1.trans f2).trans f3) x4 (by omega)) x5 (by omega);have hho5:=ho.ah eg5;have kS5:=kS.ah eg5;refine af ?_;refine xp rfl (az rfl (d7.cell (i:=2) rfl)) ?_;refine af ?_;refine eu rfl (by simp) ?_;have hMa:¬(h.size=h.size/\Array.size g5<=h.size):=by omega
   refine af ?_;refine kH 4 (fun b=>Array.size g5<=b) (fun i=>Nat.blt i 5) ?_;refine aG 0 ?_;refine bC 1 rfl (fun h' e=>bV rfl (e.rowAt (by omega) kS5.row)) ?_;refine aG 2 ?_;refine iA 3 rfl (aK rfl rfl kS5 (gX st)) ?_;rintro _ g7 ⟨rfl,kS7,x7,y7⟩;refine⟨fun _=>(jg kS5 kS7 x7).mono (fun _ _ k=>k.elim),?_⟩;have kS7:aC g7 h.size 54 (bT st):=kS7;have e7:=jg kS5 kS7 x7;refine gV ?_;refine bF (dM (br rfl kS7.row bE)) ?_;rw[<-hcon];exact⟨_,rfl,⟨_,rfl,by show aY Jo g7 _ _ (toks++[]);rw[List.append_nil];exact lf.read (hho5.ah e7) (fun b hb k=>by have:=hO b k;omega)⟩,(eg.trans eg5).trans e7⟩
theorem CI (hg:BW h) (k:ow h p) (s:By) (hs:s.length<=1000000) :
 av Tryz.prog 13 #[p,.string (bs s)] h (bq fun r h'=>(∃v,r= .tuple #[v,.agg (bT (gS s).2).toArray]/\aY Jo h' (fun _=>False) v (gS s).1)/\aq h h'):=A8 _ (fun _ k=>k.elim) hg k s hs
end
end Go.Proofs.YtdgckfkoihcmjaaGreatDoor
namespace Go.Proofs.YtdgckfkoihcmjaaGreatDoor
open Go Go.Lw
set_option maxRecDepth 100000
abbrev Ns:By:=[49,32,43,32,50,32,42,32,51]
abbrev Nr:By:=[34,97,34,32,43,32,34,98,34,32,61,61,32,34,97,98,34]
abbrev Nq:By:=[49,32,47,32,48]
abbrev Np:By:=[116,114,117,101,32,111,114,32,120]
abbrev No:By:=[123,32,108,101,116,32,102,32,61,32,102,117,110,32,110,32,45,62,32,105,102,32,110,32,60,32,50,32,123,32,49,32,125,32,101,108,115,101,32,123,32,110,32,42,32,102,40,110,32,45,32,49,41,32,125,59,32,102,40,53,41,32,125]
abbrev NQ:By:=[97,32,43,32,98,32,45,32,98,32,61,61,32,97]
abbrev NP:By:=[97,32,45,32,98,32,43,32,98,32,61,61,32,97]
abbrev NO:By:=[97,32,47,32,98,32,42,32,98,32,43,32,97,32,37,32,98,32,61,61,32,97]
abbrev na:Tr:=.mk 3 [97] []
abbrev nb:Tr:=.mk 3 [98] []
abbrev bi (op:By) (x y:Tr):Tr:=.mk 5 op [x,y]
abbrev nu (c:UInt8):Tr:=.mk 0 [c] []
abbrev NT:Tr:=bi [43] (nu 49) (bi [42] (nu 50) (nu 51))
abbrev NS:Tr:=bi [61,61] (bi [43] (.mk 1 [97] []) (.mk 1 [98] [])) (.mk 1 [97,98] [])
abbrev Nt:Tr:=bi [47] (nu 49) (nu 48)
abbrev NR:Tr:=bi [111,114] (.mk 2 [116,114,117,101] []) (.mk 3 [120] [])
abbrev nn:Tr:=.mk 3 [110] []
abbrev nf:Tr:=.mk 3 [102] []
abbrev KA:Tr:=.mk 10 [] [.mk 7 [102] [.mk 8 [110] [.mk 6 [] [bi [60] nn (nu 50),.mk 10 [] [nu 49],.mk 10 [] [bi [42] nn (.mk 9 [] [nf,bi [45] nn (nu 49)])]]]],.mk 9 [] [nf,nu 53]]
abbrev Py:Tr:=bi [61,61] (bi [45] (bi [43] na nb) nb) na
abbrev Px:Tr:=bi [61,61] (bi [43] (bi [45] na nb) nb) na
abbrev Pw:Tr:=bi [61,61] (bi [43] (bi [42] (bi [47] na nb) nb) (bi [37] na nb)) na
theorem Pt:eM Ns (gS Ns).1 (gS Ns).2.1 [NT] 0 0:=.ok (u:=[(5,[49],0),(6,[43],2),(5,[50],4),(6,[42],6),(5,[51],8)]) (n:=60) (r:=[]) (by decide +kernel) (by kernel_rfl)
theorem Pr:eM Nr (gS Nr).1 (gS Nr).2.1 [NS] 0 0:=.ok (u:=[(9,[97],0),(6,[43],4),(9,[98],6),(6,[61,61],10),(9,[97,98],13)]) (n:=60) (r:=[]) (by decide +kernel) (by kernel_rfl)
theorem Pq:eM Nq (gS Nq).1 (gS Nq).2.1 [Nt] 0 0:=.ok (u:=[(5,[49],0),(6,[47],2),(5,[48],4)]) (n:=60) (r:=[]) (by decide +kernel) (by kernel_rfl)
theorem Pp:eM Np (gS Np).1 (gS Np).2.1 [NR] 0 0:=.ok (u:=[(4,[116,114,117,101],0),(4,[111,114],5),(3,[120],8)]) (n:=60) (r:=[]) (by decide +kernel) (by kernel_rfl)
theorem Po:eM No (gS No).1 (gS No).2.1 [KA] 0 0:=.ok (u:=[(7,[123],0),(4,[108,101,116],2),(3,[102],6),(6,[61],8),(4,[102,117,110],10),(3,[110],14),(6,[45,62],16),(4,[105,102],19),(3,[110],22),(6,[60],24),(5,[50],26),(7,[123],28),(5,[49],30),(8,[125],32),(4,[101,108,115,101],34),(7,[123],39),(3,[110],41),(6,[42],43),(3,[102],45),(7,[40],46),(3,[110],47),(6,[45],49),(5,[49],51),(8,[41],52),(8,[125],54),(6,[59],55),(3,[102],57),(7,[40],58),(5,[53],59),(8,[41],60),(8,[125],62)]) (n:=100) (r:=[]) (by decide +kernel) (by kernel_rfl)
theorem Nv:eM NQ (gS NQ).1 (gS NQ).2.1 [Py] 0 0:=.ok (u:=[(3,[97],0),(6,[43],2),(3,[98],4),(6,[45],6),(3,[98],8),(6,[61,61],10),(3,[97],13)]) (n:=60) (r:=[]) (by decide +kernel) (by kernel_rfl)
theorem Nu:eM NP (gS NP).1 (gS NP).2.1 [Px] 0 0:=.ok (u:=[(3,[97],0),(6,[45],2),(3,[98],4),(6,[43],6),(3,[98],8),(6,[61,61],10),(3,[97],13)]) (n:=60) (r:=[]) (by decide +kernel) (by kernel_rfl)
theorem N9:eM NO (gS NO).1 (gS NO).2.1 [Pw] 0 0:=.ok (u:=[(3,[97],0),(6,[47],2),(3,[98],4),(6,[42],6),(3,[98],8),(6,[43],10),(3,[97],12),(6,[37],14),(3,[98],16),(6,[61,61],18),(3,[97],21)]) (n:=60) (r:=[]) (by decide +kernel) (by kernel_rfl)
theorem Pk:bp 2000 2000 [] NT=(fT 7,0,1995):=by kernel_rfl
theorem Pj:bp 2000 2000 [] NS=(dF true,0,1995):=by kernel_rfl
theorem Ph:bp 2000 2000 [] Nt=(gp,2,1997):=by kernel_rfl
theorem Pg:bp 2000 2000 [] NR=(dF true,0,1998):=by kernel_rfl
theorem OM:(bp 2000 2000 [] KA).1=fT 120/\(bp 2000 2000 [] KA).2.1=0:=⟨by kernel_rfl,by kernel_rfl⟩
theorem jL (n:Int):(∃k:Int,wrap64 n=n+k*18446744073709551616)/\ -9223372036854775808<=wrap64 n/\wrap64 n<=9223372036854775807:=by
  have h64:(2:Int) ^ 64=18446744073709551616:=rfl;have h63:(2:Int) ^ (64-1)=9223372036854775808:=rfl;unfold wrap64;simp only[IntKind.wrap,IntKind.bits,IntKind.signed,h64,h63,Bool.true_and,decide_eq_true_eq];have h:=Int.emod_add_mul_ediv n 18446744073709551616;split
  · exact⟨⟨-(n / 18446744073709551616)-1,by omega⟩,by omega,by omega⟩
  · exact⟨⟨-(n / 18446744073709551616),by omega⟩,by omega,by omega⟩
theorem DY {n a:Int}(ha : -9223372036854775808<=a/\a<=9223372036854775807) (h:∃k:Int,n=a+k*18446744073709551616):wrap64 n=a:=by
  obtain⟨⟨j,hj⟩,h1,h2⟩:=jL n;obtain⟨k,hk⟩:=h;omega
def gx (a:Int):Prop:= -9223372036854775808<=a/\a<=9223372036854775807
end Go.Proofs.YtdgckfkoihcmjaaGreatDoor
namespace Go.Proofs.YtdgckfkoihcmjaaGreatDoor
open Go Go.Lw
section
variable {a b:Int}{op:By}
theorem iM {n:Int}(h:gx n):wrap64 n=n:=DY h ⟨0,by omega⟩
theorem JE (ha:gx a) (h:gx (a+b)):bJ [43] a b=(fT (a+b),0):=by
  unfold bJ;rw[if_pos rfl,iM h];dsimp only;rw[if_pos (by rw[decide_eq_decide];omega)]
theorem Lh (ha:gx a) (hb:gx b) (h:¬gx (a+b)):bJ [43] a b=(gp,2):=by
  obtain⟨⟨k,hk⟩,h1,h2⟩:=jL (a+b);unfold gx at ha hb h;unfold bJ;rw[if_pos rfl];dsimp only;rw[if_neg (by rw[decide_eq_decide];omega)]
theorem IF (ha:gx a) (h:gx (a-b)):bJ [45] a b=(fT (a-b),0):=by
  unfold bJ;rw[if_neg (by decide),if_pos rfl,iM h];dsimp only;rw[if_pos (by rw[decide_eq_decide];omega)]
theorem KC (ha:gx a) (hb:gx b) (h:¬gx (a-b)):bJ [45] a b=(gp,2):=by
  obtain⟨⟨k,hk⟩,h1,h2⟩:=jL (a-b);unfold gx at ha hb h;unfold bJ;rw[if_neg (by decide),if_pos rfl];dsimp only;rw[if_neg (by rw[decide_eq_decide];omega)]
theorem sP (hb:gx b) (h:gx (a*b)):bJ [42] a b=(fT (a*b),0):=by
  unfold bJ;rw[if_neg (by decide),if_neg (by decide),if_pos rfl,iM h];dsimp only;refine if_pos ?_
  by_cases h0:a=0
  · exact .inl h0
  · refine .inr ⟨by rw[Int.mul_tdiv_cancel_left b h0,iM hb],?_⟩
    by_cases h1:a= -1
    · refine .inr fun h2=>?_
      rw[h1,h2] at h;unfold gx at h;omega
    · exact .inl h1
theorem Ad (c a:Int):(c.tdiv a).natAbs=c.natAbs / a.natAbs:=Int.natAbs_tdiv c a
theorem Cy (ha:gx a) (hb:gx b) (h:¬gx (a*b)):bJ [42] a b=(gp,2):=by
  obtain⟨⟨k,hk⟩,h1,h2⟩:=jL (a*b);unfold bJ;rw[if_neg (by decide),if_neg (by decide),if_pos rfl];dsimp only;generalize wrap64 (a*b)=c at hk h1 h2;refine if_neg fun q=>?_
  rcases q with q|⟨q,q2⟩
  · rw[q,Int.zero_mul] at h;exact h (by unfold gx;omega)
  have h0:a≠0:=fun q=>by rw[q,Int.zero_mul] at h;exact h (by unfold gx;omega)
  have hm:a≠ -1:=fun q=>by
    rw[q] at h q2;have:=q2.resolve_left (fun k=>k rfl);unfold gx at hb h;omega
  have hq:gx (c.tdiv a):=by
    have e:=Ad c a
    by_cases h3:a=1
    · rw[h3,Int.tdiv_one];exact⟨h1,h2⟩
    · have h4:2<=a.natAbs:=by omega
      have h5:c.natAbs / a.natAbs<=c.natAbs / 2:=Nat.div_le_div_left h4 (by decide);unfold gx;omega
  rw[iM hq] at q;have e:=Int.mul_tdiv_add_tmod c a;rw[q] at e;have e2:(c.tmod a).natAbs=c.natAbs%a.natAbs:=Int.natAbs_tmod c a;have e3:c.natAbs%a.natAbs<a.natAbs:=Nat.mod_lt _ (by omega);unfold gx at ha h;generalize a*b=p at e hk h;generalize c.tmod a=r at e e2;omega
theorem AL (h:0<a):(9223372036854775807:Int).tdiv a<b↔9223372036854775807<a*b:=by
  rw[Int.tdiv_eq_ediv_of_nonneg (by decide),Int.ediv_lt_iff_lt_mul h,Int.mul_comm]
theorem wZ (h:0<a):b<(-9223372036854775808:Int).tdiv a↔a*b < -9223372036854775808:=by
  rw[show (-9223372036854775808:Int)= -(9223372036854775808) from rfl,Int.neg_tdiv,Int.tdiv_eq_ediv_of_nonneg (by decide)];have:=@Int.ediv_lt_iff_lt_mul 9223372036854775808 (-b) a h;rw[Int.neg_mul,Int.mul_comm b a] at this;constructor
  · intro q;have:=this.1 (by omega);omega
  · intro q;have:=this.2 (by omega);omega
theorem AM (h:a<0):b<(9223372036854775807:Int).tdiv a↔9223372036854775807<a*b:=by
  have e:a= -(-a):=by omega
  rw[e,Int.tdiv_neg,Int.tdiv_eq_ediv_of_nonneg (by decide)];have:=@Int.ediv_lt_iff_lt_mul 9223372036854775807 (-b) (-a) (by omega);rw[Int.neg_mul_neg,Int.mul_comm b a] at this;rw[Int.neg_neg];constructor
  · intro q;exact this.1 (by omega)
  · intro q;have:=this.2 q;omega
theorem xe (h:a<0):(-9223372036854775808:Int).tdiv a<b↔a*b < -9223372036854775808:=by
  have e:a= -(-a):=by omega
  rw[show (-9223372036854775808:Int)= -(9223372036854775808) from rfl,e,Int.tdiv_neg,Int.neg_tdiv,Int.neg_neg,Int.tdiv_eq_ediv_of_nonneg (by decide)];have:=@Int.ediv_lt_iff_lt_mul 9223372036854775808 b (-a) (by omega);rw[Int.mul_neg,Int.mul_comm b a] at this;rw[Int.neg_neg];constructor
  · intro q;have:=this.1 q;omega
  · intro q;exact this.2 (by omega)
theorem G7 {c:Int}(hc:gx c) (h:a≠0) (h1:¬(c= -9223372036854775808/\a= -1)):gx (c.tdiv a):=by
  have e:=Ad c a;unfold gx at *
  by_cases h3:a=1
  · rw[h3,Int.tdiv_one];exact hc
  by_cases h2:a= -1
  · rw[h2,show (-1:Int)= -(1) from rfl,Int.tdiv_neg,Int.tdiv_one];omega
  · have h4:2<=a.natAbs:=by omega
    have h5:c.natAbs / a.natAbs<=c.natAbs / 2:=Nat.div_le_div_left h4 (by decide);omega
theorem KK (h:b=0\/a= -9223372036854775808/\b= -1) (ho:op=[47]\/op=[37]):bJ op a b=(gp,2):=by
  unfold bJ;rw[if_neg (by rcases ho with rfl|rfl<;>decide),if_neg (by rcases ho with rfl|rfl<;>decide),if_neg (by rcases ho with rfl|rfl<;>decide),if_pos ho];exact if_pos h
theorem IK (h:¬(b=0\/a= -9223372036854775808/\b= -1)):bJ [47] a b=(fT (wrap64 (a.tdiv b)),0):=by
  unfold bJ;rw[if_neg (by decide),if_neg (by decide),if_neg (by decide),if_pos (.inl rfl)];exact(if_neg h).trans (by rw[if_neg (by decide)])
theorem IJ (h:¬(b=0\/a= -9223372036854775808/\b= -1)):bJ [37] a b=(fT (a.tmod b),0):=by
  unfold bJ;rw[if_neg (by decide),if_neg (by decide),if_neg (by decide),if_pos (.inr rfl)];exact(if_neg h).trans (by rw[if_pos rfl])
theorem zZ {x y:UInt8}(h:¬x<y) (h2:¬y<x):x=y:=by
  rcases Nat.lt_trichotomy x.toNat y.toNat with q|q|q
  · exact absurd (UInt8.lt_iff_toNat_lt.2 q) h
  · exact UInt8.toNat_inj.1 q
  · exact absurd (UInt8.lt_iff_toNat_lt.2 q) h2
theorem tq {x y:UInt8}(h:x<y):x≠y:=fun q=>Nat.lt_irrefl _ (UInt8.lt_iff_toNat_lt.1 (q▸h:y<y))
theorem A0:∀a b:By,Op.bytesLess a b=decide (Lib.compareBytes a b<0)
  | [],[]=>rfl
  | [],_::_=>rfl
  |_::_,[]=>rfl
  |x::a,y::b=>by
    rw[Op.bytesLess,Lib.compareBytes,A0 a b]
    by_cases h:x<y
    · simp[h]
    · by_cases h2:y<x
      · simp[h,h2,(tq h2).symm]
      · simp[h,h2,zZ h h2]
theorem Bs:∀a b:By,Lib.compareBytes a b=0↔a=b
  | [],[]=>by simp[Lib.compareBytes]
  | [],_::_=>by simp[Lib.compareBytes]
  |_::_,[]=>by simp[Lib.compareBytes]
  |x::a,y::b=>by
    rw[Lib.compareBytes];have ih:=Bs a b
    by_cases h:x<y
    · simp[h,tq h]
    · by_cases h2:y<x
      · simp[h,h2,(tq h2).symm]
      · simp[h,h2,zZ h h2,ih]
def lu (op:By) (a b:Vl):Vl×Int:=if op=l9\/op=jb then (if a.kind≠2 then (gp,2) else if decide (a.num≠0)=decide (op=l9) then (a,0) else if b.kind≠2 then (gp,2) else (b,0)) else gQ op a b
structure JW (op:By) (a b:Vl) (L S:Bool):Prop where
  eq:op=[61,61]->gQ op a b=(dF S,0)
  ne:op=[33,61]->gQ op a b=(dF (!S),0)
  lt:a.kind=1\/a.kind=3->op=[60]->gQ op a b=(dF L,0)
  le:a.kind=1\/a.kind=3->op=[60,61]->gQ op a b=(dF (L ||S),0)
  gt:a.kind=1\/a.kind=3->op=[62]->gQ op a b=(dF (!L && !S),0)
  ge:a.kind=1\/a.kind=3->op=[62,61]->gQ op a b=(dF (!L),0)
  no:a.kind≠1->op∈dB->¬(op=l9\/op=jb)->op≠[61,61]->op≠[33,61]->(a.kind=3->op≠[60]/\op≠[60,61]/\op≠[62]/\op≠[62,61])->gQ op a b=(gp,2)
  nu:a.kind=1->gQ op a b=bJ op a.num b.num
theorem Bu (op:By) (w:Int){L S:Bool}(hL:L=decide (w<0)) (hS:S=decide (w=0)):(op=[61,61]->fE op w=(dF S,0))/\(op=[33,61]->fE op w=(dF (!S),0))/\(op=[60]->fE op w=(dF L,0))/\(op=[60,61]->fE op w=(dF (L ||S),0))/\(op=[62]->fE op w=(dF (!L && !S),0))/\(op=[62,61]->fE op w=(dF (!L),0)):=by
  subst hL hS;refine⟨?_,?_,?_,?_,?_,?_⟩<;>intro h<;>subst h
  · rfl
  · exact congrArg (fun x=>(dF x,(0:Int))) (by rw[decide_not])
  · rfl
  · exact congrArg (fun x=>(dF x,(0:Int))) (by rw[<-Bool.decide_or,decide_eq_decide];omega)
  · exact congrArg (fun x=>(dF x,(0:Int))) (by rw[<-decide_not,<-decide_not,<-Bool.decide_and,decide_eq_decide];omega)
  · exact congrArg (fun x=>(dF x,(0:Int))) (by rw[<-decide_not,decide_eq_decide];omega)
theorem GB (h:op≠[43]/\op≠[45]/\op≠[42]/\op≠[47]/\op≠[37]) (a b:Int):bJ op a b=fE op (if a<b then -1 else if a=b then 0 else 1):=by
  unfold bJ;rw[if_neg h.1,if_neg h.2.1,if_neg h.2.2.1,if_neg (fun q=>q.elim h.2.2.2.1 h.2.2.2.2)]
theorem Jw {a b:Vl}(hk:a.kind=b.kind) (h4:a.kind≠4) (h3:a.kind≠3):JW op a b (decide (a.num<b.num)) (decide (a.num=b.num)):=by
  have h0:¬(a.kind≠b.kind\/a.kind=4):=fun q=>q.elim (fun q=>q hk) h4
  have h1:a.kind=1->gQ op a b=bJ op a.num b.num:=fun q=>by
    unfold gQ;rw[if_neg h0,if_pos q]
  have hw:=Bu op (if a.num<b.num then -1 else if a.num=b.num then 0 else 1) (L:=decide (a.num<b.num)) (S:=decide (a.num=b.num)) (by rw[decide_eq_decide];split<;>(try split)<;>omega) (by rw[decide_eq_decide];split<;>(try split)<;>omega)
  have hr:a.kind≠1->gQ op a b=if op=[61,61] then (dF (decide (a.num=b.num)),0) else if op=[33,61] then (dF (decide (¬a.num=b.num)),0) else (gp,2):=fun q=>by
    unfold gQ;rw[if_neg h0,if_neg q,if_neg (fun r=>h3 r.1),if_neg h3]
  have c1:a.kind=1->(op≠[43]/\op≠[45]/\op≠[42]/\op≠[47]/\op≠[37])->gQ op a b=fE op (if a.num<b.num then -1 else if a.num=b.num then 0 else 1):=fun q r=>by rw[h1 q,GB r]
  refine⟨fun h=>?_,fun h=>?_,fun q h=>?_,fun q h=>?_,fun q h=>?_,fun q h=>?_,fun q _ _ e1 e2 _=>by rw[hr q,if_neg e1,if_neg e2],h1⟩
  · by_cases q:a.kind=1
    · rw[c1 q (by subst h;decide)];exact hw.1 h
    · rw[hr q,if_pos h]
  · by_cases q:a.kind=1
    · rw[c1 q (by subst h;decide)];exact hw.2.1 h
    · rw[hr q,if_neg (by subst h;decide),if_pos h,decide_not]
  · rw[c1 (q.resolve_right h3) (by subst h;decide)];exact hw.2.2.1 h
  · rw[c1 (q.resolve_right h3) (by subst h;decide)];exact hw.2.2.2.1 h
  · rw[c1 (q.resolve_right h3) (by subst h;decide)];exact hw.2.2.2.2.1 h
  · rw[c1 (q.resolve_right h3) (by subst h;decide)];exact hw.2.2.2.2.2 h
theorem Jv {a b:Vl}(hk:a.kind=b.kind) (h3:a.kind=3) (hp:op≠[43]):JW op a b (Op.bytesLess a.fO b.fO) (decide (a.fO=b.fO)):=by
  have h0:¬(a.kind≠b.kind\/a.kind=4):=fun q=>q.elim (fun q=>q hk) (by rw[h3];decide)
  have hb:gQ op a b=fE op (Lib.compareBytes a.fO b.fO):=by
    unfold gQ;rw[if_neg h0,if_neg (by rw[h3];decide),if_neg (fun q=>hp q.2),if_pos h3]
  have hw:=Bu op (Lib.compareBytes a.fO b.fO) (A0 a.fO b.fO) (S:=decide (a.fO=b.fO)) (by rw[decide_eq_decide];exact(Bs _ _).symm);refine⟨fun h=>by rw[hb];exact hw.1 h,fun h=>by rw[hb];exact hw.2.1 h,fun _ h=>by rw[hb];exact hw.2.2.1 h,fun _ h=>by rw[hb];exact hw.2.2.2.1 h,fun _ h=>by rw[hb];exact hw.2.2.2.2.1 h,fun _ h=>by rw[hb];exact hw.2.2.2.2.2 h,fun _ _ _ e1 e2 e3=>?_,fun q=>absurd q (by rw[h3];decide)⟩;obtain⟨e3,e4,e5,e6⟩:=e3 h3;rw[hb];unfold fE;rw[if_neg e1,if_neg e2,if_neg e3,if_neg e4,if_neg e5,if_neg e6]
theorem HV (ho:op∈dB) (h:¬(op=l9\/op=jb)) (e1:op≠[61,61]) (e2:op≠[33,61]) (e3:op≠[60]) (e4:op≠[60,61]) (e5:op≠[62]) (e6:op≠[62,61]):op=[43]\/op=[45]\/op=[42]\/op=[47]\/op=[37]:=by
  unfold dB at ho;simp only[List.mem_cons,List.not_mem_nil,or_false] at ho
  rcases ho with q|q|q|q|q|q|q|q|q|q|q|q|q
  · exact absurd (.inl q) h
  · exact absurd (.inr q) h
  · exact absurd q e1
  · exact absurd q e2
  · exact absurd q e3
  · exact absurd q e4
  · exact absurd q e5
  · exact absurd q e6
  · exact .inl q
  · exact .inr (.inl q)
  · exact .inr (.inr (.inl q))
  · exact .inr (.inr (.inr (.inl q)))
  · exact .inr (.inr (.inr (.inr q)))
end
end Go.Proofs.YtdgckfkoihcmjaaGreatDoor
namespace Go.Proofs.YtdgckfkoihcmjaaGreatDoor
open Go.Proofs.Tryz
open Go Go.Lw
set_option maxRecDepth 20000 set_option maxHeartbeats 4000000
section
variable {h g:aj}{s:By}{O:Nat->Prop}{v w:Value}{n b3 i:Nat}{c:PC}{s1:PS}{l:List Tr}{u:Un}{α:Type}{ts:List Tok}{t:Tok}{a e:Int}{x:Vl}
theorem yy (op:By) (a b:Int) (ha:gx a) (hb:gx b) (ho:op=[43]\/op=[45]\/op=[42]\/op=[47]\/op=[37]) :
 av Tryz.prog 92 #[.string (bs op),.int .i64 a,.int .i64 b] h (bq fun r h'=>(∃c ok,r=packed [.int .i64 c,.bool ok]/\bJ op a b=(if ok=true then (fT c,0) else (gp,2)))/\h'=h):=by
 unfold gx at ha hb;refine bP ?_;refine af ?_;refine aP (fun c1=>?_) (fun c1=>?_)
 · have c1:op=[43]:=aI c1;subst c1
   iterate 2 refine aR ?_
   refine dW [(32,.bool (decide (9223372036854775807<a+b\/a+b < -9223372036854775808)))] rfl ?_ ?_
   · refine af ?_;refine b9 15 (fun p=>?_) (fun p=>?_)
     · have p:=of_decide_eq_true p;refine af ?_;refine b9 22 (fun q=>?_) (fun q=>?_)
       · have q:=of_decide_eq_true q;refine af ?_;exact aA rfl ⟨ai rfl (by rw[decide_eq_true (by omega)]),sb rfl⟩
       · have q:=of_decide_eq_false q;refine af ?_;refine RW.ck (d:=25) (b':=false) rfl (decide_eq_false (by omega)) ?_
         iterate 5 refine so ?_
         iterate 2 refine aZ ?_
         exact aA rfl ⟨ai rfl (by rw[decide_eq_false (by omega)]),sb rfl⟩
     · have p:=of_decide_eq_false p
       iterate 5 refine so ?_
       iterate 5 refine aZ ?_
       refine dD (d:=25) rfl (fun q=>?_) (fun q=>?_)
       · have q:=of_decide_eq_true q;refine af ?_;exact aA rfl ⟨ai rfl (by rw[decide_eq_decide];omega),sb rfl⟩
       · have q:=of_decide_eq_false q;refine af ?_;exact aA rfl ⟨ai rfl (by rw[decide_eq_false (by omega)]),sb rfl⟩
   · refine fF (fun hn=>?_) (fun hn=>?_)
     · have hn:=of_decide_eq_true hn;refine af ?_;refine bh ?_;exact⟨_,rfl,⟨_,_,rfl,Lh ha hb (by unfold gx;omega)⟩,rfl⟩
     · have hn:=of_decide_eq_false hn;refine af ?_;refine bh ?_;exact⟨_,rfl,⟨_,_,rfl,JE ha (by unfold gx;omega)⟩,rfl⟩
 · have c1:¬op=[43]:=fun q=>c1 (by rw[q];rfl)
   refine af ?_;refine aP (fun c2=>?_) (fun c2=>?_)
   · have c2:op=[45]:=aI c2;subst c2
     iterate 2 refine aR ?_
     refine dW [(57,.bool (decide (9223372036854775807<a-b\/a-b < -9223372036854775808)))] rfl ?_ ?_
     · refine af ?_;refine b9 40 (fun p=>?_) (fun p=>?_)
       · have p:=of_decide_eq_true p;refine af ?_;refine b9 47 (fun q=>?_) (fun q=>?_)
         · have q:=of_decide_eq_true q;refine af ?_;exact aA rfl ⟨ai rfl (by rw[decide_eq_true (by omega)]),sb rfl⟩
         · have q:=of_decide_eq_false q;refine af ?_;refine RW.ck (d:=50) (b':=false) rfl (decide_eq_false (by omega)) ?_
           iterate 5 refine so ?_
           iterate 2 refine aZ ?_
           exact aA rfl ⟨ai rfl (by rw[decide_eq_false (by omega)]),sb rfl⟩
       · have p:=of_decide_eq_false p
         iterate 5 refine so ?_
         iterate 5 refine aZ ?_
         refine dD (d:=50) rfl (fun q=>?_) (fun q=>?_)
         · have q:=of_decide_eq_true q;refine af ?_;exact aA rfl ⟨ai rfl (by rw[decide_eq_decide];omega),sb rfl⟩
         · have q:=of_decide_eq_false q;refine af ?_;exact aA rfl ⟨ai rfl (by rw[decide_eq_false (by omega)]),sb rfl⟩
     · refine fF (fun hn=>?_) (fun hn=>?_)
       · have hn:=of_decide_eq_true hn;refine af ?_;refine bh ?_;exact⟨_,rfl,⟨_,_,rfl,KC ha hb (by unfold gx;omega)⟩,rfl⟩
       · have hn:=of_decide_eq_false hn;refine af ?_;refine bh ?_;exact⟨_,rfl,⟨_,_,rfl,IF ha (by unfold gx;omega)⟩,rfl⟩
   · have c2:¬op=[45]:=fun q=>c2 (by rw[q];rfl)
     refine af ?_;refine aP (fun c3=>?_) (fun c3=>?_)
     · have c3:op=[42]:=aI c3;subst c3
       iterate 2 refine aR ?_
       refine dW [(68,.bool (decide (a=0\/b=0)))] rfl ?_ ?_
       · refine af ?_;refine b9 65 (fun p=>?_) (fun p=>?_)
         · have p:=of_decide_eq_true p;refine af ?_;exact aA rfl ⟨ai rfl (by rw[decide_eq_true (.inl p)]),sb rfl⟩
         · have p:=of_decide_eq_false p;refine af ?_;exact aA rfl ⟨ai rfl (by rw[decide_eq_decide];exact⟨.inr,fun q=>q.resolve_left p⟩),sb rfl⟩
       · refine fF (fun hz=>?_) (fun hz=>?_)
         · have hz:=of_decide_eq_true hz;have hab:a*b=0:=by rcases hz with rfl|rfl<;>simp
           have hi:gx (a*b):=by rw[hab];unfold gx;omega
           refine af ?_;refine bh ?_;exact⟨_,rfl,⟨_,_,rfl,by rw[sP hb hi,hab];rfl⟩,rfl⟩
         · have hz:=of_decide_eq_false hz;have ha0:a≠0:=fun q=>hz (.inl q)
           have hb0:b≠0:=fun q=>hz (.inr q)
           refine af ?_;refine aP (fun a1=>?_) (fun a1=>?_)
           · subst a1;have hab : -1*b=0-b:=by omega
             refine af ?_;refine xp rfl (zE rfl) ?_;refine af ?_;refine bh ?_;refine⟨_,rfl,⟨_,_,rfl,?_⟩,rfl⟩
             by_cases hq:b= -9223372036854775808
             · rw[if_neg (by simpa using hq)];exact Cy ha hb (by unfold gx;omega)
             · have hi:gx (-1*b):=by unfold gx;omega
               rw[sP hb hi,if_pos (by simpa using hq)];exact congrArg (fun x=>(fT x,(0:Int))) (by rw[hab];exact(iM (n:=0-b) (by unfold gx;omega)).symm)
           · refine af ?_;refine aP (fun b1=>?_) (fun b1=>?_)
             · subst b1;have hab:a* -1=0-a:=by omega
               refine af ?_;refine xp rfl (zE rfl) ?_;refine af ?_;refine bh ?_;refine⟨_,rfl,⟨_,_,rfl,?_⟩,rfl⟩
               by_cases hq:a= -9223372036854775808
               · rw[if_neg (by simpa using hq)];exact Cy ha hb (by unfold gx;omega)
               · have hi:gx (a* -1):=by unfold gx;omega
                 rw[sP hb hi,if_pos (by simpa using hq)];exact congrArg (fun x=>(fT x,(0:Int))) (by rw[hab];exact(iM (n:=0-a) (by unfold gx;omega)).symm)
             · have hw1:IntKind.i64.wrap ((9223372036854775807:Int).tdiv a)=(9223372036854775807:Int).tdiv a:=iM (G7 (by unfold gx;omega) ha0 (fun q=>a1 q.2));have hw2:IntKind.i64.wrap ((-9223372036854775808:Int).tdiv a)=(-9223372036854775808:Int).tdiv a:=iM (G7 (by unfold gx;omega) ha0 (fun q=>a1 q.2))
               iterate 3 refine aR ?_
               refine dW [(116,.bool (decide (9223372036854775807<a*b\/a*b < -9223372036854775808)))] rfl ?_ ?_
               · refine af ?_;refine b9 85 (fun p=>?_) (fun p=>?_)
                 · have p:=of_decide_eq_true p;have p:0<a:=p
                   iterate 3 refine aZ ?_
                   refine xp rfl (ij rfl rfl ha0) ?_;refine af ?_;refine b9 91 (fun q=>?_) (fun q=>?_)
                   · have q:=of_decide_eq_true q;rw[hw1] at q;refine af ?_;exact aA rfl ⟨ai rfl (by rw[decide_eq_true (.inl ((AL p).1 q))]),sb rfl⟩
                   · have q:=of_decide_eq_false q;rw[hw1] at q
                     iterate 3 refine aZ ?_
                     refine xp rfl (ij rfl rfl ha0) ?_;refine af ?_;refine b9 99 (fun r=>?_) (fun r=>?_)
                     · have r:=of_decide_eq_true r;rw[hw2] at r;refine af ?_;exact aA rfl ⟨ai rfl (by rw[decide_eq_true (.inr ((wZ p).1 r))]),sb rfl⟩
                     · have r:=of_decide_eq_false r;rw[hw2] at r;refine af ?_;refine RW.ck (d:=102) (b':=false) rfl (decide_eq_false (by omega)) ?_
                       iterate 12 refine so ?_
                       iterate 2 refine aZ ?_
                       exact aA rfl ⟨ai rfl (by rw[decide_eq_false (fun k=>k.elim (fun k=>q ((AL p).2 k)) (fun k=>r ((wZ p).2 k)))]),sb rfl⟩
                 · have p:=of_decide_eq_false p;have p:a<0:=by omega
                   iterate 12 refine so ?_
                   iterate 5 refine aZ ?_
                   refine RW.ck (d:=102) (b':=true) rfl (decide_eq_true (by omega)) ?_
                   iterate 3 refine aZ ?_
                   refine xp rfl (ij rfl rfl ha0) ?_;refine af ?_;refine b9 108 (fun q=>?_) (fun q=>?_)
                   · have q:=of_decide_eq_true q;rw[hw1] at q;refine af ?_;exact aA rfl ⟨ai rfl (by rw[decide_eq_true (.inl ((AM p).1 q))]),sb rfl⟩
                   · have q:=of_decide_eq_false q;rw[hw1] at q
                     iterate 3 refine aZ ?_
                     refine xp rfl (ij rfl rfl ha0) ?_;refine af ?_;exact aA rfl ⟨ai rfl (by rw[hw2,decide_eq_decide];exact⟨fun r=>.inr ((xe p).1 r),fun r=>(xe p).2 (r.resolve_left (fun k=>q ((AM p).2 k)))⟩),sb rfl⟩
               · refine fF (fun hn=>?_) (fun hn=>?_)
                 · have hn:=of_decide_eq_true hn;have hi:¬gx (a*b):=by unfold gx;omega
                   refine af ?_;refine bh ?_;exact⟨_,rfl,⟨_,_,rfl,Cy ha hb hi⟩,rfl⟩
                 · have hn:=of_decide_eq_false hn;have hi:gx (a*b):=by unfold gx;omega
                   iterate 2 refine aR ?_
                   refine de ?_
                   iterate 2 refine aZ ?_
                   refine xp rfl (ay.Mj rfl rfl hi) ?_;refine af ?_;refine bh ?_;exact⟨_,rfl,⟨_,_,rfl,sP hb hi⟩,rfl⟩
     · have c3:¬op=[42]:=fun q=>c3 (by rw[q];rfl)
       have ho':op=[47]\/op=[37]:=((ho.resolve_left c1).resolve_left c2).resolve_left c3
       iterate 4 refine aR ?_
       refine dW [(130,.bool (decide (b=0\/a= -9223372036854775808/\b= -1)))] rfl ?_ ?_
       · refine af ?_;refine b9 122 (fun p=>?_) (fun p=>?_)
         · have p:=of_decide_eq_true p;refine af ?_;exact aA rfl ⟨ai rfl (by rw[decide_eq_true (.inl p)]),sb rfl⟩
         · have p:=of_decide_eq_false p;refine af ?_;refine b9 126 (fun q=>?_) (fun q=>?_)
           · have q:=of_decide_eq_true q;refine af ?_;exact aA rfl ⟨ai rfl (by rw[decide_eq_decide];exact⟨fun r=>.inr ⟨q,r⟩,fun r=>(r.resolve_left p).2⟩),sb rfl⟩
           · have q:=of_decide_eq_false q;refine af ?_;exact aA rfl ⟨ai rfl (by rw[decide_eq_false (fun r=>q (r.resolve_left p).1)]),sb rfl⟩
       · refine fF (fun hz=>?_) (fun hz=>?_)
         · have hz:=of_decide_eq_true hz;refine af ?_;refine bh ?_;exact⟨_,rfl,⟨_,_,rfl,KK hz ho'⟩,rfl⟩
         · have hz:=of_decide_eq_false hz;have hb0:b≠0:=fun q=>hz (.inl q)
           refine af ?_;refine aP (fun c4=>?_) (fun c4=>?_)
           · have c4:op=[47]:=aI c4;subst c4;refine aR ?_;refine de ?_
             iterate 2 refine aZ ?_
             refine xp rfl (ij rfl rfl hb0) ?_;refine af ?_;refine bh ?_;exact⟨_,rfl,⟨_,_,rfl,IK hz⟩,rfl⟩
           · have c4:op=[37]:=ho'.resolve_left fun q=>c4 (by rw[q];rfl)
             subst c4
             iterate 2 refine aR ?_
             refine de ?_
             iterate 2 refine aZ ?_
             refine xp rfl (sZ rfl rfl hb0) ?_;refine af ?_;refine bh ?_;exact⟨_,rfl,⟨_,_,rfl,IJ hz⟩,rfl⟩
theorem ga (b:Bool):av Tryz.prog 52 #[.bool b] h (bq fun r h'=>r=Jf 2 (if b then 1 else 0) []/\aq h h'):=by
 refine bP ?_;refine af ?_;refine xo rfl (cm) ?_;rintro _ h1 ⟨rfl,k1,e1,z1⟩;refine af ?_;refine fF (fun hb=>?_) (fun hb=>?_)
 · refine af ?_;refine xp rfl (au (H.BB _ _) rfl) ?_;refine aH rfl (aK rfl rfl k1) ?_;rintro _ h2 ⟨rfl,k2,x2,z2⟩;refine af ?_;refine bF (br rfl k2.row bE) ?_;exact⟨_,rfl,by rw[hb];rfl,aq.only e1 x2 (Nat.le_refl _)⟩
 · refine af ?_;refine xp rfl (au (H.K8 _) rfl) ?_;refine aH rfl (aK rfl rfl k1) ?_;rintro _ h2 ⟨rfl,k2,x2,z2⟩;refine af ?_;refine bF (br rfl k2.row bE) ?_;exact⟨_,rfl,by rw[hb];rfl,aq.only e1 x2 (Nat.le_refl _)⟩
theorem gP {rb:Nat}{s:Int}(k:aC h rb 73 [.int .i64 s,.int .i64 0]) (e:Int) :
 av Tryz.prog 50 #[.pointer (some ⟨rb,0,none⟩),.int .i64 e] h (bq fun r h'=>r=Jf 0 0 []/\aC h' rb 73 [.int .i64 s,.int .i64 e]/\Ext (fun b=>b=rb) h h'):=by
 have hl:=k.lt;refine bP ?_;refine af ?_;refine xo rfl (cm) ?_;rintro _ h1 ⟨rfl,k1,e1,z1⟩;have k2:=k.ah e1;refine af ?_;refine xp rfl (az rfl (k2.cell (i:=1) rfl)) ?_;refine af ?_;refine eu rfl (by simp) ?_;refine af ?_;refine aH rfl (kY rfl rfl k2) ?_;rintro _ h2 ⟨rfl,k3,x3,z3⟩;refine af ?_;refine xp rfl (au (H.Kn ) rfl) ?_;refine aH rfl (aK rfl rfl ((k1.ext x3 (by omega)))) ?_;rintro _ h3 ⟨rfl,k4,x4,z4⟩;refine af ?_;refine bF (br rfl k4.row bE) ?_;exact⟨_,rfl,rfl,k3.ext x4 (by omega),((e1.mono fun _ _ q=>q.elim).trans x3).aW x4 (fun b hb q=>by omega)⟩
def vN (v:Value) (k n:Int) (s f:By):Prop:=∀(h:aj) (O:Nat->Prop),cG h O v (.mk k n s f cj [])
theorem qe {k n:Int}{f:By}(q:cG h O v (.mk k n s f cj [])):vN v k n s f:=by
 obtain⟨nk,nt,a,m,c,ea,en,ec,rfl,hb,_,he⟩:=q.get;obtain⟨w,hw,hl⟩:=iR (show eN.R h O _ (.mk 0 [] []) from hb);simp only[List.cons.injEq,and_true] at hw;obtain⟨h1,h2,h3⟩:=hw;intro h' O'
 have e1:∀{α:Type}{e:gD α}{a:Option Addr}{m c:Nat},aY e h O (.slice a m c) []->aY e h' O' (.slice a m c) []:=fun {α e a m c} q=>by
  obtain⟨oa,n,c',hv,hl,h1,h2,_⟩:=q;cases hv;exact⟨_,_,_,rfl,hl,h1,h2,fun i y hy=>by cases hy⟩
 rw[h1,h2] at *;subst h3;exact cG.of (qg (jU (e1 hl)) (e1 he))
theorem vN.agg {v:Value}{k n:Int}{s f:By}(q:vN v k n s f):∃nk nt a m c ea en ec,v= .agg #[.int .i64 k,.int .i64 n,.string (bs s),.string (bs f),.int .i64 nk,.string (bs nt),.slice a m c,.slice ea en ec]:=by
 obtain⟨nk,nt,a,m,c,ea,en,ec,hv,_⟩:=(q #[] (fun _=>False)).get;exact⟨nk,nt,a,m,c,ea,en,ec,hv⟩
theorem xO (ih:∀m,m<=n->zM m):Ct 203 [] (.part 6) (n+1):=by
 intro c h s t s' hp hm;have hpl:=hp.lt;obtain⟨o1,o2⟩:=hp.old;rw[pM,if_neg (by decide),if_neg (by decide),if_pos rfl] at hm;refine bP ?_;refine af ?_;refine xo rfl (cm) ?_;rintro _ h1 ⟨rfl,k1,e1,z1⟩;refine af ?_;refine xo rfl (jG [_]) ?_;rintro _ w2 ⟨rfl,hw2⟩;have y2:aq h1 w2:=by rw[hw2];exact Ext.push _ _ _
 have ts2:aY nG w2 (fun _=>False) (.slice (some ⟨Array.size h1,0,none⟩) 1 1) [oz]:=by rw[hw2];exact bw _ [oz] _ rfl (by simp[maxLen]) rfl
 refine xo rfl (aF rfl (bu ((hp.ah e1).ah y2) 6 ts2)) ?_;rintro _ h2 ⟨rfl,hp2,x2⟩;have x2:=y2.of.trans x2
 rcases hq2:cY 6 [oz] s with ⟨o2,s2⟩
 rw[hq2] at hp2 hm;have k2:=k1.ext x2 (show ¬h.size=c.pb by omega);have x02:=e1.of.trans x2
 rcases o2 with _|v2
 · simp only at hm;refine af ?_;refine eC rfl (by simp) ?_;refine af ?_;refine xo rfl (aF rfl ((ih n (Nat.le_refl _)).p7 _ _ _ _ _ hp2 hm)) ?_;rintro r9 g9 ⟨y9,hp9,t9,hn9,ht9⟩;have k9:=(k2).ext y9 (show ¬h.size=c.pb by omega);obtain⟨nk,nt,na,nn,nc,rfl,_⟩:=hn9.get;refine aH rfl (aK rfl rfl k9) ?_;rintro _ g10 ⟨rfl,k10,x10,z10⟩;refine af ?_;refine bF (br rfl k10.row bE) ?_;exact⟨_,rfl,dL.ret ⟨y9,hp9,t9,hn9,ht9⟩ hp (x02) x10 (Nat.le_refl _) (k2).lt⟩
 · simp only at hm;obtain⟨v,s1,hv,hm⟩:=aD hm;obtain⟨rfl,rfl⟩:Tr.mk 4 oz [v]=t/\s1=s':=by cases hm;exact⟨rfl,rfl⟩
   refine af ?_;refine eu rfl (by simp) ?_;refine af ?_;refine xo rfl (aF rfl ((ih n (Nat.le_refl _)).p6 _ _ _ _ _ hp2 hv)) ?_;rintro r6 h6 ⟨y6,hp6,t6,hn6,ht6⟩;have z6:=y6.size;obtain⟨nk,nt,na,nn,nc,rfl,hr6⟩:=hn6.get;refine xo rfl (sH) ?_;rintro _ h7 ⟨rfl,hh7⟩;have e7:aq h6 h7:=by rw[hh7];exact Ext.push _ _ _
   have z7:h7.size=h6.size+1:=by rw[hh7];simp
   have hs7:aY eN h7 (fun b=>b<Array.size h2) (.slice (some ⟨h6.size,0,none⟩) 1 1) [t6]:=by rw[hh7];exact mI hr6 (by omega)
   have zk:=(k2).lt;refine xp rfl (au (H.jA _ _ _ _ _) rfl) ?_;refine aH rfl (aK rfl rfl (((k2.ext y6 (show ¬h.size=c.pb by omega)).ah e7)) jH) ?_;rintro _ hz ⟨rfl,kz,xz,zz⟩;refine af ?_;refine bF (br rfl kz.row bE) ?_;exact⟨_,rfl,bA hp (((x02).trans y6).trans e7.of) (hp6.ah e7) (cL.shut (hs7.mv (Mv.cg (Ext.refl (fun _=>False) _) fun b hb q=>⟨fun q2=>q2,fun q2=>q (by omega)⟩))) (fun q=>by rw[ht6 q]) xz⟩
theorem B1 (ih:∀m,m<=n->zM m):Ct 169 [] (.part 2) (n+1):=by
 intro c h s t s' hp hm;have hpl:=hp.lt;obtain⟨o1,o2⟩:=hp.old;rw[pM,if_neg (by decide),if_pos rfl] at hm;refine bP ?_;refine af ?_;refine xo rfl (cm) ?_;rintro _ h1 ⟨rfl,k1,e1,z1⟩;refine af ?_;refine xo rfl (jG [_]) ?_;rintro _ w2 ⟨rfl,hw2⟩;have y2:aq h1 w2:=by rw[hw2];exact Ext.push _ _ _
 have ts2:aY nG w2 (fun _=>False) (.slice (some ⟨Array.size h1,0,none⟩) 1 1) [nM]:=by rw[hw2];exact bw _ [nM] _ rfl (by simp[maxLen]) rfl
 refine xo rfl (aF rfl (bu ((hp.ah e1).ah y2) 4 ts2)) ?_;rintro _ h2 ⟨rfl,hp2,x2⟩;have x2:=y2.of.trans x2
 rcases hq2:cY 4 [nM] s with ⟨o2,s2⟩
 rw[hq2] at hp2 hm;have k2:=k1.ext x2 (show ¬h.size=c.pb by omega);have x02:=e1.of.trans x2
 rcases o2 with _|v2
 · simp only at hm;refine af ?_;refine eu rfl (by simp) ?_;refine af ?_;refine xo rfl (jG [_]) ?_;rintro _ w3 ⟨rfl,hw3⟩;have y3:aq h2 w3:=by rw[hw3];exact Ext.push _ _ _
   have ts3:aY nG w3 (fun _=>False) (.slice (some ⟨Array.size h2,0,none⟩) 1 1) [Ah]:=by rw[hw3];exact bw _ [Ah] _ rfl (by simp[maxLen]) rfl
   refine xo rfl (aF rfl (bu (hp2.ah y3) 6 ts3)) ?_;rintro _ h3 ⟨rfl,hp3,x3⟩;have x3:=y3.of.trans x3
   rcases hq3:cY 6 [Ah] s2 with ⟨o3,s3⟩
   rw[hq3] at hp3 hm;have k3:=k2.ext x3 (show ¬h.size=c.pb by omega);have x03:=x02.trans x3
   rcases o3 with _|v3
   · simp only at hm;refine af ?_;refine eu rfl (by simp) ?_;refine af ?_;refine xo rfl (aF rfl ((ih n (Nat.le_refl _)).p3 _ _ _ _ _ hp3 hm)) ?_;rintro r9 g9 ⟨y9,hp9,t9,hn9,ht9⟩;have k9:=(k3).ext y9 (show ¬h.size=c.pb by omega);obtain⟨nk,nt,na,nn,nc,rfl,_⟩:=hn9.get;refine aH rfl (aK rfl rfl k9) ?_;rintro _ g10 ⟨rfl,k10,x10,z10⟩;refine af ?_;refine bF (br rfl k10.row bE) ?_;exact⟨_,rfl,dL.ret ⟨y9,hp9,t9,hn9,ht9⟩ hp (x03) x10 (Nat.le_refl _) (k3).lt⟩
   · simp only at hm;obtain⟨v,s1,hv,hm⟩:=aD hm;obtain⟨rfl,rfl⟩:Tr.mk 4 nM [v]=t/\s1=s':=by cases hm;exact⟨rfl,rfl⟩
     refine af ?_;refine eC rfl (by simp) ?_;refine af ?_;refine xo rfl (aF rfl ((ih n (Nat.le_refl _)).p2 _ _ _ _ _ hp3 hv)) ?_;rintro r6 h6 ⟨y6,hp6,t6,hn6,ht6⟩;have z6:=y6.size;obtain⟨nk,nt,na,nn,nc,rfl,hr6⟩:=hn6.get;refine xo rfl (sH) ?_;rintro _ h7 ⟨rfl,hh7⟩;have e7:aq h6 h7:=by rw[hh7];exact Ext.push _ _ _
     have z7:h7.size=h6.size+1:=by rw[hh7];simp
     have hs7:aY eN h7 (fun b=>b<Array.size h3) (.slice (some ⟨h6.size,0,none⟩) 1 1) [t6]:=by rw[hh7];exact mI hr6 (by omega)
     have zk:=(k3).lt;refine xp rfl (au (H.jA _ _ _ _ _) rfl) ?_;refine aH rfl (aK rfl rfl (((k3.ext y6 (show ¬h.size=c.pb by omega)).ah e7)) jH) ?_;rintro _ hz ⟨rfl,kz,xz,zz⟩;refine af ?_;refine bF (br rfl kz.row bE) ?_;exact⟨_,rfl,bA hp (((x03).trans y6).trans e7.of) (hp6.ah e7) (cL.shut (hs7.mv (Mv.cg (Ext.refl (fun _=>False) _) fun b hb q=>⟨fun q2=>q2,fun q2=>q (by omega)⟩))) (fun q=>by rw[ht6 q]) xz⟩
 · simp only at hm;obtain⟨v,s1,hv,hm⟩:=aD hm;obtain⟨rfl,rfl⟩:Tr.mk 4 nM [v]=t/\s1=s':=by cases hm;exact⟨rfl,rfl⟩
   refine af ?_;refine eC rfl (by simp) ?_;refine af ?_;refine xo rfl (aF rfl ((ih n (Nat.le_refl _)).p2 _ _ _ _ _ hp2 hv)) ?_;rintro r6 h6 ⟨y6,hp6,t6,hn6,ht6⟩;have z6:=y6.size;obtain⟨nk,nt,na,nn,nc,rfl,hr6⟩:=hn6.get;refine xo rfl (sH) ?_;rintro _ h7 ⟨rfl,hh7⟩;have e7:aq h6 h7:=by rw[hh7];exact Ext.push _ _ _
   have z7:h7.size=h6.size+1:=by rw[hh7];simp
   have hs7:aY eN h7 (fun b=>b<Array.size h2) (.slice (some ⟨h6.size,0,none⟩) 1 1) [t6]:=by rw[hh7];exact mI hr6 (by omega)
   have zk:=(k2).lt;refine xp rfl (au (H.jA _ _ _ _ _) rfl) ?_;refine aH rfl (aK rfl rfl (((k2.ext y6 (show ¬h.size=c.pb by omega)).ah e7)) jH) ?_;rintro _ hz ⟨rfl,kz,xz,zz⟩;refine af ?_;refine bF (br rfl kz.row bE) ?_;exact⟨_,rfl,bA hp (((x02).trans y6).trans e7.of) (hp6.ah e7) (cL.shut (hs7.mv (Mv.cg (Ext.refl (fun _=>False) _) fun b hb q=>⟨fun q2=>q2,fun q2=>q (by omega)⟩))) (fun q=>by rw[ht6 q]) xz⟩
structure BV (c:PC) (h g:aj) (b3:Nat) (t1:Tr) (s1:PS):Prop where
 st:qw c g s1
 ext:Ext (fun b=>b=c.pb) h g
 res:aC g h.size 27 [.int .i64 0,.string (bs []),.slice none 0 0]
 lt:h.size<b3
 nd:∃k x a n cc u,aC g b3 27 [.int .i64 k,.string (bs x),.slice a n cc]/\eN.R g (fun b=>b<=h.size\/b=b3) [.int .i64 k,.string (bs x),.slice a n cc] u/\(s1.cJ=false->u=t1)
theorem BV.mv {g':aj}{t1:Tr}{s2:PS}(k:BV c h g b3 t1 s1) (hp:c.pb<h.size) (x:Ext (fun b=>b=c.pb) g g') (hs:qw c g' s2) (hg:s2.cJ=false->s1.cJ=false):BV c h g' b3 t1 s2:=by
 obtain⟨k1,k2,k3,k4,kk,xx,a,n,cc,u,k5,k6,k7⟩:=k;exact⟨hs,k2.trans x,k3.ext x (by omega),k4,kk,xx,a,n,cc,u,k5.ext x (by omega),bH k6 x (fun b hb q=>⟨fun q2=>q (by omega),q⟩),fun q=>k7 (hg q)⟩
theorem Mh (s:PS):EA 0 s=(match cY 4 [l9] s with|(some _,s)=>(some l9,s)|(none,s)=>match cY 6 [tu] s with|(some _,s)=>(some l9,s)|(none,s)=>(none,s)):=rfl
theorem Mg (s:PS):EA 1 s=(match cY 4 [jb] s with|(some _,s)=>(some jb,s)|(none,s)=>match cY 6 [tw] s with|(some _,s)=>(some jb,s)|(none,s)=>(none,s)):=rfl
theorem Mf (s:PS):EA 3 s=cY 6 FU s:=rfl
theorem Me (s:PS):EA 4 s=cY 6 FR s:=rfl
theorem Md (s:PS):EA 5 s=cY 6 Af s:=rfl
theorem DX (ih:∀m,m<=n->zM m):Ct 114 [] (.part 0) (n+1):=by
 intro c h s t s' hp hm;have hpl:=hp.lt;obtain⟨o1,o2⟩:=hp.old;rw[pM,if_neg (by decide),if_neg (by decide),if_neg (by decide)] at hm;obtain⟨v,s1,hv,hm⟩:=aD hm;refine bP ?_;refine af ?_;refine xo rfl (cm) ?_;rintro _ h1 ⟨rfl,k1,e1,z1⟩;refine af ?_;refine xo rfl (aF rfl ((ih n (Nat.le_refl _)).p1 _ _ _ _ _ (hp.ah e1) hv)) ?_;rintro r2 h2 ⟨y2,hp2,t2,hn2,uC⟩;obtain⟨nk,nt,na,nn,nc,rfl,hr2⟩:=hn2.get;refine xo rfl (cm) ?_;rintro _ h3 ⟨rfl,k3,e3,z3⟩;refine aH rfl (aK rfl rfl k3 jH) ?_;rintro _ h4 ⟨rfl,k4,x4,z4⟩;have z2:=y2.size;have x24:Ext (fun b=>b=h2.size) h2 h4:=e3.of.trans x4;have hI:BV c h h4 h2.size v s1:=⟨(hp2.ah e3).ext x4 (fun b hb q=>by omega),((e1.of.trans y2).trans e3.of).aW x4 (fun b hb q=>by omega),((k1.ext y2 (by omega)).ah e3).ext x4 (show ¬h.size=h2.size by omega),by omega,nk,nt,na,nn,nc,t2,k4,bH hr2 x24 (fun b hb q=>⟨fun q2=>by omega,fun q2=>q (by omega)⟩),uC⟩
 refine af ?_;refine gJ (σ:=Nat×Tr×PS) (fun _=>[]) (fun w g=>w.1<=n/\pM c.e w.1 (.opL 0 w.2.1) w.2.2=some (t,s')/\BV c h g h2.size w.2.1 w.2.2) (fun w=>w.1) ((n,v,s1)) ⟨Nat.le_refl _,hm,hI⟩ rfl ?_;rintro⟨m,u,sI⟩ g ⟨hmn,hm,hI⟩ ihL
 try dsimp only
 obtain⟨m,rfl⟩:∃m',m=m'+1:=by cases m with|zero=>cases hm|succ m=>exact⟨m,rfl⟩
 rw[pM,Mh] at hm;refine af ?_;refine xo rfl (jG [_]) ?_;rintro _ w5 ⟨rfl,hw5⟩;have y5:aq g w5:=by rw[hw5];exact Ext.push _ _ _
 have ts5:aY nG w5 (fun _=>False) (.slice (some ⟨Array.size g,0,none⟩) 1 1) [l9]:=by rw[hw5];exact bw _ [l9] _ rfl (by simp[maxLen]) rfl
 refine xo rfl (aF rfl (bu (hI.st.ah y5) 4 ts5)) ?_;rintro _ h5 ⟨rfl,hp5,x5⟩;have x5:=y5.of.trans x5
 rcases hq5:cY 4 [l9] sI with ⟨o5,s5⟩
 rw[hq5] at hp5 hm
 rcases o5 with _|v5
 · simp only at hm;refine af ?_;refine eu rfl (by simp) ?_;refine af ?_;refine xo rfl (jG [_]) ?_;rintro _ w6 ⟨rfl,hw6⟩;have y6:aq h5 w6:=by rw[hw6];exact Ext.push _ _ _
   have ts6:aY nG w6 (fun _=>False) (.slice (some ⟨Array.size h5,0,none⟩) 1 1) [tu]:=by rw[hw6];exact bw _ [tu] _ rfl (by simp[maxLen]) rfl
   refine xo rfl (aF rfl (bu (hp5.ah y6) 6 ts6)) ?_;rintro _ h6 ⟨rfl,hp6,x6⟩;have x6:=y6.of.trans x6
   rcases hq6:cY 6 [tu] s5 with ⟨o6,s6⟩
   rw[hq6] at hp6 hm;have x56:=x5.trans x6
   rcases o6 with _|v6
   · simp only at hm;obtain⟨rfl,rfl⟩:u=t/\s6=s':=by cases hm;exact⟨rfl,rfl⟩
     refine af ?_;refine eu rfl (by simp) ?_;have hI2:=hI.mv hpl x56 hp6 (fun q=>bK hq5 (bK hq6 q));obtain⟨j1,j2,j3,j4,jk,jx,ja,jn,jc,ju,j5,j6,j7⟩:=hI2;refine af ?_;refine xp rfl (bV rfl j5.row) ?_;refine aH rfl (aK rfl rfl j3 jH) ?_;rintro _ hz ⟨rfl,kz,xz,zz⟩;refine af ?_;refine bF (br rfl kz.row bE) ?_;exact⟨_,rfl,bA hp j2 j1 (cL.of (bH j6 (Ext.refl (fun _=>False) _) (fun b hb q=>⟨fun q2=>q2,fun q2=>q (.inl q2)⟩))) j7 xz⟩
   · simp only at hm;obtain⟨v2,s3,hv2,hm⟩:=aD hm;rw[if_neg (by decide)] at hm;refine af ?_;refine eC rfl (by simp) ?_;have hI2:=hI.mv hpl x56 hp6 (fun q=>bK hq5 (bK hq6 q));obtain⟨j1,j2,j3,j4,jk,jx,ja,jn,jc,ju,j5,j6,j7⟩:=hI2;have j5l:=j5.lt;have j2z:=j2.size;refine af ?_;refine kH 5 (fun b=>b=c.pb\/Array.size h6<=b) (fun i=>Nat.blt i 4) ?_;refine bC 0 rfl (fun h' e=>bV rfl (e.rowAt (by omega) j5.row)) ?_;refine aG 1 ?_;refine cU 2 rfl (aF rfl ((ih m (by omega)).p1 _ _ _ _ _ hp6 hv2)) ?_;rintro r6 h6 ⟨y6,hp6,t6,hn6,ht6⟩;refine⟨fun _=>y6.mono (fun _ _ q=>.inl q),?_⟩;have z6:=y6.size;refine cU 3 rfl (aF rfl (fM (O:=fun b=>b<=h.size\/b=h2.size) l9 (fun b q=>by omega) (cL.of (bH j6 y6 (fun b hb q=>⟨fun q2=>q (by omega),q⟩))) (hn6.ext (Ext.refl (fun _=>False) _) (fun b hb q=>⟨fun q2=>q2,fun q2=>q (by omega)⟩)))) ?_;rintro r8 h8 ⟨hn8,e8⟩;refine⟨fun _=>e8.of,?_⟩;have z8:=e8.size;obtain⟨mk,mt,ma,mn,mc,rfl,hr8⟩:=hn8.get;refine iA 4 rfl (aK rfl rfl (((j5.ext y6 (show ¬h2.size=c.pb by omega)).ah e8)) jH) ?_;rintro _ h9 ⟨rfl,k9,x9,z9⟩;refine⟨nofun,?_⟩;refine gV ?_;refine af ?_;exact ihL (m,.mk 5 l9 [u,v2],s3) ⟨by omega,hm,⟨(hp6.ah e8).ext x9 (fun b hb q=>by omega),((j2.trans y6).trans e8.of).aW x9 (fun b hb q=>by omega),((j3.ext y6 (show ¬h.size=c.pb by omega)).ah e8).ext x9 (show ¬h.size=h2.size by omega),j4,mk,mt,ma,mn,mc,_,k9,bH hr8 x9 (fun b hb q=>⟨fun q2=>q (.inr q2),q⟩),fun q=>by rw[j7 (eF hv2 q),ht6 q]⟩⟩ (Nat.lt_succ_self _)
 · simp only at hm;obtain⟨v2,s3,hv2,hm⟩:=aD hm;rw[if_neg (by decide)] at hm;refine af ?_;refine eC rfl (by simp) ?_;have hI2:=hI.mv hpl x5 hp5 (fun q=>bK hq5 q);obtain⟨j1,j2,j3,j4,jk,jx,ja,jn,jc,ju,j5,j6,j7⟩:=hI2;have j5l:=j5.lt;have j2z:=j2.size;refine af ?_;refine kH 5 (fun b=>b=c.pb\/Array.size h5<=b) (fun i=>Nat.blt i 4) ?_;refine bC 0 rfl (fun h' e=>bV rfl (e.rowAt (by omega) j5.row)) ?_;refine aG 1 ?_;refine cU 2 rfl (aF rfl ((ih m (by omega)).p1 _ _ _ _ _ hp5 hv2)) ?_;rintro r6 h6 ⟨y6,hp6,t6,hn6,ht6⟩;refine⟨fun _=>y6.mono (fun _ _ q=>.inl q),?_⟩;have z6:=y6.size;refine cU 3 rfl (aF rfl (fM (O:=fun b=>b<=h.size\/b=h2.size) l9 (fun b q=>by omega) (cL.of (bH j6 y6 (fun b hb q=>⟨fun q2=>q (by omega),q⟩))) (hn6.ext (Ext.refl (fun _=>False) _) (fun b hb q=>⟨fun q2=>q2,fun q2=>q (by omega)⟩)))) ?_;rintro r8 h8 ⟨hn8,e8⟩;refine⟨fun _=>e8.of,?_⟩;have z8:=e8.size;obtain⟨mk,mt,ma,mn,mc,rfl,hr8⟩:=hn8.get;refine iA 4 rfl (aK rfl rfl (((j5.ext y6 (show ¬h2.size=c.pb by omega)).ah e8)) jH) ?_;rintro _ h9 ⟨rfl,k9,x9,z9⟩;refine⟨nofun,?_⟩;refine gV ?_;refine af ?_;exact ihL (m,.mk 5 l9 [u,v2],s3) ⟨by omega,hm,⟨(hp6.ah e8).ext x9 (fun b hb q=>by omega),((j2.trans y6).trans e8.of).aW x9 (fun b hb q=>by omega),((j3.ext y6 (show ¬h.size=c.pb by omega)).ah e8).ext x9 (show ¬h.size=h2.size by omega),j4,mk,mt,ma,mn,mc,_,k9,bH hr8 x9 (fun b hb q=>⟨fun q2=>q (.inr q2),q⟩),fun q=>by rw[j7 (eF hv2 q),ht6 q]⟩⟩ (Nat.lt_succ_self _)
theorem B4 (ih:∀m,m<=n->zM m):Ct 146 [] (.part 1) (n+1):=by
 intro c h s t s' hp hm;have hpl:=hp.lt;obtain⟨o1,o2⟩:=hp.old;rw[pM,if_neg (by decide),if_neg (by decide),if_neg (by decide)] at hm;obtain⟨v,s1,hv,hm⟩:=aD hm;refine bP ?_;refine af ?_;refine xo rfl (cm) ?_;rintro _ h1 ⟨rfl,k1,e1,z1⟩;refine af ?_;refine xo rfl (aF rfl ((ih n (Nat.le_refl _)).p2 _ _ _ _ _ (hp.ah e1) hv)) ?_;rintro r2 h2 ⟨y2,hp2,t2,hn2,uC⟩;obtain⟨nk,nt,na,nn,nc,rfl,hr2⟩:=hn2.get;refine xo rfl (cm) ?_;rintro _ h3 ⟨rfl,k3,e3,z3⟩;refine aH rfl (aK rfl rfl k3 jH) ?_;rintro _ h4 ⟨rfl,k4,x4,z4⟩;have z2:=y2.size;have x24:Ext (fun b=>b=h2.size) h2 h4:=e3.of.trans x4;have hI:BV c h h4 h2.size v s1:=⟨(hp2.ah e3).ext x4 (fun b hb q=>by omega),((e1.of.trans y2).trans e3.of).aW x4 (fun b hb q=>by omega),((k1.ext y2 (by omega)).ah e3).ext x4 (show ¬h.size=h2.size by omega),by omega,nk,nt,na,nn,nc,t2,k4,bH hr2 x24 (fun b hb q=>⟨fun q2=>by omega,fun q2=>q (by omega)⟩),uC⟩
 refine af ?_;refine gJ (σ:=Nat×Tr×PS) (fun _=>[]) (fun w g=>w.1<=n/\pM c.e w.1 (.opL 1 w.2.1) w.2.2=some (t,s')/\BV c h g h2.size w.2.1 w.2.2) (fun w=>w.1) ((n,v,s1)) ⟨Nat.le_refl _,hm,hI⟩ rfl ?_;rintro⟨m,u,sI⟩ g ⟨hmn,hm,hI⟩ ihL
 try dsimp only
 obtain⟨m,rfl⟩:∃m',m=m'+1:=by cases m with|zero=>cases hm|succ m=>exact⟨m,rfl⟩
 rw[pM,Mg] at hm;refine af ?_;refine xo rfl (jG [_]) ?_;rintro _ w5 ⟨rfl,hw5⟩;have y5:aq g w5:=by rw[hw5];exact Ext.push _ _ _
 have ts5:aY nG w5 (fun _=>False) (.slice (some ⟨Array.size g,0,none⟩) 1 1) [jb]:=by rw[hw5];exact bw _ [jb] _ rfl (by simp[maxLen]) rfl
 refine xo rfl (aF rfl (bu (hI.st.ah y5) 4 ts5)) ?_;rintro _ h5 ⟨rfl,hp5,x5⟩;have x5:=y5.of.trans x5
 rcases hq5:cY 4 [jb] sI with ⟨o5,s5⟩
 rw[hq5] at hp5 hm
 rcases o5 with _|v5
 · simp only at hm;refine af ?_;refine eu rfl (by simp) ?_;refine af ?_;refine xo rfl (jG [_]) ?_;rintro _ w6 ⟨rfl,hw6⟩;have y6:aq h5 w6:=by rw[hw6];exact Ext.push _ _ _
   have ts6:aY nG w6 (fun _=>False) (.slice (some ⟨Array.size h5,0,none⟩) 1 1) [tw]:=by rw[hw6];exact bw _ [tw] _ rfl (by simp[maxLen]) rfl
   refine xo rfl (aF rfl (bu (hp5.ah y6) 6 ts6)) ?_;rintro _ h6 ⟨rfl,hp6,x6⟩;have x6:=y6.of.trans x6
   rcases hq6:cY 6 [tw] s5 with ⟨o6,s6⟩
   rw[hq6] at hp6 hm;have x56:=x5.trans x6
   rcases o6 with _|v6
   · simp only at hm;obtain⟨rfl,rfl⟩:u=t/\s6=s':=by cases hm;exact⟨rfl,rfl⟩
     refine af ?_;refine eu rfl (by simp) ?_;have hI2:=hI.mv hpl x56 hp6 (fun q=>bK hq5 (bK hq6 q));obtain⟨j1,j2,j3,j4,jk,jx,ja,jn,jc,ju,j5,j6,j7⟩:=hI2;refine af ?_;refine xp rfl (bV rfl j5.row) ?_;refine aH rfl (aK rfl rfl j3 jH) ?_;rintro _ hz ⟨rfl,kz,xz,zz⟩;refine af ?_;refine bF (br rfl kz.row bE) ?_;exact⟨_,rfl,bA hp j2 j1 (cL.of (bH j6 (Ext.refl (fun _=>False) _) (fun b hb q=>⟨fun q2=>q2,fun q2=>q (.inl q2)⟩))) j7 xz⟩
   · simp only at hm;obtain⟨v2,s3,hv2,hm⟩:=aD hm;rw[if_neg (by decide)] at hm;refine af ?_;refine eC rfl (by simp) ?_;have hI2:=hI.mv hpl x56 hp6 (fun q=>bK hq5 (bK hq6 q));obtain⟨j1,j2,j3,j4,jk,jx,ja,jn,jc,ju,j5,j6,j7⟩:=hI2;have j5l:=j5.lt;have j2z:=j2.size;refine af ?_;refine kH 5 (fun b=>b=c.pb\/Array.size h6<=b) (fun i=>Nat.blt i 4) ?_;refine bC 0 rfl (fun h' e=>bV rfl (e.rowAt (by omega) j5.row)) ?_;refine aG 1 ?_;refine cU 2 rfl (aF rfl ((ih m (by omega)).p2 _ _ _ _ _ hp6 hv2)) ?_;rintro r6 h6 ⟨y6,hp6,t6,hn6,ht6⟩;refine⟨fun _=>y6.mono (fun _ _ q=>.inl q),?_⟩;have z6:=y6.size;refine cU 3 rfl (aF rfl (fM (O:=fun b=>b<=h.size\/b=h2.size) jb (fun b q=>by omega) (cL.of (bH j6 y6 (fun b hb q=>⟨fun q2=>q (by omega),q⟩))) (hn6.ext (Ext.refl (fun _=>False) _) (fun b hb q=>⟨fun q2=>q2,fun q2=>q (by omega)⟩)))) ?_;rintro r8 h8 ⟨hn8,e8⟩;refine⟨fun _=>e8.of,?_⟩;have z8:=e8.size;obtain⟨mk,mt,ma,mn,mc,rfl,hr8⟩:=hn8.get;refine iA 4 rfl (aK rfl rfl (((j5.ext y6 (show ¬h2.size=c.pb by omega)).ah e8)) jH) ?_;rintro _ h9 ⟨rfl,k9,x9,z9⟩;refine⟨nofun,?_⟩;refine gV ?_;refine af ?_;exact ihL (m,.mk 5 jb [u,v2],s3) ⟨by omega,hm,⟨(hp6.ah e8).ext x9 (fun b hb q=>by omega),((j2.trans y6).trans e8.of).aW x9 (fun b hb q=>by omega),((j3.ext y6 (show ¬h.size=c.pb by omega)).ah e8).ext x9 (show ¬h.size=h2.size by omega),j4,mk,mt,ma,mn,mc,_,k9,bH hr8 x9 (fun b hb q=>⟨fun q2=>q (.inr q2),q⟩),fun q=>by rw[j7 (eF hv2 q),ht6 q]⟩⟩ (Nat.lt_succ_self _)
 · simp only at hm;obtain⟨v2,s3,hv2,hm⟩:=aD hm;rw[if_neg (by decide)] at hm;refine af ?_;refine eC rfl (by simp) ?_;have hI2:=hI.mv hpl x5 hp5 (fun q=>bK hq5 q);obtain⟨j1,j2,j3,j4,jk,jx,ja,jn,jc,ju,j5,j6,j7⟩:=hI2;have j5l:=j5.lt;have j2z:=j2.size;refine af ?_;refine kH 5 (fun b=>b=c.pb\/Array.size h5<=b) (fun i=>Nat.blt i 4) ?_;refine bC 0 rfl (fun h' e=>bV rfl (e.rowAt (by omega) j5.row)) ?_;refine aG 1 ?_;refine cU 2 rfl (aF rfl ((ih m (by omega)).p2 _ _ _ _ _ hp5 hv2)) ?_;rintro r6 h6 ⟨y6,hp6,t6,hn6,ht6⟩;refine⟨fun _=>y6.mono (fun _ _ q=>.inl q),?_⟩;have z6:=y6.size;refine cU 3 rfl (aF rfl (fM (O:=fun b=>b<=h.size\/b=h2.size) jb (fun b q=>by omega) (cL.of (bH j6 y6 (fun b hb q=>⟨fun q2=>q (by omega),q⟩))) (hn6.ext (Ext.refl (fun _=>False) _) (fun b hb q=>⟨fun q2=>q2,fun q2=>q (by omega)⟩)))) ?_;rintro r8 h8 ⟨hn8,e8⟩;refine⟨fun _=>e8.of,?_⟩;have z8:=e8.size;obtain⟨mk,mt,ma,mn,mc,rfl,hr8⟩:=hn8.get;refine iA 4 rfl (aK rfl rfl (((j5.ext y6 (show ¬h2.size=c.pb by omega)).ah e8)) jH) ?_;rintro _ h9 ⟨rfl,k9,x9,z9⟩;refine⟨nofun,?_⟩;refine gV ?_;refine af ?_;exact ihL (m,.mk 5 jb [u,v2],s3) ⟨by omega,hm,⟨(hp6.ah e8).ext x9 (fun b hb q=>by omega),((j2.trans y6).trans e8.of).aW x9 (fun b hb q=>by omega),((j3.ext y6 (show ¬h.size=c.pb by omega)).ah e8).ext x9 (show ¬h.size=h2.size by omega),j4,mk,mt,ma,mn,mc,_,k9,bH hr8 x9 (fun b hb q=>⟨fun q2=>q (.inr q2),q⟩),fun q=>by rw[j7 (eF hv2 q),ht6 q]⟩⟩ (Nat.lt_succ_self _)
theorem BZ (ih:∀m,m<=n->zM m):Ct 195 [] (.part 4) (n+1):=by
 intro c h s t s' hp hm;have hpl:=hp.lt;obtain⟨o1,o2⟩:=hp.old;rw[pM,if_neg (by decide),if_neg (by decide),if_neg (by decide)] at hm;obtain⟨v,s1,hv,hm⟩:=aD hm;refine bP ?_;refine af ?_;refine xo rfl (cm) ?_;rintro _ h1 ⟨rfl,k1,e1,z1⟩;refine af ?_;refine xo rfl (aF rfl ((ih n (Nat.le_refl _)).p5 _ _ _ _ _ (hp.ah e1) hv)) ?_;rintro r2 h2 ⟨y2,hp2,t2,hn2,uC⟩;obtain⟨nk,nt,na,nn,nc,rfl,hr2⟩:=hn2.get;refine xo rfl (cm) ?_;rintro _ h3 ⟨rfl,k3,e3,z3⟩;refine aH rfl (aK rfl rfl k3 jH) ?_;rintro _ h4 ⟨rfl,k4,x4,z4⟩;have z2:=y2.size;have x24:Ext (fun b=>b=h2.size) h2 h4:=e3.of.trans x4;have hI:BV c h h4 h2.size v s1:=⟨(hp2.ah e3).ext x4 (fun b hb q=>by omega),((e1.of.trans y2).trans e3.of).aW x4 (fun b hb q=>by omega),((k1.ext y2 (by omega)).ah e3).ext x4 (show ¬h.size=h2.size by omega),by omega,nk,nt,na,nn,nc,t2,k4,bH hr2 x24 (fun b hb q=>⟨fun q2=>by omega,fun q2=>q (by omega)⟩),uC⟩
 refine af ?_;refine gJ (σ:=Nat×Tr×PS) (fun _=>[]) (fun w g=>w.1<=n/\pM c.e w.1 (.opL 4 w.2.1) w.2.2=some (t,s')/\BV c h g h2.size w.2.1 w.2.2) (fun w=>w.1) ((n,v,s1)) ⟨Nat.le_refl _,hm,hI⟩ rfl ?_;rintro⟨m,u,sI⟩ g ⟨hmn,hm,hI⟩ ihL
 try dsimp only
 obtain⟨m,rfl⟩:∃m',m=m'+1:=by cases m with|zero=>cases hm|succ m=>exact⟨m,rfl⟩
 rw[pM,Me] at hm;refine af ?_;refine xo rfl (jG [_,_]) ?_;rintro _ w5 ⟨rfl,hw5⟩;have y5:aq g w5:=by rw[hw5];exact Ext.push _ _ _
 have ts5:aY nG w5 (fun _=>False) (.slice (some ⟨Array.size g,0,none⟩) 2 2) FR:=by rw[hw5];exact bw _ FR _ rfl (by simp[maxLen]) rfl
 refine xo rfl (aF rfl (bu (hI.st.ah y5) 6 ts5)) ?_;rintro _ h5 ⟨rfl,hp5,x5⟩;have x5:=y5.of.trans x5
 rcases hq5:cY 6 FR sI with ⟨o5,s5⟩
 rw[hq5] at hp5 hm
 rcases o5 with _|v5
 · simp only at hm;obtain⟨rfl,rfl⟩:u=t/\s5=s':=by cases hm;exact⟨rfl,rfl⟩
   refine af ?_;refine eu rfl (by simp) ?_;have hI2:=hI.mv hpl x5 hp5 (fun q=>bK hq5 q);obtain⟨j1,j2,j3,j4,jk,jx,ja,jn,jc,ju,j5,j6,j7⟩:=hI2;refine af ?_;refine xp rfl (bV rfl j5.row) ?_;refine aH rfl (aK rfl rfl j3 jH) ?_;rintro _ hz ⟨rfl,kz,xz,zz⟩;refine af ?_;refine bF (br rfl kz.row bE) ?_;exact⟨_,rfl,bA hp j2 j1 (cL.of (bH j6 (Ext.refl (fun _=>False) _) (fun b hb q=>⟨fun q2=>q2,fun q2=>q (.inl q2)⟩))) j7 xz⟩
 · simp only at hm;obtain⟨v2,s3,hv2,hm⟩:=aD hm;rw[if_neg (by decide)] at hm;refine af ?_;refine eC rfl (by simp) ?_;have hI2:=hI.mv hpl x5 hp5 (fun q=>bK hq5 q);obtain⟨j1,j2,j3,j4,jk,jx,ja,jn,jc,ju,j5,j6,j7⟩:=hI2;have j5l:=j5.lt;have j2z:=j2.size;refine af ?_;refine kH 6 (fun b=>b=c.pb\/Array.size h5<=b) (fun i=>Nat.blt i 5) ?_;refine aG 0 ?_;refine bC 1 rfl (fun h' e=>bV rfl (e.rowAt (by omega) j5.row)) ?_;refine aG 2 ?_;refine cU 3 rfl (aF rfl ((ih m (by omega)).p5 _ _ _ _ _ hp5 hv2)) ?_;rintro r6 h6 ⟨y6,hp6,t6,hn6,ht6⟩;refine⟨fun _=>y6.mono (fun _ _ q=>.inl q),?_⟩;have z6:=y6.size;refine cU 4 rfl (aF rfl (fM (O:=fun b=>b<=h.size\/b=h2.size) v5 (fun b q=>by omega) (cL.of (bH j6 y6 (fun b hb q=>⟨fun q2=>q (by omega),q⟩))) (hn6.ext (Ext.refl (fun _=>False) _) (fun b hb q=>⟨fun q2=>q2,fun q2=>q (by omega)⟩)))) ?_;rintro r8 h8 ⟨hn8,e8⟩;refine⟨fun _=>e8.of,?_⟩;have z8:=e8.size;obtain⟨mk,mt,ma,mn,mc,rfl,hr8⟩:=hn8.get;refine iA 5 rfl (aK rfl rfl (((j5.ext y6 (show ¬h2.size=c.pb by omega)).ah e8)) jH) ?_;rintro _ h9 ⟨rfl,k9,x9,z9⟩;refine⟨nofun,?_⟩;refine gV ?_;refine af ?_;exact ihL (m,.mk 5 v5 [u,v2],s3) ⟨by omega,hm,⟨(hp6.ah e8).ext x9 (fun b hb q=>by omega),((j2.trans y6).trans e8.of).aW x9 (fun b hb q=>by omega),((j3.ext y6 (show ¬h.size=c.pb by omega)).ah e8).ext x9 (show ¬h.size=h2.size by omega),j4,mk,mt,ma,mn,mc,_,k9,bH hr8 x9 (fun b hb q=>⟨fun q2=>q (.inr q2),q⟩),fun q=>by rw[j7 (eF hv2 q),ht6 q]⟩⟩ (Nat.lt_succ_self _)
theorem zN (ih:∀m,m<=n->zM m):Ct 201 [] (.part 5) (n+1):=by
 intro c h s t s' hp hm;have hpl:=hp.lt;obtain⟨o1,o2⟩:=hp.old;rw[pM,if_neg (by decide),if_neg (by decide),if_neg (by decide)] at hm;obtain⟨v,s1,hv,hm⟩:=aD hm;refine bP ?_;refine af ?_;refine xo rfl (cm) ?_;rintro _ h1 ⟨rfl,k1,e1,z1⟩;refine af ?_;refine xo rfl (aF rfl ((ih n (Nat.le_refl _)).p6 _ _ _ _ _ (hp.ah e1) hv)) ?_;rintro r2 h2 ⟨y2,hp2,t2,hn2,uC⟩;obtain⟨nk,nt,na,nn,nc,rfl,hr2⟩:=hn2.get;refine xo rfl (cm) ?_;rintro _ h3 ⟨rfl,k3,e3,z3⟩;refine aH rfl (aK rfl rfl k3 jH) ?_;rintro _ h4 ⟨rfl,k4,x4,z4⟩;have z2:=y2.size;have x24:Ext (fun b=>b=h2.size) h2 h4:=e3.of.trans x4;have hI:BV c h h4 h2.size v s1:=⟨(hp2.ah e3).ext x4 (fun b hb q=>by omega),((e1.of.trans y2).trans e3.of).aW x4 (fun b hb q=>by omega),((k1.ext y2 (by omega)).ah e3).ext x4 (show ¬h.size=h2.size by omega),by omega,nk,nt,na,nn,nc,t2,k4,bH hr2 x24 (fun b hb q=>⟨fun q2=>by omega,fun q2=>q (by omega)⟩),uC⟩
 refine af ?_;refine gJ (σ:=Nat×Tr×PS) (fun _=>[]) (fun w g=>w.1<=n/\pM c.e w.1 (.opL 5 w.2.1) w.2.2=some (t,s')/\BV c h g h2.size w.2.1 w.2.2) (fun w=>w.1) ((n,v,s1)) ⟨Nat.le_refl _,hm,hI⟩ rfl ?_;rintro⟨m,u,sI⟩ g ⟨hmn,hm,hI⟩ ihL
 try dsimp only
 obtain⟨m,rfl⟩:∃m',m=m'+1:=by cases m with|zero=>cases hm|succ m=>exact⟨m,rfl⟩
 rw[pM,Md] at hm;refine af ?_;refine xo rfl (jG [_,_,_]) ?_;rintro _ w5 ⟨rfl,hw5⟩;have y5:aq g w5:=by rw[hw5];exact Ext.push _ _ _
 have ts5:aY nG w5 (fun _=>False) (.slice (some ⟨Array.size g,0,none⟩) 3 3) Af:=by rw[hw5];exact bw _ Af _ rfl (by simp[maxLen]) rfl
 refine xo rfl (aF rfl (bu (hI.st.ah y5) 6 ts5)) ?_;rintro _ h5 ⟨rfl,hp5,x5⟩;have x5:=y5.of.trans x5
 rcases hq5:cY 6 Af sI with ⟨o5,s5⟩
 rw[hq5] at hp5 hm
 rcases o5 with _|v5
 · simp only at hm;obtain⟨rfl,rfl⟩:u=t/\s5=s':=by cases hm;exact⟨rfl,rfl⟩
   refine af ?_;refine eu rfl (by simp) ?_;have hI2:=hI.mv hpl x5 hp5 (fun q=>bK hq5 q);obtain⟨j1,j2,j3,j4,jk,jx,ja,jn,jc,ju,j5,j6,j7⟩:=hI2;refine af ?_;refine xp rfl (bV rfl j5.row) ?_;refine aH rfl (aK rfl rfl j3 jH) ?_;rintro _ hz ⟨rfl,kz,xz,zz⟩;refine af ?_;refine bF (br rfl kz.row bE) ?_;exact⟨_,rfl,bA hp j2 j1 (cL.of (bH j6 (Ext.refl (fun _=>False) _) (fun b hb q=>⟨fun q2=>q2,fun q2=>q (.inl q2)⟩))) j7 xz⟩
 · simp only at hm;obtain⟨v2,s3,hv2,hm⟩:=aD hm;rw[if_neg (by decide)] at hm;refine af ?_;refine eC rfl (by simp) ?_;have hI2:=hI.mv hpl x5 hp5 (fun q=>bK hq5 q);obtain⟨j1,j2,j3,j4,jk,jx,ja,jn,jc,ju,j5,j6,j7⟩:=hI2;have j5l:=j5.lt;have j2z:=j2.size;refine af ?_;refine kH 6 (fun b=>b=c.pb\/Array.size h5<=b) (fun i=>Nat.blt i 5) ?_;refine aG 0 ?_;refine bC 1 rfl (fun h' e=>bV rfl (e.rowAt (by omega) j5.row)) ?_;refine aG 2 ?_;refine cU 3 rfl (aF rfl ((ih m (by omega)).p6 _ _ _ _ _ hp5 hv2)) ?_;rintro r6 h6 ⟨y6,hp6,t6,hn6,ht6⟩;refine⟨fun _=>y6.mono (fun _ _ q=>.inl q),?_⟩;have z6:=y6.size;refine cU 4 rfl (aF rfl (fM (O:=fun b=>b<=h.size\/b=h2.size) v5 (fun b q=>by omega) (cL.of (bH j6 y6 (fun b hb q=>⟨fun q2=>q (by omega),q⟩))) (hn6.ext (Ext.refl (fun _=>False) _) (fun b hb q=>⟨fun q2=>q2,fun q2=>q (by omega)⟩)))) ?_;rintro r8 h8 ⟨hn8,e8⟩;refine⟨fun _=>e8.of,?_⟩;have z8:=e8.size;obtain⟨mk,mt,ma,mn,mc,rfl,hr8⟩:=hn8.get;refine iA 5 rfl (aK rfl rfl (((j5.ext y6 (show ¬h2.size=c.pb by omega)).ah e8)) jH) ?_;rintro _ h9 ⟨rfl,k9,x9,z9⟩;refine⟨nofun,?_⟩;refine gV ?_;refine af ?_;exact ihL (m,.mk 5 v5 [u,v2],s3) ⟨by omega,hm,⟨(hp6.ah e8).ext x9 (fun b hb q=>by omega),((j2.trans y6).trans e8.of).aW x9 (fun b hb q=>by omega),((j3.ext y6 (show ¬h.size=c.pb by omega)).ah e8).ext x9 (show ¬h.size=h2.size by omega),j4,mk,mt,ma,mn,mc,_,k9,bH hr8 x9 (fun b hb q=>⟨fun q2=>q (.inr q2),q⟩),fun q=>by rw[j7 (eF hv2 q),ht6 q]⟩⟩ (Nat.lt_succ_self _)
theorem s8 (ih:∀m,m<=n->zM m):Ct 182 [] (.part 3) (n+1):=by
 intro c h s t s' hp hm;have hpl:=hp.lt;obtain⟨o1,o2⟩:=hp.old;rw[pM,if_neg (by decide),if_neg (by decide),if_neg (by decide)] at hm;obtain⟨v,s1,hv,hm⟩:=aD hm;refine bP ?_;refine af ?_;refine xo rfl (cm) ?_;rintro _ h1 ⟨rfl,k1,e1,z1⟩;refine af ?_;refine xo rfl (aF rfl ((ih n (Nat.le_refl _)).p4 _ _ _ _ _ (hp.ah e1) hv)) ?_;rintro r2 h2 ⟨y2,hp2,t2,hn2,uC⟩;obtain⟨nk,nt,na,nn,nc,rfl,hr2⟩:=hn2.get;refine xo rfl (cm) ?_;rintro _ h3 ⟨rfl,k3,e3,z3⟩;refine aH rfl (aK rfl rfl k3 jH) ?_;rintro _ h4 ⟨rfl,k4,x4,z4⟩;have z2:=y2.size;have x24:Ext (fun b=>b=h2.size) h2 h4:=e3.of.trans x4;have hI:BV c h h4 h2.size v s1:=⟨(hp2.ah e3).ext x4 (fun b hb q=>by omega),((e1.of.trans y2).trans e3.of).aW x4 (fun b hb q=>by omega),((k1.ext y2 (by omega)).ah e3).ext x4 (show ¬h.size=h2.size by omega),by omega,nk,nt,na,nn,nc,t2,k4,bH hr2 x24 (fun b hb q=>⟨fun q2=>by omega,fun q2=>q (by omega)⟩),uC⟩
 obtain⟨m,rfl⟩:∃m',n=m'+1:=by cases n with|zero=>cases hm|succ m=>exact⟨m,rfl⟩
 rw[pM,Mf] at hm;refine af ?_;refine xo rfl (jG [_,_,_,_,_,_]) ?_;rintro _ w5 ⟨rfl,hw5⟩;have y5:aq h4 w5:=by rw[hw5];exact Ext.push _ _ _
 have ts5:aY nG w5 (fun _=>False) (.slice (some ⟨Array.size h4,0,none⟩) 6 6) FU:=by rw[hw5];exact bw _ FU _ rfl (by simp[maxLen]) rfl
 refine xo rfl (aF rfl (bu (hI.st.ah y5) 6 ts5)) ?_;rintro _ h5 ⟨rfl,hp5,x5⟩;have x5:=y5.of.trans x5
 rcases hq5:cY 6 FU s1 with ⟨o5,s5⟩
 rw[hq5] at hp5 hm
 rcases o5 with _|v5
 · simp only at hm;obtain⟨rfl,rfl⟩:v=t/\s5=s':=by cases hm;exact⟨rfl,rfl⟩
   refine af ?_;refine eC rfl (by simp) ?_;have hI2:=hI.mv hpl x5 hp5 (fun q=>bK hq5 q);obtain⟨j1,j2,j3,j4,jk,jx,ja,jn,jc,ju,j5,j6,j7⟩:=hI2;refine af ?_;refine xp rfl (bV rfl j5.row) ?_;refine aH rfl (aK rfl rfl j3 jH) ?_;rintro _ hz ⟨rfl,kz,xz,zz⟩;refine af ?_;refine bF (br rfl kz.row bE) ?_;exact⟨_,rfl,bA hp j2 j1 (cL.of (bH j6 (Ext.refl (fun _=>False) _) (fun b hb q=>⟨fun q2=>q2,fun q2=>q (.inl q2)⟩))) j7 xz⟩
 · simp only at hm;obtain⟨v2,s3,hv2,hm⟩:=aD hm;rw[if_pos trivial] at hm;obtain⟨rfl,rfl⟩:Tr.mk 5 v5 [v,v2]=t/\s3=s':=by cases hm;exact⟨rfl,rfl⟩
   refine af ?_;refine eu rfl (by simp) ?_;have hI2:=hI.mv hpl x5 hp5 (fun q=>bK hq5 q);obtain⟨j1,j2,j3,j4,jk,jx,ja,jn,jc,ju,j5,j6,j7⟩:=hI2;have j5l:=j5.lt;have j2z:=j2.size;refine af ?_;refine kH 6 (fun b=>b=c.pb\/Array.size h5<=b) (fun i=>Nat.blt i 5) ?_;refine aG 0 ?_;refine bC 1 rfl (fun h' e=>bV rfl (e.rowAt (by omega) j5.row)) ?_;refine aG 2 ?_;refine cU 3 rfl (aF rfl ((ih m (by omega)).p4 _ _ _ _ _ hp5 hv2)) ?_;rintro r6 h6 ⟨y6,hp6,t6,hn6,ht6⟩;refine⟨fun _=>y6.mono (fun _ _ q=>.inl q),?_⟩;have z6:=y6.size;refine cU 4 rfl (aF rfl (fM (O:=fun b=>b<=h.size\/b=h2.size) v5 (fun b q=>by omega) (cL.of (bH j6 y6 (fun b hb q=>⟨fun q2=>q (by omega),q⟩))) (hn6.ext (Ext.refl (fun _=>False) _) (fun b hb q=>⟨fun q2=>q2,fun q2=>q (by omega)⟩)))) ?_;rintro r8 h8 ⟨hn8,e8⟩;refine⟨fun _=>e8.of,?_⟩;have z8:=e8.size;obtain⟨mk,mt,ma,mn,mc,rfl,hr8⟩:=hn8.get;refine iA 5 rfl (aK rfl rfl (((j3.ext y6 (show ¬h.size=c.pb by omega)).ah e8)) jH) ?_;rintro _ h9 ⟨rfl,k9,x9,z9⟩;refine⟨nofun,?_⟩;refine gV ?_;refine bF (br rfl k9.row bE) ?_;exact⟨_,rfl,bA hp ((j2.trans y6).trans e8.of) (hp6.ah e8) (cL.of (bH hr8 (Ext.refl (fun _=>False) _) (fun b hb q=>⟨fun q2=>q2,fun q2=>q (.inl q2)⟩))) (fun q=>by rw[j7 (eF hv2 q),ht6 q]) x9⟩
theorem zQ (ih:∀m,m<=n->zM m):Ct 205 [] (.part 7) (n+1):=by
 intro c h s t s' hp hm;have hpl:=hp.lt;obtain⟨o1,o2⟩:=hp.old;rw[pM,if_pos rfl] at hm;obtain⟨v,s1,hv,hm⟩:=aD hm;refine bP ?_;refine af ?_;refine xo rfl (cm) ?_;rintro _ h1 ⟨rfl,k1,e1,z1⟩;refine af ?_;refine xo rfl (aF rfl ((ih n (Nat.le_refl _)).atom _ _ _ _ _ (hp.ah e1) hv)) ?_;rintro r2 h2 ⟨y2,hp2,t2,hn2,uC⟩;obtain⟨nk,nt,na,nn,nc,rfl,hr2⟩:=hn2.get;refine xo rfl (cm) ?_;rintro _ h3 ⟨rfl,k3,e3,z3⟩;refine aH rfl (aK rfl rfl k3 jH) ?_;rintro _ h4 ⟨rfl,k4,x4,z4⟩;have z2:=y2.size;have x24:Ext (fun b=>b=h2.size) h2 h4:=e3.of.trans x4;have hI:BV c h h4 h2.size v s1:=⟨(hp2.ah e3).ext x4 (fun b hb q=>by omega),((e1.of.trans y2).trans e3.of).aW x4 (fun b hb q=>by omega),((k1.ext y2 (by omega)).ah e3).ext x4 (show ¬h.size=h2.size by omega),by omega,nk,nt,na,nn,nc,t2,k4,bH hr2 x24 (fun b hb q=>⟨fun q2=>by omega,fun q2=>q (by omega)⟩),uC⟩
 refine af ?_;refine gJ (σ:=Nat×Tr×PS) (fun _=>[]) (fun w g=>w.1<=n/\pM c.e w.1 (.callL w.2.1) w.2.2=some (t,s')/\BV c h g h2.size w.2.1 w.2.2) (fun w=>w.1) ((n,v,s1)) ⟨Nat.le_refl _,hm,hI⟩ rfl ?_;rintro⟨m,u,sI⟩ g ⟨hmn,hm,hI⟩ ihL
 try dsimp only
 obtain⟨m,rfl⟩:∃m',m=m'+1:=by cases m with|zero=>cases hm|succ m=>exact⟨m,rfl⟩
 rw[pM] at hm;refine af ?_;refine xo rfl (jG [_]) ?_;rintro _ w5 ⟨rfl,hw5⟩;have y5:aq g w5:=by rw[hw5];exact Ext.push _ _ _
 have ts5:aY nG w5 (fun _=>False) (.slice (some ⟨Array.size g,0,none⟩) 1 1) [[40]]:=by rw[hw5];exact bw _ [[40]] _ rfl (by simp[maxLen]) rfl
 refine xo rfl (aF rfl (bu (hI.st.ah y5) 7 ts5)) ?_;rintro _ h5 ⟨rfl,hp5,x5⟩;have x5:=y5.of.trans x5
 rcases hq5:cY 7 [[40]] sI with ⟨o5,s5⟩
 rw[hq5] at hp5 hm
 rcases o5 with _|v5
 · simp only at hm;obtain⟨rfl,rfl⟩:u=t/\s5=s':=by cases hm;exact⟨rfl,rfl⟩
   refine af ?_;refine eu rfl (by simp) ?_;have hI2:=hI.mv hpl x5 hp5 (fun q=>bK hq5 q);obtain⟨j1,j2,j3,j4,jk,jx,ja,jn,jc,ju,j5,j6,j7⟩:=hI2;refine af ?_;refine xp rfl (bV rfl j5.row) ?_;refine aH rfl (aK rfl rfl j3 jH) ?_;rintro _ hz ⟨rfl,kz,xz,zz⟩;refine af ?_;refine bF (br rfl kz.row bE) ?_;exact⟨_,rfl,bA hp j2 j1 (cL.of (bH j6 (Ext.refl (fun _=>False) _) (fun b hb q=>⟨fun q2=>q2,fun q2=>q (.inl q2)⟩))) j7 xz⟩
 · simp only at hm;refine af ?_;refine eC rfl (by simp) ?_;have hI5:=hI.mv hpl x5 hp5 (fun q=>bK hq5 q);refine af ?_;refine gJ (σ:=Nat×Tr×PS) (fun _=>[]) (fun w g=>w.1<=m/\pM c.e w.1 (.argL w.2.1) w.2.2=some (t,s')/\BV c h g h2.size w.2.1 w.2.2) (fun w=>w.1) ((m,u,s5)) ⟨Nat.le_refl _,hm,hI5⟩ rfl ?_;rintro⟨m2,u2,sJ⟩ g2 ⟨hmn2,hm,hJ⟩ ihA
   try dsimp only
   obtain⟨m2,rfl⟩:∃m',m2=m'+1:=by cases m2 with|zero=>cases hm|succ m=>exact⟨m,rfl⟩
   rw[pM] at hm;obtain⟨v2,s3,hv2,hm⟩:=aD hm;obtain⟨j1,j2,j3,j4,jk,jx,ja,jn,jc,ju,j5,j6,j7⟩:=hJ;have j5l:=j5.lt;have j2z:=j2.size;refine af ?_;refine kH 6 (fun b=>b=c.pb\/Array.size g2<=b) (fun i=>Nat.blt i 5) ?_;refine bC 0 rfl (fun h' e=>bV rfl (e.rowAt (by omega) j5.row)) ?_;refine aG 1 ?_;refine cU 2 rfl (aF rfl ((ih m2 (by omega)).expr _ _ _ _ _ j1 hv2)) ?_;rintro r6 h6 ⟨y6,hp6,t6,hn6,ht6⟩;refine⟨fun _=>y6.mono (fun _ _ q=>.inl q),?_⟩;have z6:=y6.size;obtain⟨mk,mt,ma,mn,mc,rfl,hr6⟩:=hn6.get;refine cU 3 rfl (aT.kR underlying25 H.Hw ([[.int .i64 jk,.string (bs jx),.slice ja jn jc],[.int .i64 mk,.string (bs mt),.slice ma mn mc]]) rfl rfl (by decide) (by simp<;>repeat' (first|rfl|constructor))) ?_;rintro _ h8 ⟨rfl,hh8⟩;refine⟨fun _=>(by rw[hh8];exact Ext.push _ _ _),?_⟩;have e8:aq h6 h8:=by rw[hh8];exact Ext.push _ _ _
   have z8:h8.size=h6.size+1:=by rw[hh8];simp
   have hs8:cy eN (fun b=>b<=h.size\/b=h2.size) h8 h6.size 27 (.slice (some ⟨h6.size,0,none⟩) 2 2) [ju,t6]:=by
    rw[hh8];exact pQ (bH j6 y6 (fun b hb q=>⟨fun q2=>q (by omega),q⟩)) (bH hr6 (Ext.refl (fun _=>False) _) (fun b hb q=>⟨fun q2=>q2,fun q2=>q (by omega)⟩)) (Nat.le_refl _)
   have hs8':aY eN h8 (fun b=>b<=h.size\/b=h2.size) (.slice (some ⟨h6.size,0,none⟩) 2 2) [ju,t6]:=hs8.read (fun b hb q=>by omega) (fun b hb q=>q);refine bC 4 rfl (fun h' e=>au (H.BD _ _ _ _) rfl) ?_;refine iA 5 rfl (aK rfl rfl (((j5.ext y6 (show ¬h2.size=c.pb by omega)).ah e8)) jH) ?_;rintro _ h9 ⟨rfl,k9,x9,z9⟩;refine⟨nofun,?_⟩;have k9:aC h9 h2.size 27 [.int .i64 9,.string (bs []),.slice (some ⟨h6.size,0,none⟩) 2 2]:=k9;have hI9:BV c h h9 h2.size (.mk 9 [] [u2,v2]) s3:=⟨(hp6.ah e8).ext x9 (fun b hb q=>by omega),((j2.trans y6).trans e8.of).aW x9 (fun b hb q=>by omega),((j3.ext y6 (show ¬h.size=c.pb by omega)).ah e8).ext x9 (show ¬h.size=h2.size by omega),j4,_,_,_,_,_,_,k9,jU (hs8'.mv (Mv.cg x9 fun b hb q=>⟨fun q2=>q (.inr q2),q⟩)),fun q=>by rw[j7 (eF hv2 q),ht6 q]⟩
   refine gV ?_;refine af ?_;refine xo rfl (jG [_]) ?_;rintro _ w10 ⟨rfl,hw10⟩;have y10:aq h9 w10:=by rw[hw10];exact Ext.push _ _ _
   have ts10:aY nG w10 (fun _=>False) (.slice (some ⟨Array.size h9,0,none⟩) 1 1) [[44]]:=by rw[hw10];exact bw _ [[44]] _ rfl (by simp[maxLen]) rfl
   refine xo rfl (aF rfl (bu (hI9.st.ah y10) 6 ts10)) ?_;rintro _ h10 ⟨rfl,hp10,x10⟩;have x10:=y10.of.trans x10
   rcases hq10:cY 6 [[44]] s3 with ⟨o10,s10⟩
   rw[hq10] at hp10 hm;have hI10:=hI9.mv hpl x10 hp10 (fun q=>bK hq10 q)
   rcases o10 with _|v10
   · simp only at hm;refine af ?_;refine eu rfl (by simp) ?_;refine af ?_;refine xo rfl (aF rfl (gi hp10 8 [41])) ?_;rintro _ h11 ⟨hp11,x11⟩;have hI11:=hI10.mv hpl x11 hp11 (fun q=>oD q);refine af ?_;exact ihL (m2,.mk 9 [] [u2,v2],_) ⟨by omega,hm,hI11⟩
   · simp only at hm;refine af ?_;refine eC rfl (by simp) ?_;refine af ?_;exact ihA (m2,.mk 9 [] [u2,v2],_) ⟨by omega,hm,hI10⟩
structure DU (c:PC) (h g:aj) (b3:Nat) (K:Int) (l:List Tr) (kv:Value) (s1:PS):Prop where
 st:qw c g s1
 ext:Ext (fun b=>b=c.pb) h g
 res:aC g h.size 27 [.int .i64 0,.string (bs []),.slice none 0 0]
 lt:h.size<b3
 nd:aC g b3 27 [.int .i64 K,.string (bs []),kv]
 row:cy eN (fun b=>b<=h.size\/b=b3) g (h.size+1) 27 kv l
 own:∀b,kv.ownBlock=some b->h.size<b/\b≠b3/\b<g.size
 sl:∃a m d,kv= .slice a m d
theorem DU.mv {g':aj}{K:Int}{kv:Value}{s2:PS}(k:DU c h g b3 K l kv s1) (hp:c.pb<h.size) (x:Ext (fun b=>b=c.pb) g g') (hs:qw c g' s2):DU c h g' b3 K l kv s2:=by
 obtain⟨k1,k2,k3,k4,k5,k6,k7,k8⟩:=k;have:=x.size;exact⟨hs,k2.trans x,k3.ext x (by omega),k4,k5.ext x (by omega),k6.oZ x (fun b q q2=>by have:=k7 b q;omega) (fun b hb q=>by omega) (fun _ _ q=>q),fun b q=>by have:=k7 b q;omega,k8⟩
theorem DU.tell {K:Int}{kv:Value}(k:DU c h g b3 K l kv s1):cL g (fun b=>b<=h.size) (.agg #[.int .i64 K,.string (bs []),kv]) (.mk K [] l) :=
 cL.shut (k.row.read (fun b hb q=>by omega) (fun b hb q=>.inl q))
theorem xR (ih:∀m,m<=n->zM m):Ct 145 [] .block (n+1):=by
 intro c h s t s' hp hm;have hpl:=hp.lt;obtain⟨o1,o2⟩:=hp.old;rw[pM] at hm;refine bP ?_;refine af ?_;refine xo rfl (cm) ?_;rintro _ h1 ⟨rfl,k1,e1,z1⟩;refine af ?_;refine xo rfl (aF rfl (gi (hp.ah e1) 7 [123])) ?_;rintro _ h2 ⟨hp2,x2⟩;have z2:=x2.size;refine af ?_;refine xp rfl (au (H.La _) rfl) ?_;refine xo rfl (cm) ?_;rintro _ h3 ⟨rfl,k3,e3,z3⟩;refine aH rfl (aK rfl rfl k3) ?_;rintro _ h4 ⟨rfl,k4,x4,z4⟩;have hs4:=hp2.short
 have hsl:(dS c.e 7 [123] s).cJ=false->(dS c.e 7 [123] s).len+1<=c.us.length:=fun q=>by
  have:=hp.short;unfold dS at q ⊢
  rcases hq:cY 7 [[123]] s with ⟨o,s1⟩
  rw[hq] at q;cases o with
  |none=>rw[oO] at q;cases q
  |some x=>have:=p8 hq;simp only;omega
 have hK4:DU c h h4 h2.size 10 [] (.slice none 0 0) (dS c.e 7 [123] s):=⟨(hp2.ah e3).ext x4 (fun b hb q=>by omega),((e1.of.trans x2).trans e3.of).aW x4 (fun i hi q=>by omega),((k1.ext x2 (show ¬h.size=c.pb by omega)).ah e3).ext x4 (show ¬h.size=h2.size by omega),by omega,k4,cy.nil _ _ _ _ _,fun b q=>(by cases q),⟨_,_,_,rfl⟩⟩
 refine af ?_;refine gJ (σ:=Nat×List Tr×Value×PS) (fun _=>[]) (fun w g=>DU c h g h2.size 10 w.2.1 w.2.2.1 w.2.2.2/\(w.2.2.2.cJ=true->w.2.2.2=s')/\(w.2.2.2.cJ=false->w.1<=n/\pM c.e w.1 (.blockL w.2.1) w.2.2.2=some (t,s')/\w.2.1.length+w.2.2.2.len+1<=c.us.length)) (fun w=>w.1) ((n,[],.slice none 0 0,dS c.e 7 [123] s)) ⟨hK4,fun q=>by obtain⟨k,hk⟩:∃k,dS c.e 7 [123] s= .bad k:=by { cases hq:dS c.e 7 [123] s with|ok r=>rw[hq] at q;cases q|bad k=>exact⟨k,rfl⟩ };rw[hk] at hm ⊢;exact(Gv hm).symm,fun q=>⟨Nat.le_refl _,hm,by have:=hsl q;simp only[List.length_nil];omega⟩⟩ rfl ?_;rintro⟨m,l,kv,sI⟩ g ⟨hI,hbad,hok⟩ ihL
 try dsimp only
 obtain⟨pi,pbb,pm,pk,_,_,ps,_⟩:=id hI.st;refine af ?_;refine xp rfl (az rfl (pk.cell (i:=3) rfl)) ?_;refine af ?_
 rcases sI with r|q
 · obtain⟨rfl,_⟩:=ps;obtain⟨hmn,hm,hlen⟩:=hok rfl;obtain⟨m,rfl⟩:∃m',m=m'+1:=by cases m with|zero=>cases hm|succ m=>exact⟨m,rfl⟩
   rw[pM] at hm;obtain⟨v,s2,hv,hm⟩:=aD hm;have hsh:=hI.st.short;refine eu rfl (by simp) ?_;obtain⟨i1,i2,i3,i4,i5,i6,i7,_⟩:=id hI;have i5l:=i5.lt;have i2z:=i2.size
   have hM:¬(h2.size=c.pb\/cu (kv).ownBlock h2.size\/Array.size g<=h2.size):=fun q=>by
    rcases q with q|q|q
    · omega
    · have:=i7 _ q.symm;omega
    · omega
   refine af ?_;refine kH 8 (fun b=>b=c.pb\/cu (kv).ownBlock b\/Array.size g<=b) (fun i=>Nat.blt i 7) ?_;refine aG 0 ?_;refine bC 1 rfl (fun h' e=>az rfl (e.cell hM (i5.cell (i:=2) rfl))) ?_;refine aG 2 ?_;refine cU 3 rfl (aF rfl ((ih m (by omega)).stmt _ _ _ _ _ i1 hv)) ?_;rintro r6 h6 ⟨y6,hp6,t6,hn6,ht6⟩;refine⟨fun _=>y6.mono (fun _ _ q=>.inl q),?_⟩;have z6:=y6.size;obtain⟨mk,mt,ma,mn,mc,rfl,hr6⟩:=hn6.get;have ho6:=i6.oZ y6 (fun b q q2=>by have:=i7 b q;omega) (fun b hb q=>by omega) (fun _ _ q=>q);obtain⟨css,hc1,hc2,hc3⟩:=id ho6;refine cU 4 rfl (sH) ?_;rintro _ _ ⟨rfl,rfl⟩;refine⟨fun _=>by first|exact Ext.push _ _ _|assumption,?_⟩;refine cU 5 rfl (wC rfl rfl hc2 rfl rfl) ?_;rintro v7 h7 ⟨ho7,hx7,hx7',hv7⟩;refine⟨fun _=>hx7'.mono (fun b _ q=>.inr (.inl q)),?_⟩;have z7:=hx7.size;obtain⟨va,vm,vc,rfl⟩:=sL ho7;refine aG 6 ?_;refine iA 7 rfl (kY rfl rfl (((i5.ext y6 (show ¬h2.size=c.pb by omega)).ext hx7 (fun q=>by have:=i7 _ q.symm;omega)))) ?_;rintro _ h8 ⟨rfl,k8,x8,z8⟩;refine⟨nofun,?_⟩
   have hr6':eN.R h6 (fun b=>cu (kv).ownBlock b\/(b<=h.size\/b=h2.size)) [.int .i64 mk,.string (bs mt),.slice ma mn mc] t6:=bH hr6 (Ext.refl (fun _=>False) _) (fun b hb q=>⟨fun k=>k,fun q2=>by
    rcases q2 with q2|q2
    · have:=i7 _ q2.symm;omega
    · omega⟩)
   have ho7x:cy eN (fun b=>b<=h.size\/b=h2.size) h7 (h.size+1) 27 (.slice va vm vc) (l++[t6]):=cy.fC hc1 hc3 ho7 hx7 hv7 hr6'
   have hown7:∀b,(Value.slice va vm vc).ownBlock=some b->h.size<b/\b≠h2.size/\b<h7.size:=fun b q=>by
    have hl:=(ho7.lt q).2
    rcases hv7 b q with q2|q2
    · have:=i7 b q2;omega
    · omega
   have hK:DU c h h8 h2.size 10 (l++[t6]) (.slice va vm vc) s2:=DU.mk ((hp6.ext hx7 (fun b hb q=>by have:=i7 _ q.symm;omega)).ext x8 (fun b hb q=>by omega)) (((i2.trans y6).aW hx7 (fun i hi q=>by have:=i7 _ q.symm;omega)).aW x8 (fun i hi q=>by omega)) (((i3.ext y6 (show ¬h.size=c.pb by omega)).ext hx7 (fun q=>by have:=i7 _ q.symm;omega)).ext x8 (show ¬h.size=h2.size by omega)) i4 k8 (ho7x.oZ x8 (fun b q q2=>by have:=hown7 b q;omega) (fun b hb q=>.inr q) (fun _ _ q=>q)) (fun b q=>by have:=hown7 b q;omega) ⟨_,_,_,rfl⟩;have hvl:=Gu hv;refine gV ?_;refine af ?_;refine xo rfl (jG [_]) ?_;rintro _ w9 ⟨rfl,hw9⟩;have y9:aq h8 w9:=by rw[hw9];exact Ext.push _ _ _
   have ts9:aY nG w9 (fun _=>False) (.slice (some ⟨Array.size h8,0,none⟩) 1 1) [[59]]:=by rw[hw9];exact bw _ [[59]] _ rfl (by simp[maxLen]) rfl
   refine xo rfl (aF rfl (bu (hK.st.ah y9) 6 ts9)) ?_;rintro _ h9 ⟨rfl,hp9,x9⟩;have x9:=y9.of.trans x9
   rcases hq9:cY 6 [[59]] s2 with ⟨o9,s9⟩
   rw[hq9] at hp9 hm;have hK9:=hK.mv hpl x9 hp9;simp only at hm;refine af ?_;refine xo rfl (jG [_]) ?_;rintro _ w10 ⟨rfl,hw10⟩;have y10:aq h9 w10:=by rw[hw10];exact Ext.push _ _ _
   have ts10:aY nG w10 (fun _=>False) (.slice (some ⟨Array.size h9,0,none⟩) 1 1) [[125]]:=by rw[hw10];exact bw _ [[125]] _ rfl (by simp[maxLen]) rfl
   refine xo rfl (aF rfl (bu (hK9.st.ah y10) 8 ts10)) ?_;rintro _ h10 ⟨rfl,hp10,x10⟩;have x10:=y10.of.trans x10
   rcases hq10:cY 8 [[125]] s9 with ⟨o10,s10⟩
   rw[hq10] at hp10 hm;have hK10:=hK9.mv hpl x10 hp10
   rcases o10 with _|v10
   · simp only at hm;have e10:=dO hq10;refine af ?_;refine eC rfl (by simp) ?_
     rcases o9 with _|v9
     · simp only[Option.isSome_none,Bool.false_and,Bool.false_eq_true,if_false] at hm;refine af ?_;refine eu rfl (by simp) ?_;refine af ?_;refine xo rfl (aF rfl (dR hK10.st)) ?_;rintro _ h11 ⟨rfl,hp11,x11⟩;have hK11:=hK10.mv hpl x11 hp11;have hs':cZ c.e s10=s':=by cases hm;rfl
       refine af ?_;exact ihL (m,l++[t6],_,_) ⟨hK11,fun _=>hs',fun q=>by have q:(cZ c.e s10).cJ=false:=q;rw[oO] at q;cases q⟩
     · obtain⟨u0,r0,hs2,hs9,_⟩:=uA hq9;subst hs9;subst e10;simp only[Option.isSome_some,PS.cJ,Bool.not_false,Bool.and_true,if_true] at hm;refine af ?_;refine eC rfl (by simp) ?_;refine af ?_;exact ihL (m,l++[t6],_,_) ⟨hK10,fun q=>(by cases q),fun _=>⟨by show m<=n;omega,by rw[ht6 (by rw[hs2];rfl)];exact hm,by have:=p8 hq9;simp only[List.length_append,List.length_singleton,PS.len] at this hvl hlen ⊢;omega⟩⟩
   · simp only at hm;obtain⟨rfl,rfl⟩:Tr.mk 10 [] (l++[v])=t/\s10=s':=by cases hm;exact⟨rfl,rfl⟩
     refine af ?_;refine eu rfl (by simp) ?_;refine af ?_;refine xp rfl (bV rfl hK10.nd.row) ?_;refine aH rfl (aK rfl rfl hK10.res jH) ?_;rintro _ hz ⟨rfl,kz,xz,zz⟩;refine af ?_;refine bF (br rfl kz.row bE) ?_;exact⟨_,rfl,bA hp hK10.ext hK10.st hK10.tell (fun q=>by rw[ht6 (bK hq9 (bK hq10 q))]) xz⟩
 · obtain⟨rfl,_⟩:=ps;obtain rfl:=hbad rfl;obtain⟨ka,km,kd,rfl⟩:=hI.sl;refine eC rfl (by simp) ?_;refine af ?_;refine xp rfl (bV rfl hI.nd.row) ?_;refine aH rfl (aK rfl rfl hI.res jH) ?_;rintro _ hz ⟨rfl,kz,xz,zz⟩;refine af ?_;refine bF (br rfl kz.row bE) ?_;exact⟨_,rfl,bA hp hI.ext hI.st hI.tell (fun q=>by cases q) xz⟩
theorem vS (ih:∀m,m<=n->zM m):Ct 112 [] .choice (n+1):=by
 intro c h s t s' hp hm;have hpl:=hp.lt;obtain⟨o1,o2⟩:=hp.old;rw[pM] at hm;obtain⟨va0,s1,hva,hm⟩:=aD hm;obtain⟨vb0,s2,hvb,hm⟩:=aD hm;refine bP ?_;refine af ?_;refine xo rfl (cm) ?_;rintro _ h1 ⟨rfl,k1,e1,z1⟩;refine af ?_;refine xo rfl (aF rfl ((ih n (Nat.le_refl _)).expr _ _ _ _ _ (hp.ah e1) hva)) ?_;rintro r2 h2 ⟨y2,hp2,t2,hn2,uC⟩;obtain⟨ak,at_,aa,an,ac,rfl,hr2⟩:=hn2.get;have z2:=y2.size;refine af ?_;refine xo rfl (aF rfl ((ih n (Nat.le_refl _)).block _ _ _ _ _ hp2 hvb)) ?_;rintro r3 h3 ⟨y3,hp3,t3,hn3,ht3⟩;obtain⟨bk,bt,ba,bn,bc,rfl,hr3⟩:=hn3.get;have z3:=y3.size;refine xo rfl (aT.kR underlying25 H.Hw ([[.int .i64 ak,.string (bs at_),.slice aa an ac],[.int .i64 bk,.string (bs bt),.slice ba bn bc]]) rfl rfl (by decide) (by simp<;>repeat' (first|rfl|constructor))) ?_;rintro _ h4 ⟨rfl,hh4⟩;have e4:aq h3 h4:=by rw[hh4];exact Ext.push _ _ _
 have z4:h4.size=h3.size+1:=by rw[hh4];simp
 have hs4:cy eN (fun b=>b<=h.size\/h3.size<=b) h4 (h.size+1) 27 (.slice (some ⟨h3.size,0,none⟩) 2 2) [t2,t3]:=by
  rw[hh4];exact pQ (bH hr2 y3 (fun b hb q=>⟨fun q2=>q (by omega),fun q2=>q (by omega)⟩)) (bH hr3 (Ext.refl (fun _=>False) _) (fun b hb q=>⟨fun q2=>q2,fun q2=>q (by omega)⟩)) (by omega)
 refine xp rfl (au (H.BD _ _ _ _) rfl) ?_;refine xo rfl (cm) ?_;rintro _ h5 ⟨rfl,k5,e5,z5⟩;refine aH rfl (aK rfl rfl k5) ?_;rintro _ h6 ⟨rfl,k6,x6,z6⟩;have x26:Ext (fun b=>b=h4.size) h4 h6:=e5.of.trans x6;have x06:Ext (fun b=>b=c.pb) h h6:=(((e1.of.trans y2).trans y3).trans e4.of).aW x26 (fun i hi q=>by omega);have hK6:DU c h h6 h4.size 6 [t2,t3] (.slice (some ⟨h3.size,0,none⟩) 2 2) s2:=⟨(hp3.ah e4).ext x26 (fun b hb q=>by omega),x06,(((k1.ext y2 (show ¬h.size=c.pb by omega)).ext y3 (show ¬h.size=c.pb by omega)).ah e4).ext x26 (show ¬h.size=h4.size by omega),by omega,k6,hs4.oZ x26 (fun b q q2=>by have:=jj q;omega) (fun b hb q=>by omega) (fun b hb q=>by omega),fun b q=>(by have:=jj q;omega),⟨_,_,_,rfl⟩⟩
 refine af ?_;refine xo rfl (aF rfl (gi hK6.st 4 Ag)) ?_;rintro _ h7 ⟨hp7,x7⟩;have hK7:=hK6.mv hpl x7 hp7;refine af ?_;refine xo rfl (jG [_]) ?_;rintro _ w9 ⟨rfl,hw9⟩;have y9:aq h7 w9:=by rw[hw9];exact Ext.push _ _ _
 have ts9:aY nG w9 (fun _=>False) (.slice (some ⟨Array.size h7,0,none⟩) 1 1) [Il]:=by rw[hw9];exact bw _ [Il] _ rfl (by simp[maxLen]) rfl
 refine xo rfl (aF rfl (bu (hK7.st.ah y9) 4 ts9)) ?_;rintro _ h9 ⟨rfl,hp9,x9⟩;have x9:=y9.of.trans x9
 rcases hq9:cY 4 [Il] (dS c.e 4 Ag s2) with ⟨o9,s9⟩
 rw[hq9] at hp9 hm;have hK9:=hK7.mv hpl x9 hp9
 have hgood:s9.cJ=false->t2=va0/\t3=vb0:=fun q=>by
  have q2:=oD (bK hq9 q);exact⟨uC (eF hvb q2),ht3 q2⟩
 rcases o9 with _|v9
 · simp only at hm;obtain⟨vc0,s3,hvc,hm⟩:=aD hm;obtain⟨rfl,rfl⟩:Tr.mk 6 [] [va0,vb0,vc0]=t/\s3=s':=by cases hm;exact⟨rfl,rfl⟩
   refine af ?_;refine eC rfl (by simp) ?_;obtain⟨i1,i2,i3,i4,i5,i6,i7,_⟩:=id hK9;have i5l:=i5.lt;have i2z:=i2.size
   have hM:¬(h4.size=c.pb\/cu ((Value.slice (some ⟨h3.size,0,none⟩) 2 2)).ownBlock h4.size\/Array.size h9<=h4.size):=fun q=>by
    rcases q with q|q|q
    · omega
    · have:=i7 _ q.symm;omega
    · omega
   refine kH 8 (fun b=>b=c.pb\/cu ((Value.slice (some ⟨h3.size,0,none⟩) 2 2)).ownBlock b\/Array.size h9<=b) (fun i=>Nat.blt i 7) ?_;refine aG 0 ?_;refine bC 1 rfl (fun h' e=>az rfl (e.cell hM (i5.cell (i:=2) rfl))) ?_;refine aG 2 ?_;refine cU 3 rfl (aF rfl ((ih n (Nat.le_refl _)).block _ _ _ _ _ i1 hvc)) ?_;rintro r6 h6 ⟨y6,hp6,t6,hn6,ht6⟩;refine⟨fun _=>y6.mono (fun _ _ q=>.inl q),?_⟩;have z6:=y6.size;obtain⟨mk,mt,ma,mn,mc,rfl,hr6⟩:=hn6.get;have ho6:=i6.oZ y6 (fun b q q2=>by have:=i7 b q;omega) (fun b hb q=>by omega) (fun _ _ q=>q);obtain⟨css,hc1,hc2,hc3⟩:=id ho6;refine cU 4 rfl (sH) ?_;rintro _ _ ⟨rfl,rfl⟩;refine⟨fun _=>by first|exact Ext.push _ _ _|assumption,?_⟩;refine cU 5 rfl (wC rfl rfl hc2 rfl rfl (by simp) (by omega)) ?_;rintro v7 h7 ⟨ho7,hx7,hx7',hv7⟩;refine⟨fun _=>hx7'.mono (fun b _ q=>.inr (.inl q)),?_⟩;have z7:=hx7.size;obtain⟨va,vm,vc,rfl⟩:=sL ho7;refine aG 6 ?_;refine iA 7 rfl (kY rfl rfl (((i5.ext y6 (show ¬h4.size=c.pb by omega)).ext hx7 (fun q=>by have:=i7 _ q.symm;omega)))) ?_;rintro _ h8 ⟨rfl,k8,x8,z8⟩;refine⟨nofun,?_⟩
   have hr6':eN.R h6 (fun b=>cu ((Value.slice (some ⟨h3.size,0,none⟩) 2 2)).ownBlock b\/(b<=h.size\/b=h4.size)) [.int .i64 mk,.string (bs mt),.slice ma mn mc] t6:=bH hr6 (Ext.refl (fun _=>False) _) (fun b hb q=>⟨fun k=>k,fun q2=>by
    rcases q2 with q2|q2
    · have:=i7 _ q2.symm;omega
    · omega⟩)
   have ho7x:cy eN (fun b=>b<=h.size\/b=h4.size) h7 (h.size+1) 27 (.slice va vm vc) ([t2,t3]++[t6]):=cy.fC hc1 hc3 ho7 hx7 hv7 hr6'
   have hown7:∀b,(Value.slice va vm vc).ownBlock=some b->h.size<b/\b≠h4.size/\b<h7.size:=fun b q=>by
    have hl:=(ho7.lt q).2
    rcases hv7 b q with q2|q2
    · have:=i7 b q2;omega
    · omega
   have hK:DU c h h8 h4.size 6 ([t2,t3]++[t6]) (.slice va vm vc) s3:=DU.mk ((hp6.ext hx7 (fun b hb q=>by have:=i7 _ q.symm;omega)).ext x8 (fun b hb q=>by omega)) (((i2.trans y6).aW hx7 (fun i hi q=>by have:=i7 _ q.symm;omega)).aW x8 (fun i hi q=>by omega)) (((i3.ext y6 (show ¬h.size=c.pb by omega)).ext hx7 (fun q=>by have:=i7 _ q.symm;omega)).ext x8 (show ¬h.size=h4.size by omega)) i4 k8 (ho7x.oZ x8 (fun b q q2=>by have:=hown7 b q;omega) (fun b hb q=>.inr q) (fun _ _ q=>q)) (fun b q=>by have:=hown7 b q;omega) ⟨_,_,_,rfl⟩;refine gV ?_;refine af ?_;refine xp rfl (bV rfl hK.nd.row) ?_;refine aH rfl (aK rfl rfl hK.res jH) ?_;rintro _ hz ⟨rfl,kz,xz,zz⟩;refine af ?_;refine bF (br rfl kz.row bE) ?_;exact⟨_,rfl,bA hp hK.ext hK.st hK.tell (fun q=>by rw[ht6 q,(hgood (eF hvc q)).1,(hgood (eF hvc q)).2];rfl) xz⟩
 · simp only at hm;obtain⟨vc0,s3,hvc,hm⟩:=aD hm;obtain⟨rfl,rfl⟩:Tr.mk 6 [] [va0,vb0,vc0]=t/\s3=s':=by cases hm;exact⟨rfl,rfl⟩
   refine af ?_;refine eu rfl (by simp) ?_;obtain⟨i1,i2,i3,i4,i5,i6,i7,_⟩:=id hK9;have i5l:=i5.lt;have i2z:=i2.size
   have hM:¬(h4.size=c.pb\/cu ((Value.slice (some ⟨h3.size,0,none⟩) 2 2)).ownBlock h4.size\/Array.size h9<=h4.size):=fun q=>by
    rcases q with q|q|q
    · omega
    · have:=i7 _ q.symm;omega
    · omega
   refine kH 8 (fun b=>b=c.pb\/cu ((Value.slice (some ⟨h3.size,0,none⟩) 2 2)).ownBlock b\/Array.size h9<=b) (fun i=>Nat.blt i 7) ?_;refine aG 0 ?_;refine bC 1 rfl (fun h' e=>az rfl (e.cell hM (i5.cell (i:=2) rfl))) ?_;refine aG 2 ?_;refine cU 3 rfl (aF rfl ((ih n (Nat.le_refl _)).choice _ _ _ _ _ i1 hvc)) ?_;rintro r6 h6 ⟨y6,hp6,t6,hn6,ht6⟩;refine⟨fun _=>y6.mono (fun _ _ q=>.inl q),?_⟩;have z6:=y6.size;obtain⟨mk,mt,ma,mn,mc,rfl,hr6⟩:=hn6.get;have ho6:=i6.oZ y6 (fun b q q2=>by have:=i7 b q;omega) (fun b hb q=>by omega) (fun _ _ q=>q);obtain⟨css,hc1,hc2,hc3⟩:=id ho6;refine cU 4 rfl (sH) ?_;rintro _ _ ⟨rfl,rfl⟩;refine⟨fun _=>by first|exact Ext.push _ _ _|assumption,?_⟩;refine cU 5 rfl (wC rfl rfl hc2 rfl rfl (by simp) (by omega)) ?_;rintro v7 h7 ⟨ho7,hx7,hx7',hv7⟩;refine⟨fun _=>hx7'.mono (fun b _ q=>.inr (.inl q)),?_⟩;have z7:=hx7.size;obtain⟨va,vm,vc,rfl⟩:=sL ho7;refine aG 6 ?_;refine iA 7 rfl (kY rfl rfl (((i5.ext y6 (show ¬h4.size=c.pb by omega)).ext hx7 (fun q=>by have:=i7 _ q.symm;omega)))) ?_;rintro _ h8 ⟨rfl,k8,x8,z8⟩;refine⟨nofun,?_⟩
   have hr6':eN.R h6 (fun b=>cu ((Value.slice (some ⟨h3.size,0,none⟩) 2 2)).ownBlock b\/(b<=h.size\/b=h4.size)) [.int .i64 mk,.string (bs mt),.slice ma mn mc] t6:=bH hr6 (Ext.refl (fun _=>False) _) (fun b hb q=>⟨fun k=>k,fun q2=>by
    rcases q2 with q2|q2
    · have:=i7 _ q2.symm;omega
    · omega⟩)
   have ho7x:cy eN (fun b=>b<=h.size\/b=h4.size) h7 (h.size+1) 27 (.slice va vm vc) ([t2,t3]++[t6]):=cy.fC hc1 hc3 ho7 hx7 hv7 hr6'
   have hown7:∀b,(Value.slice va vm vc).ownBlock=some b->h.size<b/\b≠h4.size/\b<h7.size:=fun b q=>by
    have hl:=(ho7.lt q).2
    rcases hv7 b q with q2|q2
    · have:=i7 b q2;omega
    · omega
   have hK:DU c h h8 h4.size 6 ([t2,t3]++[t6]) (.slice va vm vc) s3:=DU.mk ((hp6.ext hx7 (fun b hb q=>by have:=i7 _ q.symm;omega)).ext x8 (fun b hb q=>by omega)) (((i2.trans y6).aW hx7 (fun i hi q=>by have:=i7 _ q.symm;omega)).aW x8 (fun i hi q=>by omega)) (((i3.ext y6 (show ¬h.size=c.pb by omega)).ext hx7 (fun q=>by have:=i7 _ q.symm;omega)).ext x8 (show ¬h.size=h4.size by omega)) i4 k8 (ho7x.oZ x8 (fun b q q2=>by have:=hown7 b q;omega) (fun b hb q=>.inr q) (fun _ _ q=>q)) (fun b q=>by have:=hown7 b q;omega) ⟨_,_,_,rfl⟩;refine gV ?_;refine af ?_;refine xp rfl (bV rfl hK.nd.row) ?_;refine aH rfl (aK rfl rfl hK.res jH) ?_;rintro _ hz ⟨rfl,kz,xz,zz⟩;refine af ?_;refine bF (br rfl kz.row bE) ?_;exact⟨_,rfl,bA hp hK.ext hK.st hK.tell (fun q=>by rw[ht6 q,(hgood (eF hvc q)).1,(hgood (eF hvc q)).2];rfl) xz⟩
theorem tV (h:aj) (O:Nat->Prop):cL h O OO IC:=cL.shut (aY.nil _ _ _)
theorem JB (h:u.1=5):ng u=some (.mk 0 u.2.1 []):=by unfold ng;rw[if_pos h]
theorem JA (h:u.1=9):ng u=some (.mk 1 u.2.1 []):=by unfold ng;rw[if_neg (by omega),if_pos h]
theorem JD (h:u.1=3):ng u=some (.mk 3 u.2.1 []):=by unfold ng;rw[if_neg (by omega),if_neg (by omega),if_pos h]
theorem JC (h:u.1=4) (h2:u.2.1=iq\/u.2.1=lz):ng u=some (.mk 2 u.2.1 []):=by unfold ng;rw[if_neg (by omega),if_neg (by omega),if_neg (by omega),if_pos ⟨h,h2⟩]
theorem HT (h5:¬u.1=5) (h9:¬u.1=9) (h3:¬u.1=3) (h4:¬(u.1=4/\(u.2.1=iq\/u.2.1=lz))):ng u=none:=by unfold ng;rw[if_neg h5,if_neg h9,if_neg h3,if_neg h4]
theorem zR (ih:∀m,m<=n->zM m):Ct 206 [] .atom (n+1):=by
 intro c h s t s' hp hm;have hpl:=hp.lt;obtain⟨pb,lv,n0,us,e⟩:=c;obtain⟨i,b,m,hk,hl,hi,hs,hpn,hn0⟩:=id hp;dsimp only at hk hl hi hs hpn hn0 hpl hm ⊢;obtain⟨la,ln,lc,rfl,hls⟩:=hl.open;have hln:us.length=ln:=hls.len;subst hln;have hlm:=hls.cap;have hlc:=hls.le;simp only[maxLen] at hlm;cases s with
 |bad q =>
  obtain⟨rfl,rfl⟩:=hs;have hm:some (IC,PS.bad m)=some (t,s'):=hm;refine bP ?_;refine af ?_;refine xo rfl (cm) ?_;rintro _ h1 ⟨rfl,k1,e1,z1⟩;have hf:=dR (hp.ah e1);dsimp only at hf;refine cV ?_
  iterate 2 refine aR ?_
  refine FE ?_
  iterate 3 refine BX ?_
  refine eO rfl (az rfl ((hk.ah e1).cell (i:=3) rfl)) ?_;refine BX ?_;refine RQ.ck (d:=9) (b':=true) rfl (rfl) ?_;refine af ?_;refine eu rfl (by simp) ?_;refine af ?_;refine xo rfl (aF rfl hf) ?_;rintro _ h2 ⟨rfl,hp2,x2⟩;refine aH rfl (aK rfl rfl ((k1.ext x2 (show ¬h.size=pb by omega)))) ?_;rintro _ h3 ⟨rfl,k3,x3,z3⟩;refine af ?_;refine bF (br rfl k3.row bE) ?_;obtain⟨rfl,rfl⟩:IC=t/\PS.bad m=s':=by cases hm;exact⟨rfl,rfl⟩
  exact⟨_,rfl,bA hp (e1.of.trans x2) hp2 (tV _ _) (fun _=>rfl) x3⟩
  |ok r =>
  obtain⟨rfl,hr⟩:=hs;cases r with
  |nil =>
   have hie:=Cb hr hi;have hm:some (IC,cZ e (.ok []))=some (t,s'):=hm;refine bP ?_;refine af ?_;refine xo rfl (cm) ?_;rintro _ h1 ⟨rfl,k1,e1,z1⟩;have hf:=dR (hp.ah e1);dsimp only at hf;have hk1:=hk.ah e1;refine cV ?_
   iterate 2 refine aR ?_
   refine FE ?_
   iterate 3 refine BX ?_
   refine eO rfl (az rfl (hk1.cell (i:=3) rfl)) ?_;refine af ?_;refine RQ.ck (d:=9) (b':=false) rfl (rfl) ?_;refine af ?_;refine eO rfl (az rfl (hk1.cell (i:=1) rfl)) ?_;refine af ?_;refine eO rfl (az rfl (hk1.cell (i:=0) rfl)) ?_;refine af ?_;refine eu rfl (by simp;omega) ?_;refine af ?_;refine xo rfl (aF rfl hf) ?_;rintro _ h2 ⟨rfl,hp2,x2⟩;refine aH rfl (aK rfl rfl ((k1.ext x2 (show ¬h.size=pb by omega)))) ?_;rintro _ h3 ⟨rfl,k3,x3,z3⟩;refine af ?_;refine bF (br rfl k3.row bE) ?_;obtain⟨rfl,rfl⟩:IC=t/\cZ e (.ok [])=s':=by cases hm;exact⟨rfl,rfl⟩
   exact⟨_,rfl,bA hp (e1.of.trans x2) hp2 (tV _ _) (fun _=>rfl) x3⟩
   |cons u r =>
   obtain⟨hu,hil,hr'⟩:=FN hls hr;rw[pM] at hm;refine bP ?_;refine af ?_;refine xo rfl (cm) ?_;rintro _ h1 ⟨rfl,k1,e1,z1⟩;have hk1:=hk.ah e1;have hls1:=hls.mv (Mv.ah e1);obtain⟨b1,o1,u',hua,hub,hu',hrow⟩:=hls1.Az hil;rw[hu] at hu';cases hu';refine cV ?_
   iterate 2 refine aR ?_
   refine FE ?_
   iterate 3 refine BX ?_
   refine eO rfl (az rfl (hk1.cell (i:=3) rfl)) ?_;refine af ?_;refine RQ.ck (d:=9) (b':=false) rfl (rfl) ?_;refine af ?_;refine eO rfl (az rfl (hk1.cell (i:=1) rfl)) ?_;refine af ?_;refine eO rfl (az rfl (hk1.cell (i:=0) rfl)) ?_;refine af ?_;refine eC rfl (by simp;omega) ?_;refine af ?_;refine Ij 12 11 ?_;refine aG 0 ?_;refine aG 1 ?_;refine aG 2 ?_;refine bC 3 rfl (fun h' e=>az rfl (e.old (hk1.cell (i:=0) rfl))) ?_;refine aG 4 ?_;refine aG 5 ?_;refine aG 6 ?_;refine bC 7 rfl (fun h' e=>az rfl (e.old (hk1.cell (i:=1) rfl))) ?_;refine bC 8 rfl (fun h' e=>cK rfl rfl i rfl hua) ?_;refine bC 9 rfl (fun h' e=>bV rfl (e.lC hrow)) ?_;refine cU 10 rfl (cm) ?_;rintro _ h2 ⟨rfl,k2,e2,z2⟩;refine⟨fun _=>e2.of,?_⟩;refine iA 11 rfl (aK rfl rfl k2 (by simpa using xW u)) ?_;rintro _ h4 ⟨rfl,hku,x4,z4⟩;refine⟨nofun,?_⟩;have x14:Ext (fun b=>b=h1.size) h1 h4:=e2.of.trans x4;have x04:Ext (fun b=>b=pb) h h4:=e1.of.aW x14 (fun i hi q=>by omega);have hku:aC h4 h1.size 172 (qP u):=hku;have hk4:=hk1.ext x14 (show ¬pb=h1.size by omega);have hkr:=k1.ext x14 (show ¬h.size=h1.size by omega);have hls4:=hls1.mv (Mv.cg x14 fun b hb ho=>⟨fun q=>ho (by omega),ho⟩);have hp4:qw ⟨pb,_,n0,us,e⟩ h4 (.ok (u::r)):=⟨i,false,m,hk4,hls4.shut,hi,⟨rfl,hr⟩,hpn,by have:=x04.size;dsimp only;omega⟩
   refine gV ?_;refine af ?_;refine xp rfl (az rfl (hku.cell (i:=0) rfl)) ?_;refine af ?_;refine aP (fun c5=>?_) (fun c5=>?_)
   · refine af ?_;refine xp rfl (az rfl (hk4.cell (i:=1) rfl)) ?_;refine af ?_;refine aH rfl (kY rfl rfl hk4) ?_;rintro _ h5 ⟨rfl,k5,x5,z5⟩;have hu5:=hku.ext x5 (show ¬h1.size=pb by omega);refine af ?_;refine xp rfl (az rfl (hu5.cell (i:=1) rfl)) ?_;refine xp rfl (au (H.iz _ _) rfl) ?_;refine aH rfl (aK rfl rfl ((hkr.ext x5 (show ¬h.size=pb by omega))) jH) ?_;rintro _ h6 ⟨rfl,k6,x6,z6⟩;refine af ?_;refine bF (br rfl k6.row bE) ?_;rw[JB c5] at hm;obtain⟨rfl,rfl⟩:Tr.mk 0 u.2.1 []=t/\PS.ok r=s':=by cases hm;exact⟨rfl,rfl⟩
     have hp5:qw ⟨pb,_,n0,us,e⟩ h5 (.ok r):=⟨i+1,false,m,k5,(hls4.mv (Mv.cg x5 fun b _ ho=>⟨fun q=>ho (.inl q),ho⟩)).shut,hil,⟨rfl,hr'⟩,hpn,by have:=x5.size;dsimp only;omega⟩
     exact⟨_,rfl,bA hp (x04.trans x5) hp5 (cL.shut (aY.nil _ _ _)) (fun _=>rfl) x6⟩
   · refine af ?_;refine xp rfl (az rfl (hku.cell (i:=0) rfl)) ?_;refine af ?_;refine aP (fun c9=>?_) (fun c9=>?_)
     · refine af ?_;refine xp rfl (az rfl (hk4.cell (i:=1) rfl)) ?_;refine af ?_;refine aH rfl (kY rfl rfl hk4) ?_;rintro _ h5 ⟨rfl,k5,x5,z5⟩;have hu5:=hku.ext x5 (show ¬h1.size=pb by omega);refine af ?_;refine xp rfl (az rfl (hu5.cell (i:=1) rfl)) ?_;refine xp rfl (au (H.iz _ _) rfl) ?_;refine aH rfl (aK rfl rfl ((hkr.ext x5 (show ¬h.size=pb by omega))) jH) ?_;rintro _ h6 ⟨rfl,k6,x6,z6⟩;refine af ?_;refine bF (br rfl k6.row bE) ?_;rw[JA c9] at hm;obtain⟨rfl,rfl⟩:Tr.mk 1 u.2.1 []=t/\PS.ok r=s':=by cases hm;exact⟨rfl,rfl⟩
       have hp5:qw ⟨pb,_,n0,us,e⟩ h5 (.ok r):=⟨i+1,false,m,k5,(hls4.mv (Mv.cg x5 fun b _ ho=>⟨fun q=>ho (.inl q),ho⟩)).shut,hil,⟨rfl,hr'⟩,hpn,by have:=x5.size;dsimp only;omega⟩
       exact⟨_,rfl,bA hp (x04.trans x5) hp5 (cL.shut (aY.nil _ _ _)) (fun _=>rfl) x6⟩
     · refine af ?_;refine xp rfl (az rfl (hku.cell (i:=0) rfl)) ?_;refine af ?_;refine aP (fun c3=>?_) (fun c3=>?_)
       · refine af ?_;refine xp rfl (az rfl (hk4.cell (i:=1) rfl)) ?_;refine af ?_;refine aH rfl (kY rfl rfl hk4) ?_;rintro _ h5 ⟨rfl,k5,x5,z5⟩;have hu5:=hku.ext x5 (show ¬h1.size=pb by omega);refine af ?_;refine xp rfl (az rfl (hu5.cell (i:=1) rfl)) ?_;refine xp rfl (au (H.iz _ _) rfl) ?_;refine aH rfl (aK rfl rfl ((hkr.ext x5 (show ¬h.size=pb by omega))) jH) ?_;rintro _ h6 ⟨rfl,k6,x6,z6⟩;refine af ?_;refine bF (br rfl k6.row bE) ?_;rw[JD c3] at hm;obtain⟨rfl,rfl⟩:Tr.mk 3 u.2.1 []=t/\PS.ok r=s':=by cases hm;exact⟨rfl,rfl⟩
         have hp5:qw ⟨pb,_,n0,us,e⟩ h5 (.ok r):=⟨i+1,false,m,k5,(hls4.mv (Mv.cg x5 fun b _ ho=>⟨fun q=>ho (.inl q),ho⟩)).shut,hil,⟨rfl,hr'⟩,hpn,by have:=x5.size;dsimp only;omega⟩
         exact⟨_,rfl,bA hp (x04.trans x5) hp5 (cL.shut (aY.nil _ _ _)) (fun _=>rfl) x6⟩
       · refine aR ?_;refine dW [(75,.bool (decide (u.1=4/\(u.2.1=iq\/u.2.1=lz))))] rfl ?_ ?_
         · refine af ?_;refine xp rfl (az rfl (hku.cell (i:=0) rfl)) ?_;refine af ?_;refine b9 79 (fun g4=>?_) (fun g4=>?_)
           · have g4:=of_decide_eq_true g4;refine af ?_;refine xp rfl (az rfl (hku.cell (i:=1) rfl)) ?_;refine af ?_;refine b9 83 (fun gt=>?_) (fun gt=>?_)
             · have gt:u.2.1=iq:=aI (of_decide_eq_true gt);refine af ?_;exact aA rfl ⟨ai rfl (by rw[decide_eq_true ⟨g4,.inl gt⟩]),sb rfl⟩
             · have gt:¬u.2.1=iq:=fun q=>of_decide_eq_false gt (congrArg bs q)
               refine af ?_;refine xp rfl (az rfl (hku.cell (i:=1) rfl)) ?_;refine af ?_;exact aA rfl ⟨ai rfl (by rw[Bool.eq_iff_iff,decide_eq_true_iff,decide_eq_true_iff];exact⟨fun q=>⟨g4,.inr (aI q)⟩,fun q=>congrArg bs (q.2.resolve_left gt)⟩),sb rfl⟩
           · have g4:=of_decide_eq_false g4;refine af ?_;exact aA rfl ⟨ai rfl (by rw[decide_eq_false (fun q=>g4 q.1)]),sb rfl⟩
         · refine aP (fun c4=>?_) (fun c4=>?_)
           · refine af ?_;refine xp rfl (az rfl (hk4.cell (i:=1) rfl)) ?_;refine af ?_;refine aH rfl (kY rfl rfl hk4) ?_;rintro _ h5 ⟨rfl,k5,x5,z5⟩;have hu5:=hku.ext x5 (show ¬h1.size=pb by omega);refine af ?_;refine xp rfl (az rfl (hu5.cell (i:=1) rfl)) ?_;refine xp rfl (au (H.iz _ _) rfl) ?_;refine aH rfl (aK rfl rfl ((hkr.ext x5 (show ¬h.size=pb by omega))) jH) ?_;rintro _ h6 ⟨rfl,k6,x6,z6⟩;refine af ?_;refine bF (br rfl k6.row bE) ?_;rw[JC c4.1 c4.2] at hm;obtain⟨rfl,rfl⟩:Tr.mk 2 u.2.1 []=t/\PS.ok r=s':=by cases hm;exact⟨rfl,rfl⟩
             have hp5:qw ⟨pb,_,n0,us,e⟩ h5 (.ok r):=⟨i+1,false,m,k5,(hls4.mv (Mv.cg x5 fun b _ ho=>⟨fun q=>ho (.inl q),ho⟩)).shut,hil,⟨rfl,hr'⟩,hpn,by have:=x5.size;dsimp only;omega⟩
             exact⟨_,rfl,bA hp (x04.trans x5) hp5 (cL.shut (aY.nil _ _ _)) (fun _=>rfl) x6⟩
           · have hno:=HT c5 c9 c3 c4;rw[hno] at hm;simp only at hm;refine aR ?_;refine dW [(99,.bool (decide (u.1=7/\u.2.1=[123])))] rfl ?_ ?_
             · refine af ?_;refine xp rfl (az rfl (hku.cell (i:=0) rfl)) ?_;refine af ?_;refine b9 103 (fun g4=>?_) (fun g4=>?_)
               · have g4:=of_decide_eq_true g4;refine af ?_;refine xp rfl (az rfl (hku.cell (i:=1) rfl)) ?_;refine af ?_;exact aA rfl ⟨ai rfl (by rw[Bool.eq_iff_iff,decide_eq_true_iff,decide_eq_true_iff];exact⟨fun q=>⟨g4,aI q⟩,fun q=>congrArg bs q.2⟩),sb rfl⟩
               · have g4:=of_decide_eq_false g4;refine af ?_;exact aA rfl ⟨ai rfl (by rw[decide_eq_false (fun q=>g4 q.1)]),sb rfl⟩
             · refine aP (fun cb=>?_) (fun cb=>?_)
               · rw[if_pos cb] at hm;have hcall:=(ih n (Nat.le_refl _)).block ⟨pb,_,n0,us,e⟩ _ _ _ _ hp4 hm;refine af ?_;refine xo rfl (aF rfl hcall) ?_;rintro r9 g9 ⟨y9,hp9,t9,hn9,ht9⟩;have k9:=hkr.ext y9 (show ¬h.size=pb by omega);obtain⟨nk,nt,na,nn,nc,rfl,_⟩:=hn9.get;refine aH rfl (aK rfl rfl k9) ?_;rintro _ g10 ⟨rfl,k10,x10,z10⟩;refine af ?_;refine bF (br rfl k10.row bE) ?_;exact⟨_,rfl,dL.ret ⟨y9,hp9,t9,hn9,ht9⟩ hp x04 x10 (Nat.le_refl _) hkr.lt⟩
               · rw[if_neg cb] at hm;refine aR ?_;refine dW [(110,.bool (decide (u.1=7/\u.2.1=[40])))] rfl ?_ ?_
                 · refine af ?_;refine xp rfl (az rfl (hku.cell (i:=0) rfl)) ?_;refine af ?_;refine b9 114 (fun g4=>?_) (fun g4=>?_)
                   · have g4:=of_decide_eq_true g4;refine af ?_;refine xp rfl (az rfl (hku.cell (i:=1) rfl)) ?_;refine af ?_;exact aA rfl ⟨ai rfl (by rw[Bool.eq_iff_iff,decide_eq_true_iff,decide_eq_true_iff];exact⟨fun q=>⟨g4,aI q⟩,fun q=>congrArg bs q.2⟩),sb rfl⟩
                   · have g4:=of_decide_eq_false g4;refine af ?_;exact aA rfl ⟨ai rfl (by rw[decide_eq_false (fun q=>g4 q.1)]),sb rfl⟩
                 · refine aP (fun cp=>?_) (fun cp=>?_)
                   · rw[if_pos cp] at hm;obtain⟨v,s1,hv,hm⟩:=aD hm;obtain⟨rfl,rfl⟩:v=t/\dS e 8 [41] s1=s':=by cases hm;exact⟨rfl,rfl⟩
                     refine af ?_;refine xp rfl (az rfl (hk4.cell (i:=1) rfl)) ?_;refine af ?_;refine aH rfl (kY rfl rfl hk4) ?_;rintro _ h5 ⟨rfl,k5,x5,z5⟩;have hp5:qw ⟨pb,_,n0,us,e⟩ h5 (.ok r):=⟨i+1,false,m,k5,(hls4.mv (Mv.cg x5 fun b _ ho=>⟨fun q=>ho (.inl q),ho⟩)).shut,hil,⟨rfl,hr'⟩,hpn,by have:=x5.size;dsimp only;omega⟩
                     have hcall:=(ih n (Nat.le_refl _)).expr ⟨pb,_,n0,us,e⟩ _ _ _ _ hp5 hv;refine af ?_;refine xo rfl (aF rfl hcall) ?_;rintro r6 h6 ⟨y6,hp6,t6,hn6,ht6⟩;obtain⟨nk,nt,na,nn,nc,rfl,hr6⟩:=hn6.get;have z6:=y6.size;have z4':=x04.size;refine xo rfl (cm) ?_;rintro _ h7 ⟨rfl,k7,e7,z7⟩;refine aH rfl (aK rfl rfl k7 jH) ?_;rintro _ h8 ⟨rfl,k8,x8,z8⟩;have x68:Ext (fun b=>b=h6.size) h6 h8:=e7.of.trans x8;have hp8:=hp6.ext x68 (fun b (hb:b<n0) q=>by omega);have hmust:=gi hp8 8 [41];dsimp only at hmust;refine af ?_;refine xo rfl (aF rfl hmust) ?_;rintro _ h9 ⟨hp9,x9⟩;have y6':Ext (fun b=>b=pb) h5 h6:=y6;refine af ?_;refine xp rfl (bV rfl (k8.ext x9 (show ¬h6.size=pb by omega)).row) ?_;refine aH rfl (aK rfl rfl (((((hkr.ext x5 (show ¬h.size=pb by omega)).ext y6' (show ¬h.size=pb by omega)).ext x68 (show ¬h.size=h6.size by omega)).ext x9 (show ¬h.size=pb by omega))) jH) ?_;rintro _ hz ⟨rfl,kz,xz,zz⟩;refine af ?_;refine bF (br rfl kz.row bE) ?_;have x09:Ext (fun b=>b=pb) h h9:=(((x04.trans x5).trans y6').aW x68 (fun i hi q=>by omega)).trans x9;exact⟨_,rfl,bA hp x09 hp9 (cL.of (bH (bH (O':=fun b=>b<=h.size) hr6 x68 (fun b hb q=>⟨fun q2=>by omega,fun q2=>q (by omega)⟩)) x9 (fun b hb q=>⟨fun q2=>q (by omega),q⟩))) (fun q=>by rw[ht6 (oD q)]) xz⟩
                   · rw[if_neg cp] at hm;obtain⟨rfl,rfl⟩:IC=t/\cZ e (.ok (u::r))=s':=by cases hm;exact⟨rfl,rfl⟩
                     have hf:=dR hp4;dsimp only at hf;refine af ?_;refine xo rfl (aF rfl hf) ?_;rintro _ h5 ⟨rfl,hp5,x5⟩;refine aH rfl (aK rfl rfl ((hkr.ext x5 (show ¬h.size=pb by omega)))) ?_;rintro _ h6 ⟨rfl,k6,x6,z6⟩;refine af ?_;refine bF (br rfl k6.row bE) ?_;exact⟨_,rfl,bA hp (x04.trans x5) hp5 (tV _ _) (fun _=>rfl) x6⟩
theorem Gt:zM 0:=by
 have z:∀f ex j,Ct f ex j 0:=fun f ex j c h s t s' hp hm=>by cases hm
 exact⟨z _ _ _,z _ _ _,fun _=>z _ _ _,z _ _ _,z _ _ _,z _ _ _,z _ _ _,z _ _ _,z _ _ _,z _ _ _,z _ _ _,z _ _ _,z _ _ _,z _ _ _,z _ _ _⟩
theorem IL:∀n,zM n:=by
 intro n
 induction n using Nat.strongRecOn with
 |_ n ih =>
  cases n with
  |zero=>exact Gt
  |succ n =>
   have ih:∀m,m<=n->zM m:=fun m hm=>ih m (Nat.lt_succ_of_le hm)
   exact⟨zO ih,zP ih,B2 ih,vS ih,B3 ih,xR ih,DX ih,B4 ih,B1 ih,s8 ih,BZ ih,zN ih,xO ih,zQ ih,zR ih⟩
def xE (p:UInt8×UInt8):List Value:=[.int .u8 p.1.toNat,.int .u8 p.2.toNat]
def KZ:List Value:=kf.flatMap xE
def qz (h:aj):Prop:=Lw.rowAt h 1 0 KZ
theorem qz.ah {h':aj}(k:qz h) (e:aq h h'):qz h':=e.rowAt (fun k=>k) k
theorem KY (i:Nat) (hi:i<6):KZ.toArray.extract (i*2) (i*2+2)=(xE (kf.getD i (0,0))).toArray:=by
 match i,hi with
 | 0,_=>rfl
 | 1,_=>rfl
 | 2,_=>rfl
 | 3,_=>rfl
 | 4,_=>rfl
 | 5,_=>rfl
theorem KM (p:UInt8×UInt8):∀v∈xE p,v.oneCell'=true:=fun v hv=>by simp[xE] at hv;rcases hv with rfl|rfl<;>rfl
theorem Kx (a b:UInt8):((a.toNat:Int)=(b.toNat:Int))↔a=b:=⟨fun h=>UInt8.toNat_inj.1 (Int.ofNat.inj h),fun h=>by rw[h]⟩
theorem uJ {p:α->Bool}{l:List α}(h:∀a∈l.take i,p a=false) (hi:i=l.length):l.find? p=none:=by
 subst hi;rw[List.take_length] at h;rw[List.find?_eq_none];intro a ha;rw[h a ha];simp
theorem Jg {p:α->Bool}{l:List α}{a:α}(h:∀a∈l.take i,p a=false) (ha:l[i]? =some a) (hp:p a=true):l.find? p=some a:=by
 induction l generalizing i with
 |nil=>simp at ha
 |cons b l ih =>
  cases i with
  |zero=>simp at ha;subst ha;rw[List.find?_cons_of_pos hp]
  |succ i =>
   rw[List.find?_cons_of_neg (by rw[h b (by simp)];simp)];exact ih (i:=i) (fun a ha=>h a (by simp[ha])) (by simpa using ha)
theorem vR (hg:qz h) (s:By):av Tryz.prog 73 #[.string (bs s)] h (bq fun r h'=>r= .int .u8 (qN s).toNat/\aq h h'):=by
 have hbs:=aL s;refine bP ?_;refine af ?_;refine aP (fun hlt=>?_) (fun hlt=>?_)
 · refine af ?_;refine bh ?_;have h1:s[1]? =none:=List.getElem?_eq_none (by omega);exact⟨_,rfl,by unfold qN;rw[h1];rfl,Ext.refl _ _⟩
 · obtain⟨c,hc⟩:∃c,s[1]? =some c:=⟨_,List.getElem?_eq_getElem (show 1<s.length by omega)⟩
   have hE:qN s=Jk c:=by unfold qN;rw[hc]
   rw[hE];refine af ?_;refine xp rfl (bV rfl hg) ?_;refine af ?_;refine gJ (σ:=Nat) (fun i=>[(9,.int .i64 (i:Nat))]) (fun i h'=>aq h h'/\i<=6/\∀p∈kf.take i,(p.1 ==c)=false) (fun i=>6-i) (0) ⟨Ext.refl _ _,by omega,by simp⟩ rfl ?_;rintro i g ⟨eg,hi,hin⟩ ih;refine af ?_;refine aP (fun hi6=>?_) (fun hi6=>?_)
   · have hil:i<6:=by omega
     obtain⟨p,hp⟩:∃p,kf[i]? =some p:=⟨_,List.getElem?_eq_getElem (show i<kf.length from hil)⟩
     have hpd:kf.getD i (0,0)=p:=by rw[List.getD_eq_getElem?_getD,hp];rfl
     have hcut:=KY i hil;rw[hpd] at hcut;refine af ?_;refine xp rfl (ay.EV underlying215 H.J3 H.MY rfl rfl i rfl hil hcut) ?_;refine xo rfl (cm) ?_;rintro _ g1 ⟨rfl,k1,e1,z1⟩;refine aH rfl (aK rfl rfl k1 (KM p)) ?_;rintro _ g2 ⟨rfl,k2,x2,z2⟩;have k2:aC g2 g.size 214 (xE p):=k2;have e02:aq h g2:=aq.only (eg.trans e1) x2 (by have:=eg.size;omega);refine cV ?_;refine aR ?_;refine vL (fun b=>Array.size g2<=b) (fun i=>Nat.blt i 5) (sz:=5) (listed:= #[false,false,false,false,false]) func73 H.mixed rfl rfl rfl ?_;refine aG 0 ?_;refine bC 1 rfl (fun h' e=>az rfl (e.old (k2.cell (i:=0) rfl))) ?_;refine aG 2 ?_;refine bC 3 rfl (fun h' e=>sG rfl rfl 1 rfl (eJ hc)) ?_;refine aG 4 ?_;refine gV ?_;refine aP (fun he=>?_) (fun he=>?_)
     · have he:p.1=c:=(Kx _ _).1 (by omega);refine af ?_;refine xp rfl (az rfl (k2.cell (i:=1) rfl)) ?_;refine af ?_;refine bh ?_;refine⟨_,rfl,?_,e02⟩;unfold Jk;rw[Jg hin hp (by rw[he];simp)];rfl
     · have he:¬p.1=c:=fun q=>he (by rw[q])
       refine af ?_;exact ih (i+1) ⟨e02,by omega,fun q hq=>by rw[List.take_add_one,hp,List.mem_append] at hq;rcases hq with hq|hq;exact hin q hq;simp at hq;subst hq;simpa using he⟩
   · obtain rfl:i=6:=by omega
     refine af ?_;refine xp rfl (sG rfl rfl 1 rfl (eJ hc)) ?_;refine af ?_;refine bh ?_;refine⟨_,rfl,?_,eg⟩;unfold Jk;rw[uJ hin rfl];rfl
theorem vT {tb:Nat}(hb:aC h tb 9 [.string (bs s)]) (t:Tok):av Tryz.prog 109 #[.agg (eY t).toArray,ptr tb] h (bq fun r h'=>r= .bool (!DA s t)/\aq h h'):=by
 have hbs:=aL s;refine bP ?_;refine af ?_;refine xo rfl (iF) ?_;rintro _ h1 ⟨rfl,k1,e1,z1⟩;have k1:aC h1 h.size 92 (eY t):=k1;have hb1:=hb.ah e1;refine aZ ?_;refine cV ?_;refine aR ?_;refine dW [(3,.bool (!DA s t))] rfl ?_ ?_
 · refine af ?_;refine xp rfl (az rfl (k1.cell (i:=1) rfl)) ?_;refine af ?_;refine b9 7 (fun g=>?_) (fun g=>?_)
   · have g:=of_decide_eq_true g;refine af ?_;exact aA rfl ⟨ai rfl (by unfold DA;rw[decide_eq_false (by omega)];rfl),sb rfl⟩
   · have g:=of_decide_eq_false g;refine af ?_;refine xp rfl (az rfl (k1.cell (i:=2) rfl)) ?_;refine xp rfl (az rfl (hb1.cell (i:=0) rfl)) ?_;refine af ?_;refine b9 14 (fun g2=>?_) (fun g2=>?_)
     · have g2:=of_decide_eq_true g2;refine af ?_;exact aA rfl ⟨ai rfl (by unfold DA;rw[decide_eq_true (show 0<=t.2.1 by omega),decide_eq_false (by omega)];rfl),sb rfl⟩
     · have g2:=of_decide_eq_false g2;refine af ?_;refine xp rfl (az rfl (k1.cell (i:=1) rfl)) ?_;refine af ?_;refine xp rfl (az rfl (k1.cell (i:=2) rfl)) ?_;refine af ?_;exact aA rfl ⟨ai rfl (by unfold DA;rw[decide_eq_true (show 0<=t.2.1 by omega),decide_eq_true (show t.2.2<=s.length by omega),Bool.true_and,Bool.true_and,<-decide_not,decide_eq_decide];omega),sb rfl⟩
 · refine bh ?_;exact⟨_,rfl,rfl,e1⟩
theorem yS {gf:FuncId}{caps:List Value}(hf:Nk Tryz.prog gf) (hv:aY Jo h (fun _=>False) v ts) (p:Tok->Bool)
 (hp:∀t g,aq h g->av Tryz.prog gf ([Value.agg (eY t).toArray]++caps).toArray g (bq fun r h'=>r= .bool (p t)/\aq g h')) :
 av Tryz.prog 144 #[v,.func (.func gf) #[] caps.toArray] h (bq fun r h'=>(∃i:Int,r= .int .i64 i/\decide (0<=i)=ts.any p)/\aq h h'):=by
 obtain⟨va,vn,vc,rfl,hvs⟩:=hv.open;have hvl:ts.length=vn:=hvs.len;subst hvl;have hvm:=hvs.cap;have hvc:=hvs.le;simp only[maxLen] at hvm;refine bP ?_;refine af ?_;refine gJ (σ:=Nat) (fun i=>[(8,.int .i64 (i:Nat))]) (fun i h'=>aq h h'/\i<=ts.length/\(ts.take i).any p=false) (fun i=>ts.length-i) (0) ⟨Ext.refl _ _,Nat.zero_le _,by simp⟩ rfl ?_;rintro i g ⟨eg,hi,hin⟩ ih;refine af ?_;refine aP (fun hlt=>?_) (fun hlt=>?_)
 · have hil:i<ts.length:=by omega
   have hvg:=hvs.mv (Mv.ah eg);obtain⟨b,o,t,ha,_,ht,hrow⟩:=hvg.Az hil;have hpt:=hp t g eg
   iterate 4 refine aR ?_
   refine de ?_
   iterate 2 refine aZ ?_
   refine cV ?_;refine aR ?_;refine de ?_
   iterate 3 refine aZ ?_
   refine xp rfl (cK rfl rfl i rfl ha) ?_;refine xp rfl (bV rfl hrow) ?_;refine xo rfl (aT.MJ (vs:=[_]) rfl hf rfl (av.J2 (hpt))) ?_;rintro _ g1 ⟨rfl,e1⟩;refine af ?_;refine fF (fun hb=>?_) (fun hb=>?_)
   · have hb:p t=true:=hb;refine af ?_;refine bh ?_;refine⟨_,rfl,⟨i,rfl,?_⟩,eg.trans e1⟩;rw[decide_eq_true (by omega)];exact(List.any_eq_true.2 ⟨t,List.mem_of_getElem? ht,hb⟩).symm
   · have hb:p t=false:=hb;refine af ?_;exact ih (i+1) ⟨eg.trans e1,by omega,by rw[List.take_add_one,ht,List.any_append,hin];simp[hb]⟩
 · obtain rfl:i=ts.length:=by omega
   rw[List.take_length] at hin;refine af ?_;refine bh ?_;exact⟨_,rfl,⟨-1,rfl,by rw[hin];rfl⟩,eg⟩
theorem sC {h1:aj}(hv:aY Jo h1 (fun _=>False) v ts) (k1:aC h1 h.size 9 [.string (bs s)]):av Tryz.prog 108 #[v,.func (.func 109) #[] #[ptr h.size]] h1 (bq fun r h'=>r= .bool (ts.any fun t=> !DA s t)/\aq h1 h'):=by
 have hi:=yS (h:=h1) (gf:=109) (caps:=[ptr h.size]) ⟨_,func109,rfl,by kernel_rfl⟩ hv (fun t=> !DA s t) (fun t g eg=>vT (k1.ah eg) t);refine bP ?_;refine af ?_;refine xo rfl (aF rfl hi) ?_;rintro _ h2 ⟨⟨i,rfl,hi2⟩,e2⟩;refine af ?_;refine bh ?_;exact⟨_,rfl,by rw[<-hi2];rfl,e2⟩
theorem vP (hv:aY Jo h (fun _=>False) v ts) (s:By):av Tryz.prog 72 #[.string (bs s),v] h (bq fun r h'=>r= .bool (ts.all (DA s))/\aq h h'):=by
 refine bP ?_;refine af ?_;refine xo rfl (iF) ?_;rintro _ h1 ⟨rfl,k1,e1,z1⟩;have hc:=sC (hv.ah e1) (show aC h1 h.size 9 [.string (bs s)] from k1);refine af ?_;refine xp rfl (ay.makeFunc (vs:=[_]) rfl) ?_;refine xo rfl (aF rfl hc) ?_;rintro _ h2 ⟨rfl,e2⟩;refine af ?_;refine bh ?_;refine⟨_,rfl,?_,e1.trans e2⟩;rw[List.all_eq_not_any_not];rfl
theorem G8 (h:DA s t=true):∃f q:Nat,t.2.1=f/\t.2.2=q/\f<=q/\q<=s.length/\cR s t=(s.take q).drop f:=by
 unfold DA at h;simp only[Bool.and_eq_true,decide_eq_true_eq] at h;obtain⟨⟨h1,h2⟩,h3⟩:=h;refine⟨t.2.1.toNat,t.2.2.toNat,by omega,by omega,by omega,by omega,?_⟩;unfold cR;rw[List.drop_take]
theorem D4 (s:By) (t:Tok):(cR s t).length<=s.length:=by
 unfold cR;rw[List.length_take,List.length_drop];omega
theorem Ca (h:ts[i]? =some t) (out:List Un) (op:Bool) :
 pg s (ts.drop i) out op=match lR s out op t with|.er a e=>.er a e|.go out op=>pg s (ts.drop (i+1)) out op:=by
 obtain⟨hi,rfl⟩:=List.getElem?_eq_some_iff.1 h;rw[List.drop_eq_getElem_cons hi];rfl
theorem Ge (pre:List α) (u y:α):(pre++[u]).set pre.length y=pre++[y]:=by
 rw[List.set_append_right _ _ (Nat.le_refl _),Nat.sub_self];rfl
theorem Fj {T:TypeId}(c:UInt8):aY .byte (h.push (.cells #[.int .u8 c.toNat] T)) (fun _=>False) (.slice (some ⟨h.size,0,none⟩) 1 1) [c] :=
 FC.read (kW uT h T [c] 1 rfl (by decide) 0 (Nat.zero_le _) rfl) (fun _ _ k=>k)
def PT (h':aj) (r:Value):(Int×Int) ⊕ List Un->Prop
 |.inl p=>r=packed [.slice none 0 0,.int .i64 p.1,.int .i64 p.2]
 |.inr us=>us.length<=500/\∃uv,r=packed [uv,.int .i64 0,.int .i64 0]/\aY OR h' (fun _=>False) uv us
theorem xN (hg:qz h) (hv:aY Jo h (fun _=>False) v ts) (s:By) (st:vK) (hb:ts.length*(s.length+2)<=1000000000000) (hsl:s.length<=1000000000000) :
 av Tryz.prog 30 #[.string (bs s),v,.agg (bT st).toArray] h (bq fun r h'=>aq h h'/\PT h' r (jY s ts st.1)):=by
 obtain⟨va,vn,vc,rfl,hvs⟩:=id hv.open;have hvl:ts.length=vn:=hvs.len;subst hvl;have hvm:=hvs.cap;have hvc:=hvs.le;simp only[maxLen] at hvm;refine bP ?_;refine af ?_;refine xo rfl (iF) ?_;rintro _ h1 ⟨rfl,k1,e1,z1⟩;refine af ?_;refine xo rfl (aF rfl (vP (hv.ah e1) s)) ?_;rintro _ h2 ⟨rfl,e2⟩;have k1:aC h2 h.size 54 (bT st):=k1.ah e2;have e02:=e1.trans e2;refine af ?_;refine fF (fun hw=>?_) (fun hw=>?_)
 · have hw:ts.all (DA s)=false:=by simpa using hw
   refine af ?_;refine bh ?_;refine⟨_,rfl,e02,?_⟩;unfold jY;rw[if_neg (by rw[hw];simp)];rfl
 · have hw:ts.all (DA s)=true:=by simpa using hw
   have hU:jY s ts st.1=match pg s ts [] false with|.er a e=>.inl (a,e)|.go out op=>if op=true\/st.1≠0 then .inl (s.length,10) else .inr out:=by
    unfold jY;rw[if_pos hw];rfl
   rw[hU];generalize htg0:pg s ts [] false=tgt;refine af ?_;refine gJ (σ:=Nat×List Un×Bool×Value) (fun w=>[(6,w.2.2.2),(9,.bool w.2.2.1),(19,.int .i64 (w.1:Nat))]) (fun w g=>w.1<=ts.length/\aq h2 g/\h2.size<=g.size/\lf 3 qP g h2.size 172 w.2.2.2 w.2.1/\pg s (ts.drop w.1) w.2.1 w.2.2.1=tgt/\w.2.1.length<=500/\(w.2.2.1=true->w.2.1≠[])/\(∀u∈w.2.1,u.2.1.length<=w.1*(s.length+2))) (fun w=>ts.length-w.1) ((0,[],false,.slice none 0 0)) ⟨Nat.zero_le _,Ext.refl _ _,Nat.le_refl _,lf.nil _ _ _ _ _,htg0,by simp,(fun k=>by cases k),by simp⟩ rfl ?_;rintro⟨i,out,op,ov⟩ g ⟨hi,eg,hz,how,htg,hol,hop,hut⟩ ih
   try dsimp only
   dsimp only at hi how htg hol hop hut;have hho:aB g h2.size 172 3 ov out.length (out.flatMap qP):=how;obtain⟨oa,oc,rfl,_⟩:=hho.open;refine af ?_;refine aP (fun hlt=>?_) (fun hlt=>?_)
   · have hil:i<ts.length:=by omega
     have hmul:(i+1)*(s.length+2)<=ts.length*(s.length+2):=Nat.mul_le_mul_right _ hil;have hsuc:(i+1)*(s.length+2)=i*(s.length+2)+(s.length+2):=Nat.succ_mul _ _;have hbig:∀n,n<=i*(s.length+2)->n<=(i+1)*(s.length+2):=fun n hn=>by omega
     have hvg:=hvs.mv (Mv.ah (e02.trans eg));obtain⟨b,o,t,ha,_,ht,hrow⟩:=hvg.Az hil;have hint:DA s t=true:=List.all_eq_true.1 hw t (List.mem_of_getElem? ht);obtain⟨f,q,hf,hq,hfq,hqs,htx⟩:=G8 hint;have htl:=D4 s t;have hstep:=Ca (s:=s) ht out op;have hbz:=aL s
     iterate 4 refine aR ?_
     refine de ?_;refine xp rfl (cK rfl rfl i rfl ha) ?_;refine xp rfl (bV rfl hrow) ?_;refine xo rfl (cm) ?_;rintro _ g1 ⟨rfl,k2,e3,z3⟩;refine aH rfl (aK rfl rfl k2 (ox t)) ?_;rintro _ g2 ⟨rfl,kt,x2,z2⟩;have kt:aC g2 g.size 92 (eY t):=kt;have eg2:aq g g2:=aq.only e3 x2 (Nat.le_refl _);have how2:=how.ah eg2;have hho2:aB g2 h2.size 172 3 (.slice oa out.length oc) out.length (out.flatMap qP):=how2;have egg:=eg.trans eg2;refine af ?_;refine xp rfl (az rfl (kt.cell (i:=1) rfl)) ?_;refine af ?_;refine xp rfl (az rfl (kt.cell (i:=2) rfl)) ?_;refine xp rfl (ay.Am underlying9 rfl rfl f hf rfl q hq hfq (by omega)) ?_;rw[DL _ _ _ hfq,<-htx];refine af ?_;refine xp rfl (az rfl (kt.cell (i:=0) rfl)) ?_;refine af ?_;refine aP (fun h0=>?_) (fun h0=>?_)
     · have hu:lR s out op t= .er t.2.1 10:=by unfold lR;rw[if_pos h0]
       rw[hstep,hu] at htg;refine af ?_;refine eO rfl (az rfl (kt.cell (i:=1) rfl)) ?_;refine af ?_;refine bh ?_;exact⟨_,rfl,e02.trans egg,by rw[<-htg];rfl⟩
     · rcases op with _|_
       · refine aR ?_;refine dW [(35,.bool false)] rfl ?_ ?_
         · refine af ?_;refine RW.ck (d:=37) (b':=false) rfl (rfl) ?_;refine af ?_;exact aA rfl ⟨ai rfl (rfl),sb rfl⟩
         · refine eC rfl (by simp) ?_;refine aR ?_;refine dW [(46,.bool false)] rfl ?_ ?_
           · refine af ?_;refine RW.ck (d:=48) (b':=false) rfl (rfl) ?_;refine af ?_;exact aA rfl ⟨ai rfl (rfl),sb rfl⟩
           · refine eC rfl (by simp) ?_;refine af ?_;refine eC rfl (by simp) ?_
             have hu0:lR s out false t=(if t.1=1\/t.1=2\/t.1=11 then .go out false else if out.length=500 then .er t.2.1 3 else .go (out++[(t.1,if t.1=9 then [] else cR s t,t.2.1)]) (decide (t.1=9))):=by
              unfold lR;rw[if_neg h0];rfl
             refine af ?_;refine xp rfl (az rfl (kt.cell (i:=0) rfl)) ?_;refine af ?_;refine aP (fun c1=>?_) (fun c1=>?_)
             · refine af ?_;refine eu rfl (by simp[c1]) ?_;refine af ?_;exact ih (i+1,out,false,(.slice oa out.length oc)) ⟨by show i+1<=ts.length;omega,egg,by have:=(egg).size;omega,how2,by rw[hstep,(hu0.trans (if_pos (.inl c1)))] at htg;exact htg,hol,(fun k=>by cases k),(fun u hu=>hbig _ (hut u hu))⟩
             · refine af ?_;refine xp rfl (az rfl (kt.cell (i:=0) rfl)) ?_;refine af ?_;refine aP (fun c2=>?_) (fun c2=>?_)
               · refine af ?_;refine eu rfl (by simp[c2]) ?_;refine af ?_;exact ih (i+1,out,false,(.slice oa out.length oc)) ⟨by show i+1<=ts.length;omega,egg,by have:=(egg).size;omega,how2,by rw[hstep,(hu0.trans (if_pos (.inr (.inl c2))))] at htg;exact htg,hol,(fun k=>by cases k),(fun u hu=>hbig _ (hut u hu))⟩
               · refine af ?_;refine xp rfl (az rfl (kt.cell (i:=0) rfl)) ?_;refine af ?_;refine aP (fun c3=>?_) (fun c3=>?_)
                 · refine af ?_;exact ih (i+1,out,false,(.slice oa out.length oc)) ⟨by show i+1<=ts.length;omega,egg,by have:=(egg).size;omega,how2,by rw[hstep,(hu0.trans (if_pos (.inr (.inr c3))))] at htg;exact htg,hol,(fun k=>by cases k),(fun u hu=>hbig _ (hut u hu))⟩
                 · rw[if_neg (fun q=>by omega)] at hu0;refine af ?_;refine xp rfl (az rfl (kt.cell (i:=0) rfl)) ?_;refine af ?_;refine aP (fun c9=>?_) (fun c9=>?_)
                   · refine af ?_;refine aP (fun c500=>?_) (fun c500=>?_)
                     · have c500:out.length=500:=by omega
                       rw[if_pos c500] at hu0;rw[hstep,hu0] at htg;refine af ?_;refine eO rfl (az rfl (kt.cell (i:=1) rfl)) ?_;refine af ?_;refine bh ?_;exact⟨_,rfl,e02.trans egg,by rw[<-htg];rfl⟩
                     · have c500:¬out.length=500:=by omega
                       rw[if_neg c500] at hu0;refine af ?_;refine xp rfl (az rfl (kt.cell (i:=0) rfl)) ?_;refine af ?_;refine xp rfl (az rfl (kt.cell (i:=1) rfl)) ?_;refine xp rfl (au (H.se _ _ _) rfl) ?_;refine xo rfl (sH) ?_;rintro _ _ ⟨rfl,rfl⟩;refine xo rfl (aT.gm underlying95 H.Hx rfl rfl (hho2) rfl rfl (xW (t.1,([]:By),t.2.1)) (by omega) (by decide) (by omega)) ?_;rintro v2 g4 ⟨ho4,hx4,hx4',hv4⟩;have ho5:lf 3 qP g4 h2.size 172 v2 (out++[(t.1,([]:By),t.2.1)]):=lf.of ho4 rfl rfl;have e24:aq h2 g4:=Ext.own egg hho2 (Nat.le_refl _) hx4;have hu1:lR s out false t= .go (out++[(t.1,([]:By),t.2.1)]) true:=hu0.trans (by simp[c9]);refine af ?_;exact ih (i+1,(out++[(t.1,([]:By),t.2.1)]),true,v2) ⟨by show i+1<=ts.length;omega,e24,by have:=(e24).size;omega,ho5,by rw[hstep,hu1] at htg;exact htg,(by rw[List.length_append];simp only[List.length_singleton];omega),(fun _=>by simp),(fun u hu=>(List.mem_append.1 hu).elim (fun hu=>hbig _ (hut u hu)) (fun hu=>by simp only[List.mem_singleton] at hu;subst hu;show List.length (([]:By))<=(i+1)*(s.length+2);have hz0:List.length ([]:By)=0:=rfl;omega))⟩
                   · refine af ?_;refine aP (fun c500=>?_) (fun c500=>?_)
                     · have c500:out.length=500:=by omega
                       rw[if_pos c500] at hu0;rw[hstep,hu0] at htg;refine af ?_;refine eO rfl (az rfl (kt.cell (i:=1) rfl)) ?_;refine af ?_;refine bh ?_;exact⟨_,rfl,e02.trans egg,by rw[<-htg];rfl⟩
                     · have c500:¬out.length=500:=by omega
                       rw[if_neg c500] at hu0;refine af ?_;refine xp rfl (az rfl (kt.cell (i:=0) rfl)) ?_;refine af ?_;refine xp rfl (az rfl (kt.cell (i:=1) rfl)) ?_;refine xp rfl (au (H.se _ _ _) rfl) ?_;refine xo rfl (sH) ?_;rintro _ _ ⟨rfl,rfl⟩;refine xo rfl (aT.gm underlying95 H.Hx rfl rfl (hho2) rfl rfl (xW (t.1,(cR s t),t.2.1)) (by omega) (by decide) (by omega)) ?_;rintro v2 g4 ⟨ho4,hx4,hx4',hv4⟩;have ho5:lf 3 qP g4 h2.size 172 v2 (out++[(t.1,(cR s t),t.2.1)]):=lf.of ho4 rfl rfl;have e24:aq h2 g4:=Ext.own egg hho2 (Nat.le_refl _) hx4;have hu1:lR s out false t= .go (out++[(t.1,(cR s t),t.2.1)]) false:=hu0.trans (by simp[c9]);refine af ?_;exact ih (i+1,(out++[(t.1,(cR s t),t.2.1)]),false,v2) ⟨by show i+1<=ts.length;omega,e24,by have:=(e24).size;omega,ho5,by rw[hstep,hu1] at htg;exact htg,(by rw[List.length_append];simp only[List.length_singleton];omega),(fun _=>by simp),(fun u hu=>(List.mem_append.1 hu).elim (fun hu=>hbig _ (hut u hu)) (fun hu=>by simp only[List.mem_singleton] at hu;subst hu;show List.length ((cR s t))<=(i+1)*(s.length+2);have hz0:List.length ([]:By)=0:=rfl;omega))⟩
       · have hne:=hop rfl
         obtain⟨pre,u,hpre⟩:∃pre u,out=pre++[u]:=by
          rcases List.eq_nil_or_concat out with q|⟨p,u,q⟩
          · exact absurd q hne
          · exact⟨p,u,by simpa using q⟩
         have hlen:out.length=pre.length+1:=by rw[hpre];simp
         have hgu:out[pre.length]? =some u:=by rw[hpre];simp
         have hul:=hut u (by rw[hpre];simp);obtain⟨gb,gc,hgv,hgb,hgl,hgr,hgf,hgs⟩:=lf.put (enc:=qP) (fun _=>rfl) how2 hgu;have hga:oa=some ⟨gb,0,none⟩:=by cases hgv;rfl
         have hu0:lR s out true t=(if t.1=9/\cR s t=[34] then .go out false else if t.1=10 then .go (kU [qN (cR s t)] out) true else .go (kU (cR s t) out) true):=by
          unfold lR;rw[if_neg h0];rfl
         have hadd:∀x,kU x out=pre++[(u.1,u.2.1++x,u.2.2)]:=fun x=>by rw[hpre];exact xJ x pre u
         have hset:∀x,out.set pre.length (u.1,u.2.1++x,u.2.2)=kU x out:=fun x=>by rw[hadd,hpre];exact Ge _ _ _
         have hadl:∀x,x.length<=s.length+1->∀u∈kU x out,u.2.1.length<=(i+1)*(s.length+2):=fun x hx u' hu'=>by
          rw[hadd,List.mem_append] at hu'
          rcases hu' with hu'|hu'
          · exact hbig _ (hut u' (by rw[hpre];simp[hu']))
          · simp only[List.mem_singleton] at hu';subst hu';simp only[List.length_append];omega
         have hown:∀x g',g'=dK g2 ⟨gb,0+pre.length*3+1,none⟩ x->aq h2 g':=fun x g' hg'=>by rw[hg'];exact aq.set egg hgb x
         refine aR ?_;refine dW [(35,.bool (decide (t.1=9/\cR s t=[34])))] rfl ?_ ?_
         · refine af ?_;refine RW.ck (d:=37) (b':=true) rfl (rfl) ?_;refine af ?_;refine xp rfl (az rfl (kt.cell (i:=0) rfl)) ?_;refine af ?_;refine b9 42 (fun g9=>?_) (fun g9=>?_)
           · have g9:=of_decide_eq_true g9;refine af ?_;exact aA rfl ⟨ai rfl (by rw[Bool.eq_iff_iff,decide_eq_true_iff,decide_eq_true_iff];exact⟨fun q=>⟨g9,aI q⟩,fun q=>congrArg bs q.2⟩),sb rfl⟩
           · have g9:=of_decide_eq_false g9;refine af ?_;exact aA rfl ⟨ai rfl (by rw[decide_eq_false (fun q=>g9 q.1)]),sb rfl⟩
         · refine aP (fun c9=>?_) (fun c9=>?_)
           · rw[if_pos c9] at hu0;refine af ?_;exact ih (i+1,out,false,(.slice oa out.length oc)) ⟨by show i+1<=ts.length;omega,egg,by have:=(egg).size;omega,how2,by rw[hstep,hu0] at htg;exact htg,hol,(fun k=>by cases k),(fun u hu=>hbig _ (hut u hu))⟩
           · rw[if_neg c9] at hu0;refine aR ?_;refine dW [(46,.bool (decide (t.1=10)))] rfl ?_ ?_
             · refine af ?_;refine RW.ck (d:=48) (b':=true) rfl (rfl) ?_;refine af ?_;refine xp rfl (az rfl (kt.cell (i:=0) rfl)) ?_;refine af ?_;exact aA rfl ⟨ai rfl (rfl),sb rfl⟩
             · refine aP (fun c10=>?_) (fun c10=>?_)
               · rw[if_pos c10] at hu0;refine af ?_;refine kH 15 (fun _=>False) (fun i=>Nat.blt i 14) ?_;refine aG 0 ?_;refine aG 1 ?_;refine aG 2 ?_;refine aG 3 ?_;refine bC 4 rfl (fun h' e=>cK rfl rfl pre.length (by omega) hga) ?_;refine aG 5 ?_;refine bC 6 rfl (fun h' e=>az rfl (e.cell (fun k=>k) (hgr 1 _ rfl))) ?_;refine aG 7 ?_;refine cU 8 rfl (aF rfl (vR (hg.ah (e02.trans egg)) (cR s t))) ?_;rintro _ g3 ⟨rfl,e3'⟩;refine⟨fun _=>e3',?_⟩;refine cU 9 rfl (jG [_]) ?_;rintro _ g4 ⟨rfl,hg4⟩;refine⟨fun _=>(by rw[hg4];exact Ext.push _ _ _),?_⟩;have e34:aq g3 g4:=by rw[hg4];exact Ext.push _ _ _
                 have e24:aq g2 g4:=e3'.trans e34;have hby:aY .byte g4 (fun _=>False) (.slice (some ⟨g3.size,0,none⟩) 1 1) [qN (cR s t)]:=by rw[hg4];exact Fj _
                 obtain⟨gb',gc',hgv',hgb',hgl',hgr',hgf',hgs'⟩:=lf.put (enc:=qP) (fun _=>rfl) (how2.ah e24) hgu;obtain rfl:gb=gb':=by rw[hga] at hgv';cases hgv';rfl
                 have hbu:=aL u.2.1;refine bC 10 rfl (fun h' e=>O7 rfl (hby.ah e)) ?_;refine bC 11 rfl (fun h' e=>ay.C4 rfl rfl (by show (bs u.2.1).size+1<=_;omega)) ?_;refine LD 12 rfl (cK rfl rfl pre.length (by omega) hga) ?_;refine aG 13 ?_;refine iA 14 rfl (bU H.zK rfl rfl rfl (hgr' 1 _ rfl) (hgf' _)) ?_;rintro _ g5 ⟨rfl,hg5⟩;refine⟨nofun,?_⟩
                 have hfin:lf 3 qP g5 h2.size 172 (.slice oa out.length oc) (kU [qN (cR s t)] out):=by
                  rw[hg5,<-hset];exact hgs' 1 _ _ (by decide) (by show [Value.int .i64 u.1,Value.string (bs u.2.1++⟨[qN (cR s t)].toArray⟩),Value.int .i64 u.2.2]=_;rw[show (⟨[qN (cR s t)].toArray⟩:ByteArray)=bs [qN (cR s t)] from rfl,iX];rfl)
                 have e25:aq h2 g5:=by rw[hg5];exact aq.set (egg.trans e24) hgb _
                 have hlena:(kU [qN (cR s t)] out).length=out.length:=vw _ _;refine gV ?_;refine af ?_;exact ih (i+1,kU [qN (cR s t)] out,true,.slice oa out.length oc) ⟨by show i+1<=ts.length;omega,e25,by have:=e25.size;omega,hfin,by rw[hstep,hu0] at htg;exact htg,by show (kU _ out).length<=500;omega,fun _ q=>hne (List.eq_nil_of_length_eq_zero (hlena.symm.trans (congrArg List.length q))),hadl _ (by simp)⟩
               · rw[if_neg c10] at hu0;refine af ?_;refine eu rfl (by simp) ?_;have hbu:=aL u.2.1;have hbt:=aL (cR s t);refine aR ?_;refine de ?_
                 iterate 4 refine aZ ?_
                 refine xp rfl (cK rfl rfl pre.length (by omega) hga) ?_;refine af ?_;refine xp rfl (az rfl (hgr 1 _ rfl)) ?_
                 iterate 2 refine aZ ?_
                 refine xp rfl (cK rfl rfl pre.length (by omega) hga) ?_;refine af ?_;refine aH rfl (bU H.zK rfl rfl rfl (hgr 1 _ rfl) (hgf _)) ?_;rintro _ g5 ⟨rfl,hg5⟩
                 have hfin:lf 3 qP g5 h2.size 172 (.slice oa out.length oc) (kU (cR s t) out):=by
                  rw[hg5,<-hset];exact hgs 1 _ _ (by decide) (by show [Value.int .i64 u.1,Value.string (bs u.2.1++bs (cR s t)),Value.int .i64 u.2.2]=_;rw[iX];rfl)
                 have e25:aq h2 g5:=hown _ _ hg5;have hlena:(kU (cR s t) out).length=out.length:=vw _ _;refine af ?_;exact ih (i+1,kU (cR s t) out,true,.slice oa out.length oc) ⟨by show i+1<=ts.length;omega,e25,by have:=e25.size;omega,hfin,by rw[hstep,hu0] at htg;exact htg,by show (kU _ out).length<=500;omega,fun _ q=>hne (List.eq_nil_of_length_eq_zero (hlena.symm.trans (congrArg List.length q))),hadl (cR s t) (by omega)⟩
   · obtain rfl:i=ts.length:=by omega
     rw[List.drop_length] at htg;have htg:UR.go out op=tgt:=htg;rw[<-htg];dsimp only
     iterate 3 refine aR ?_
     refine dW [(114,.bool (decide (op=true\/st.1≠0)))] rfl ?_ ?_
     · rcases op with _|_
       · refine af ?_;refine RW.ck (d:=110) (b':=false) rfl (rfl) ?_;refine af ?_;refine xp rfl (az rfl ((k1.ah eg).cell (i:=0) rfl)) ?_;refine af ?_;exact aA rfl ⟨ai rfl (by simp),sb rfl⟩
       · refine af ?_;refine RW.ck (d:=110) (b':=true) rfl (rfl) ?_;refine af ?_;exact aA rfl ⟨ai rfl (by simp),sb rfl⟩
     · refine aP (fun co=>?_) (fun co=>?_)
       · rw[if_pos co];refine af ?_;refine bh ?_;have hbz:=aL s;exact⟨_,rfl,e02.trans eg,by rw[<-hbz];rfl⟩
       · rw[if_neg co];refine af ?_;refine bh ?_;exact⟨_,rfl,e02.trans eg,hol,_,rfl,lf.read how (fun _ _ k=>k)⟩
theorem FL {out:List Un}{op:Bool}(h:lR s out op t= .er a e):e≠0:=by
 unfold lR at h;split at h
 · cases h;decide
 · split at h
   · split at h
     · cases h
     · split at h<;>cases h
   · split at h
     · cases h
     · split at h
       · cases h;decide
       · cases h
theorem zX {s:By}{a e:Int}:∀(l:List Tok) (out:List Un) (op:Bool),pg s l out op= .er a e->e≠0
 | [],_,_,h=>by cases h
 |t::l,out,op,h=>by
  rw[pg] at h;split at h
  · rename_i q;cases h;exact FL q
  · exact zX l _ _ h
theorem D2 {l:List Tok}{m:Int}(h:jY s l m= .inl (a,e)):e≠0:=by
 unfold jY at h;split at h
 · split at h
   · rename_i q;cases h;exact zX _ _ _ q
   · split at h
     · cases h;decide
     · cases h
 · cases h;decide
theorem Gq {us:List Un}{b:Bool}{m:Int}{s:PS}(h:OT us i b m s):(b=false->s.len=us.length-i)/\(b=true->s= .bad m)/\s.cJ=b:=by
 cases s with
 |ok r=>obtain⟨rfl,rfl⟩:=h;exact⟨fun _=>by simp[PS.len],fun k=>(by cases k),rfl⟩
 |bad k=>obtain⟨rfl,rfl⟩:=h;exact⟨fun k=>(by cases k),fun _=>rfl,rfl⟩
theorem zA {s:PS}(h:s.cJ=true):s.len=0/\∀e,cZ e s=s:=by cases s with|ok r=>cases h|bad m=>exact⟨rfl,fun _=>rfl⟩
theorem rH {s:PS} {y} (h:ke e n l s=some y) (h0:s.len=0):y=(l,s):=by
 cases n with
 |zero=>cases h
 |succ n=>rw[ke,if_pos h0] at h;exact(Option.some.inj h).symm
def OS (c:PC) (hb g:aj) (kv:Value) (l:List Tr) (s:PS):Prop :=
 qw c g s/\Ext (fun b=>b=c.pb) hb g/\cy eN (fun b=>b<hb.size) g hb.size 27 kv l
theorem cy.lower {α:Type}{e:gD α}{O:Nat->Prop}{h:aj}{base base':Nat}{t:TypeId}{v:Value}{xs:List α}(k:cy e O h base t v xs) (hb:base'<=base):cy e O h base' t v xs:=by
 obtain⟨css,h1,h2,h3⟩:=k;exact⟨css,h1,h2.lower hb,h3⟩
theorem B0 (hg:qz h) (hv:aY Jo h (fun _=>False) v ts) (s:By) (st:vK) (hb:ts.length*(s.length+2)<=1000000000000) (hsl:s.length<=1000000000000)
 {k:List Tr}(hP:eM s ts st.1 k a e) :
 av Tryz.prog 14 #[.string (bs s),v,.agg (bT st).toArray] h (bq fun r h'=>aq h h'/\∃lv,r=packed [lv,.int .i64 a,.int .i64 e]/\cy eN (fun b=>b<h.size) h' h.size 27 lv k):=by
 have hbz:=aL s;refine bP ?_;refine af ?_;refine xo rfl (iF) ?_;rintro _ h1 ⟨rfl,k1,e1,z1⟩;have k1:aC h1 h.size 54 (bT st):=k1;have hun:=xN (hg.ah e1) (hv.ah e1) s st hb hsl
 rcases hU:jY s ts st.1 with ⟨a1,c1⟩|us
 · rw[hU] at hun;have hce:=D2 hU
   obtain⟨rfl,rfl,rfl⟩:k=[]/\a=a1/\e=c1:=by
    cases hP with
    |units h=>rw[hU] at h;cases h;exact⟨rfl,rfl,rfl⟩
    |bad h _=>rw[hU] at h;cases h
    |ok h _=>rw[hU] at h;cases h
   refine af ?_;refine xp rfl (bV rfl k1.row) ?_;refine xo rfl (aF rfl hun) ?_;rintro _ h2 ⟨e2,rfl⟩;refine af ?_;refine eu rfl (by simpa using hce) ?_;refine af ?_;refine bh ?_;exact⟨_,rfl,e1.trans e2,_,rfl,cy.nil _ _ _ _ _⟩
 · rw[hU] at hun
   obtain⟨n,K,F,hm,hend⟩:∃n K F,ke s.length n [] (.ok us)=some (K,F)/\(∀m,F= .bad m->k=[]/\a=m/\e=10)/\(F.cJ=false->k=K/\a=0/\e=0):=by
    cases hP with
    |units h=>rw[hU] at h;cases h
    |bad h h2=>rw[hU] at h;cases h;exact⟨_,_,_,h2,fun m q=>by cases q;exact⟨rfl,rfl,rfl⟩,fun q=>by cases q⟩
    |ok h h2=>rw[hU] at h;cases h;exact⟨_,_,_,h2,fun m q=>(by cases q),fun _=>⟨rfl,rfl,rfl⟩⟩
   refine af ?_;refine xp rfl (bV rfl k1.row) ?_;refine xo rfl (aF rfl hun) ?_;rintro _ h2 ⟨e2,hu500,uv,rfl,huv⟩;refine af ?_;refine eC rfl (by simp) ?_;obtain⟨ua,un,uc,rfl,huvs⟩:=huv.open;refine af ?_;refine xp rfl (au (H.Fl _ _ _ _) rfl) ?_;refine xo rfl (iF) ?_;rintro _ h3 ⟨rfl,kp,e3,z3⟩;have kp:aC h3 h2.size 100 [.slice ua un uc,.int .i64 (0:Nat),.int .i64 (s.length:Nat),.bool false,.int .i64 0]:=by rw[hbz] at kp;exact kp
   have e13:aq h h3:=(e1.trans e2).trans e3;obtain⟨c,hc⟩:∃c:PC,c=⟨h2.size,.slice ua un uc,h3.size,us,s.length⟩:=⟨_,rfl⟩
   have hz13:=e13.size;have hz2:=e2.size;have hz1:=e1.size;have hpb:c.pb=h2.size:=by rw[hc]
   have hce:c.e=s.length:=by rw[hc]
   have hcu:c.us=us:=by rw[hc]
   have hst3:qw c h3 (.ok us):=by
    rw[hc];exact⟨0,false,0,kp,huv.mv (Mv.cg e3 fun b hb _=>⟨fun k=>k,fun q=>by have:=e3.size;dsimp only at q;omega⟩),Nat.zero_le _,⟨rfl,rfl⟩,by show h2.size<h3.size;omega,Nat.le_refl _,by show us.length<=1000;omega⟩
   rw[<-hce] at hm;have hI3:OS c h3 h3 (.slice none 0 0) [] (.ok us):=⟨hst3,Ext.refl _ _,cy.nil _ _ _ _ _⟩
   rw[<-hpb];refine af ?_;refine gJ (σ:=Nat×List Tr×Value×PS) (fun w=>[(6,w.2.2.1)]) (fun w g=>OS c h3 g w.2.2.1 w.2.1 w.2.2.2/\(w.2.2.2.cJ=true->w.2.2.2=F)/\(w.2.2.2.cJ=false->ke c.e w.1 w.2.1 w.2.2.2=some (K,F)/\w.2.1.length+w.2.2.2.len<=us.length)) (fun w=>w.1) ((n,[],.slice none 0 0,.ok us)) ⟨hI3,fun q=>(by cases q),fun _=>⟨hm,by simp[PS.len]⟩⟩ rfl ?_;rintro⟨m,l,kv,sI⟩ g ⟨⟨hst,xg,how⟩,hbad,hok⟩ ih
   try dsimp only
   dsimp only at hst how hbad hok;obtain⟨pi,pbb,pm,pk,psl,pil,ps,_⟩:=id hst;obtain⟨Nv,Nu,N9⟩:=Gq ps;rw[hcu] at Nv;have hpil:pi<=us.length:=by rw[<-hcu];exact pil
   have hlv:c.lv= .slice ua us.length uc:=by rw[hc];have:=huvs.len;subst this;rfl
   rw[hlv] at pk;have hsize:c.pb<h3.size:=by rw[hpb];omega
   have how0:aB g h3.size 27 3 kv l.length _:=(how.own).choose_spec;obtain⟨ka,kc,rfl,_⟩:=how0.open;have kown:∀b,(Value.slice ka l.length kc).ownBlock=some b->h3.size<=b/\b<g.size:=fun b q=>how0.lt q
   iterate 2 refine aR ?_
   refine Ku 17 (fun b=>Array.size g<=b) (fun i=>Nat.blt i 17) [(46,.bool (decide (sI.len≠0)))] rfl ?_ ?_
   · refine aG 0 ?_;refine aG 1 ?_;refine aG 2 ?_;refine bC 3 rfl (fun h' e=>az rfl (e.old (pk.cell (i:=1) rfl))) ?_;refine aG 4 ?_;refine aG 5 ?_;refine aG 6 ?_;refine bC 7 rfl (fun h' e=>az rfl (e.old (pk.cell (i:=0) rfl))) ?_;refine aG 8 ?_;refine aG 9 ?_;refine aG 10 ?_;refine Pf 40 (fun g1=>?_) (fun g1=>?_)
     · have g1:=of_decide_eq_true g1;refine aG 11 ?_;refine aG 12 ?_;refine aG 13 ?_;refine bC 14 rfl (fun h' e=>az rfl (e.old (pk.cell (i:=3) rfl))) ?_;refine aG 15 ?_;refine aG 16 ?_;exact Is rfl ⟨ai rfl (by cases pbb with|true=>rw[Nu rfl];rfl|false=>rw[Nv rfl,decide_eq_true (by omega)];rfl),sb rfl⟩
     · have g1:=of_decide_eq_false g1;refine BY 11 ?_;refine BY 12 ?_;refine BY 13 ?_;refine BY 14 ?_;refine BY 15 ?_;refine aG 16 ?_;exact Is rfl ⟨ai rfl (by cases pbb with|true=>rw[Nu rfl];rfl|false=>rw[Nv rfl,decide_eq_false (by omega)]),sb rfl⟩
   · refine aP (fun hgo=>?_) (fun hgo=>?_)
     · obtain⟨r,hr⟩:∃r,sI= .ok r:=by cases sI with|ok r=>exact⟨r,rfl⟩|bad q=>exact absurd rfl hgo
       obtain⟨hm,hll⟩:=hok (by rw[hr];rfl);obtain⟨m,rfl⟩:∃m',m=m'+1:=by cases m with|zero=>cases hm|succ m=>exact⟨m,rfl⟩
       rw[ke,if_neg hgo] at hm
       rcases hv1:pM c.e m .stmt sI with _|⟨tv,s2⟩
       rw[hv1] at hm;cases hm;rw[hv1] at hm;simp only[Option.bind_some] at hm;have hvl:=Gu hv1;refine af ?_;refine xo rfl (aF rfl ((IL m).stmt _ _ _ _ _ hst hv1)) ?_;rintro r6 h6 ⟨y6,hp6,t6,hn6,ht6⟩;have z6:=y6.size;obtain⟨mk,mt,ma,mn,mc,rfl,hr6⟩:=hn6.get;have ho6:=how.oZ y6 (fun b q q2=>by have:=kown b q;omega) (fun b hb q=>by omega) (fun _ _ q=>q);obtain⟨css,hc1,hc2,hc3⟩:=id ho6;refine xo rfl (sH) ?_;rintro _ _ ⟨rfl,rfl⟩;refine xo rfl (wC rfl rfl hc2 rfl rfl) ?_;rintro v7 h7 ⟨ho7,hx7,hx7',hv7⟩;have z7:=hx7.size
       have hr6':eN.R h6 (fun b=>cu (Value.slice ka l.length kc).ownBlock b\/b<h3.size) [.int .i64 mk,.string (bs mt),.slice ma mn mc] t6:=bH hr6 (Ext.refl (fun _=>False) _) (fun b hb q=>⟨fun k=>k,fun q2=>by
        rcases q2 with q2|q2
        · have:=kown _ q2.symm;omega
        · have:=xg.size;omega⟩)
       have ho7x:cy eN (fun b=>b<h3.size) h7 h3.size 27 v7 (l++[t6]):=cy.fC hc1 hc3 ho7 hx7 hv7 hr6';have hst7:qw c h7 s2:=hp6.ext hx7 (fun b hb q=>by have:=kown _ q.symm;rw[hc] at hb;dsimp only at hb;omega);have x7:Ext (fun b=>b=c.pb) h3 h7:=(xg.trans y6).aW hx7 (fun i hi q=>by have:=kown _ q.symm;omega);refine af ?_;refine xo rfl (jG [_]) ?_;rintro _ w9 ⟨rfl,hw9⟩;have y9:aq h7 w9:=by rw[hw9];exact Ext.push _ _ _
       have ts9:aY nG w9 (fun _=>False) (.slice (some ⟨Array.size h7,0,none⟩) 1 1) [[59]]:=by rw[hw9];exact bw _ [[59]] _ rfl (by simp[maxLen]) rfl
       refine xo rfl (aF rfl (bu (hst7.ah y9) 6 ts9)) ?_;rintro _ h9 ⟨rfl,hp9,x9⟩;have x9:=y9.of.trans x9
       rcases hq9:cY 6 [[59]] s2 with ⟨o9,s9⟩
       rw[hq9] at hp9 hm;have hp9:qw c h9 s9:=hp9;have how9:=ho7x.oZ x9 (fun b q q2=>by have:=ho7.lt q;omega) (fun b hb q=>by omega) (fun _ _ q=>q);have x39:=x7.trans x9;have hgood:∀sN:PS,(sN.cJ=false->s9.cJ=false)->sN.cJ=false->t6=tv:=fun sN q1 q2=>ht6 (bK hq9 (q1 q2))
       have hfinB:∀sN:PS,ke c.e m (l++[tv]) sN=some (K,F)->sN.cJ=true->sN=F:=fun sN q1 q2=>by have:=rH q1 (zA q2).1;cases this;rfl
       rcases o9 with _|w9
       · simp only at hm;have e9:=dO hq9;obtain⟨qi,qbb,qm,qk,qsl,qil,qs,_⟩:=(show qw c h9 s9 from hp9)
         obtain⟨ql1,ql2,ql3⟩:=Gq qs;rw[hcu] at ql1;rw[hlv] at qk
         iterate 5 refine aZ ?_
         refine cV ?_;refine aR ?_;refine Ku 14 (fun b=>Array.size h9<=b) (fun i=>Nat.blt i 14) [(71,.bool (decide (qi<us.length)))] rfl ?_ ?_
         · refine aG 0 ?_;refine aG 1 ?_;refine aG 2 ?_;refine RD.ck (d:=60) (b':=true) rfl (rfl) ?_;refine aG 3 ?_;refine aG 4 ?_;refine aG 5 ?_;refine bC 6 rfl (fun h' e=>az rfl (e.old (qk.cell (i:=1) rfl))) ?_;refine aG 7 ?_;refine aG 8 ?_;refine aG 9 ?_;refine bC 10 rfl (fun h' e=>az rfl (e.old (qk.cell (i:=0) rfl))) ?_;refine aG 11 ?_;refine aG 12 ?_;refine aG 13 ?_;exact Is rfl ⟨ai rfl (by rw[decide_eq_decide];omega),sb rfl⟩
         · refine aP (fun hgo2=>?_) (fun hgo2=>?_)
           · have hsN:(if s9.len=0 then s9 else cZ c.e s9)=cZ c.e s9:=by
              split
              · rename_i q;cases qbb with
                |true=>exact((zA ql3).2 _).symm
                |false=>have:=ql1 rfl;omega
              · rfl
             rw[hsN] at hm;have hfb:(cZ c.e s9).cJ=true:=by obtain⟨q,hq⟩:=xC c.e s9;rw[hq];rfl
             refine af ?_;refine xo rfl (aF rfl (dR hp9)) ?_;rintro _ h10 ⟨rfl,hp10,x10⟩;have how10:=how9.oZ x10 (fun b q q2=>by have:=ho7.lt q;omega) (fun b hb q=>by omega) (fun _ _ q=>q);refine af ?_;exact ih (m,l++[t6],v7,cZ c.e s9) ⟨⟨hp10,x39.trans x10,how10⟩,fun q=>hfinB _ hm q,fun q=>(by have q:(cZ c.e s9).cJ=false:=q;rw[hfb] at q;cases q)⟩ (Nat.lt_succ_self _)
           · have hs0:s9.len=0:=by
              cases qbb with
              |true=>exact(zA ql3).1
              |false=>have:=ql1 rfl;omega
             rw[if_pos hs0] at hm;refine af ?_;exact ih (m,l++[t6],v7,s9) ⟨⟨hp9,x39,how9⟩,fun q=>hfinB _ hm q,fun q=>⟨by dsimp only;rw[hgood s9 id q];exact hm,by dsimp only;rw[List.length_append,List.length_singleton,hs0];omega⟩⟩ (Nat.lt_succ_self _)
       · simp only at hm;have hl9:=p8 hq9
         iterate 5 refine aZ ?_
         refine cV ?_;refine aR ?_;refine Ku 14 (fun b=>Array.size h9<=b) (fun i=>Nat.blt i 14) [(71,.bool false)] rfl ?_ ?_
         · refine aG 0 ?_;refine aG 1 ?_;refine aG 2 ?_;refine RD.ck (d:=60) (b':=false) rfl (rfl) ?_;refine BY 3 ?_;refine BY 4 ?_;refine BY 5 ?_;refine BY 6 ?_;refine BY 7 ?_;refine BY 8 ?_;refine BY 9 ?_;refine BY 10 ?_;refine BY 11 ?_;refine BY 12 ?_;refine aG 13 ?_;exact Is rfl ⟨ai rfl (rfl),sb rfl⟩
         · refine eC rfl (by simp) ?_;refine af ?_;exact ih (m,l++[t6],v7,s9) ⟨⟨hp9,x39,how9⟩,fun q=>hfinB _ hm q,fun q=>⟨by dsimp only;rw[hgood s9 id q];exact hm,by dsimp only;rw[List.length_append,List.length_singleton];omega⟩⟩ (Nat.lt_succ_self _)
     · have h0:sI.len=0:=by simpa using hgo
       refine af ?_;refine xp rfl (az rfl (pk.cell (i:=3) rfl)) ?_;refine af ?_
       rcases pbb with _|_
       · refine eC rfl (by simp) ?_;obtain⟨r,hr⟩:∃r,sI= .ok r:=by cases sI with|ok r=>exact⟨r,rfl⟩|bad q=>cases N9
         obtain⟨hm,hll⟩:=hok (by rw[hr];rfl);have hz:=rH hm h0;obtain⟨rfl,rfl,rfl⟩:=hend.2 (by cases hz;rw[hr];rfl);have hKl:k=l:=by cases hz;rfl
         refine af ?_;refine bh ?_;exact⟨_,rfl,aq.only e13 xg (by omega),_,rfl,by rw[hKl];exact(cy.lower how (by omega)).oZ (Ext.refl (fun _=>False) _) (fun _ _ q=>q) (fun _ _ q=>q.elim) (fun b hb q=>by omega)⟩
       · have hF:F= .bad pm:=by rw[<-hbad N9];exact Nu rfl
         obtain⟨rfl,rfl,rfl⟩:=hend.1 pm hF;refine eu rfl (by simp) ?_;refine af ?_;refine eO rfl (az rfl (pk.cell (i:=4) rfl)) ?_;refine af ?_;refine bh ?_;exact⟨_,rfl,aq.only e13 xg (by omega),_,rfl,cy.nil _ _ _ _ _⟩
theorem xP (hg:qz h) (hv:aY Jo h (fun _=>False) v ts) (s:By) (st:vK) (hb:ts.length*(s.length+2)<=1000000000000) (hsl:s.length<=1000000000000)
 {k:List Tr}(hP:eM s ts st.1 k a e) :
 av Tryz.prog 14 #[.string (bs s),v,.agg (bT st).toArray] h (bq fun r h'=>aq h h'/\∃lv,r=packed [lv,.int .i64 a,.int .i64 e]/\aY eN h' (fun b=>b<h.size) lv k) :=
 (B0 hg hv s st hb hsl hP).ret fun _ _ ⟨e1,lv,h1,h2⟩=>⟨e1,lv,h1,h2.read (fun _ hb q=>Nat.not_lt.2 hb q) (fun _ _ q=>q)⟩
theorem Bl {h':aj}{O2:Nat->Prop}{cs:List Value}(q:eV.R h O cs x) (e:aq h h') (hO:∀b,b<h.size->O2 b->O b):eV.R h' O2 cs x :=
 eV.mv q ⟨e.size,fun b hb hn=>⟨e.block b hb (fun k=>k),fun k=>hn (hO b hb k)⟩⟩
theorem iY {xs:List Bd}(hv:aY eB h O v xs) (hx:xs.length<=1000000) (t:By) (hw:cG h O w x) :
 av Tryz.prog 86 #[v,.string (bs t),w] h (bq fun r h'=>cy eB O h' h.size 32 r (xs++[(t,x)])/\aq h h'):=by
 obtain⟨nk,nt,a,n,c,ea,en,ec,rfl,hb,hR,he⟩:=cG.get hw;refine bP ?_;refine af ?_;refine xo rfl (iF) ?_;rintro _ h1 ⟨rfl,k1,e1,z1⟩;have k1:aC h1 h.size 30 (iG x.kind x.num x.fO x.self nk nt a n c ea en ec):=k1;have hcl:=lN (hv.ah e1) hx;refine af ?_;refine Ij 8 8 ?_;refine aG 0 ?_;refine aG 2 ?_;refine bC 3 rfl (fun h' e=>bV rfl (e.lC k1.row)) ?_;refine bC 4 rfl (fun h' e=>au (H.vi _ _ _ _ _ _ _ _ _) rfl) ?_;refine Ls 1 5 rfl rfl (aF rfl hcl) (sH) ?_ ?_
 · rintro v2 h2 ⟨ho2,e2⟩;refine⟨fun _=>e2.of,?_⟩;obtain⟨css,hc1,hc2,hc3⟩:=id ho2;have hz2:=e2.size;refine cU 5 rfl (sH) ?_;rintro _ _ ⟨rfl,rfl⟩;refine⟨fun _=>by first|exact Ext.push _ _ _|assumption,?_⟩;refine cU 6 rfl (wC rfl rfl hc2 rfl rfl (by omega) (by have:=e2.size;omega)) ?_;rintro v3 h3 ⟨ho3,hx3,hx3',hv3⟩;refine⟨fun _=>hx3'.mono (fun b _ q=>(hc2.lt q.symm).1),?_⟩;refine aG 7 ?_;refine gV ?_;refine bh ?_;have e12:=e1.trans e2;have hy:eB.R h2 (fun b=>cu v2.ownBlock b\/O b) (.string (bs t)::iG x.kind x.num x.fO x.self nk nt a n c ea en ec) (t,x):=⟨_,rfl,Bl hR e12 (fun b hb q=>q.elim (fun q=>by have:=(hc2.lt q.symm).1;omega) id)⟩
   have hP:=cy.fC hc1 hc3 ho3 hx3 hv3 hy;exact⟨_,rfl,cy.lower hP (by omega),⟨by have:=hx3.size;have:=e12.size;omega,fun b hb _=>(hx3.block b (by have:=e12.size;omega) (fun q=>by have:=(hc2.lt q.symm).1;omega)).trans (e12.block b hb (fun k=>k))⟩⟩
 · rintro _ h2 ⟨rfl,hh2⟩;refine⟨fun _=>(by rw[hh2];exact Ext.push _ _ _),?_⟩;have e2:aq h1 h2:=by rw[hh2];exact Ext.push _ _ _
   have z2:h2.size=h1.size+1:=by rw[hh2];simp
   have hrow:Lw.rowAt h2 h1.size 0 (.string (bs t)::iG x.kind x.num x.fO x.self nk nt a n c ea en ec):=by rw[hh2];exact mw _ _ _
   have e12:=e1.trans e2;refine cU 1 rfl (aF rfl (lN (hv.ah e12) hx)) ?_;rintro v3 h3 ⟨ho3,e3⟩;refine⟨fun _=>e3.of,?_⟩;obtain⟨css,hc1,hc2,hc3⟩:=id ho3;have e13:=e12.trans e3;refine cU 6 rfl (aT.append underlying28 H.Jn rfl rfl hc2 rfl (.inr ⟨_,_,rfl,e3.rowAt (fun k=>k) hrow⟩) (by simp[Value.oneCell']) (by simp only[maxLen];omega) (by omega) e3.size) ?_;rintro v4 h4 ⟨ho4,hx4,_,hv4⟩;refine⟨fun _=>hx4.mono (fun b _ q=>by have:=(hc2.lt q.symm).1;omega),?_⟩;refine aG 7 ?_;refine gV ?_;refine bh ?_;have hy:eB.R h3 (fun b=>cu v3.ownBlock b\/O b) (.string (bs t)::iG x.kind x.num x.fO x.self nk nt a n c ea en ec) (t,x):=⟨_,rfl,Bl hR e13 (fun b hb q=>q.elim (fun q=>by have:=(hc2.lt q.symm).1;omega) id)⟩
   have hP:=cy.fC hc1 hc3 ho4 hx4 hv4 hy;exact⟨_,rfl,cy.lower hP (by have:=e2.size;omega),⟨by have:=hx4.size;have:=e13.size;omega,fun b hb _=>(hx4.block b (by have:=e13.size;omega) (fun q=>by have:=(hc2.lt q.symm).1;omega)).trans (e13.block b hb (fun k=>k))⟩⟩
theorem wN (hw:cG h O w x) (t:By) :
 av Tryz.prog 85 #[w,.string (bs t)] h (bq fun r h'=>cG h' O r (mG x t)/\aq h h'):=by
 obtain⟨nk,nt,a,n,c,ea,en,ec,rfl,hb,hR,he⟩:=cG.get hw;obtain⟨k,m,s,f,b,e⟩:=x;dsimp only[Vl.kind,Vl.num,Vl.fO,Vl.self,Vl.body,Vl.env] at hR ⊢;refine bP ?_;refine af ?_;refine xo rfl (iF) ?_;rintro _ h1 ⟨rfl,k1,e1,z1⟩;refine xo rfl (cm) ?_;rintro _ h2 ⟨rfl,k2,e2,z2⟩;have k1:aC h2 h.size 30 (iG k m s f nk nt a n c ea en ec):=k1.ah e2;have e12:=e1.trans e2;refine cV ?_
 iterate 2 refine aR ?_
 refine dW [(12,.bool (decide (k=4/\f=[])))] rfl ?_ ?_
 · refine af ?_;refine xp rfl (az rfl (k1.cell (i:=0) rfl)) ?_;refine af ?_;refine b9 8 (fun p=>?_) (fun p=>?_)
   · have p:=of_decide_eq_true p;refine af ?_;refine xp rfl (az rfl (k1.cell (i:=3) rfl)) ?_;refine af ?_;exact aA rfl ⟨ai rfl (by rw[decide_eq_decide];exact⟨fun q=>⟨p,aI (m:=[]) q⟩,fun q=>by rw[q.2];rfl⟩),sb rfl⟩
   · have p:=of_decide_eq_false p;refine af ?_;exact aA rfl ⟨ai rfl (by rw[decide_eq_false (fun q=>p q.1)]),sb rfl⟩
 · refine fF (fun hc=>?_) (fun hc=>?_)
   · have hc:=of_decide_eq_true hc;refine af ?_;refine aH rfl (kY rfl rfl k1) ?_;rintro _ h3 ⟨rfl,k3,x3,z3⟩;have k3:aC h3 h.size 30 (iG k m s t nk nt a n c ea en ec):=k3;have e3:aq h h3:=aq.only e12 x3 (Nat.le_refl _);refine af ?_;refine xp rfl (bV rfl k3.row) ?_;refine aH rfl (aK rfl rfl ((k2.ext x3 (by omega))) dX) ?_;rintro _ h4 ⟨rfl,k4,x4,z4⟩;refine af ?_;refine bF (br rfl k4.row bE) ?_;have e4:aq h h4:=aq.only e3 x4 (by omega);refine⟨_,rfl,?_,e4⟩;have:mG (.mk k m s f b e) t= .mk k m s t b e:=if_pos hc;rw[this];exact cG.of (KN (Bl hR e4 fun _ _ q=>q) t)
   · have hc:=of_decide_eq_false hc;refine af ?_;refine xp rfl (bV rfl k1.row) ?_;refine aH rfl (aK rfl rfl k2 dX) ?_;rintro _ h4 ⟨rfl,k4,x4,z4⟩;refine af ?_;refine bF (br rfl k4.row bE) ?_;have e4:aq h h4:=aq.only e12 x4 (by omega);refine⟨_,rfl,?_,e4⟩;have:mG (.mk k m s f b e) t= .mk k m s f b e:=if_neg hc;rw[this];exact cG.of (Bl hR e4 fun _ _ q=>q)
theorem zY (hw:cG h O w x) (op:By) :
 av Tryz.prog 46 #[.string (bs op),w] h (bq fun r h'=>∃v,r=packed [v,.int .i64 (Iz op x).2]/\cG h' O v (Iz op x).1/\aq h h'):=by
 obtain⟨nk,nt,a,n,c,ea,en,ec,rfl,hb,hR,he⟩:=cG.get hw;refine bP ?_;refine af ?_;refine xo rfl (iF) ?_;rintro _ h1 ⟨rfl,k1,e1,z1⟩;refine xo rfl (cm) ?_;rintro _ h2 ⟨rfl,k2,e2,z2⟩;have k1:aC h2 h.size 30 (iG x.kind x.num x.fO x.self nk nt a n c ea en ec):=k1.ah e2;have e12:=e1.trans e2;refine aZ ?_;refine cV ?_
 iterate 3 refine aR ?_
 refine dW [(6,.bool (decide (op=nM/\x.kind=2)))] rfl ?_ ?_
 · refine af ?_;refine b9 9 (fun p1=>?_) (fun p1=>?_)
   · have p1:op=nM:=aI (of_decide_eq_true p1);refine af ?_;refine xp rfl (az rfl (k1.cell (i:=0) rfl)) ?_;refine af ?_;exact aA rfl ⟨ai rfl (by rw[decide_eq_decide];exact⟨fun q=>⟨p1,q⟩,fun q=>q.2⟩),sb rfl⟩
   · have p1:¬op=nM:=fun q=>of_decide_eq_false p1 (by rw[q];rfl)
     refine af ?_;exact aA rfl ⟨ai rfl (by rw[decide_eq_false (fun q=>p1 q.1)]),sb rfl⟩
 · refine fF (fun hc=>?_) (fun hc=>?_)
   · have hc:=of_decide_eq_true hc;refine af ?_;refine xp rfl (az rfl (k1.cell (i:=1) rfl)) ?_;refine af ?_;refine xo rfl (aF rfl (cQ _)) ?_;rintro _ h3 ⟨rfl,e3⟩;refine aH rfl (aK rfl rfl ((k2.ah e3)) dX) ?_;rintro _ h4 ⟨rfl,k4,x4,z4⟩;refine af ?_;refine bF (br rfl k4.row (dM bE)) ?_;have hu:Iz op x=(dF (decide (x.num=0)),0):=if_pos hc;rw[hu];exact⟨_,rfl,_,rfl,nS _ _ _,aq.only (e12.trans e3) x4 (by omega)⟩
   · have hc:=of_decide_eq_false hc;refine aR ?_;refine dW [(18,.bool (decide (op=[45]/\x.kind=1/\x.num≠ -9223372036854775808)))] rfl ?_ ?_
     · refine af ?_;refine b9 21 (fun p1=>?_) (fun p1=>?_)
       · have p1:op=[45]:=aI (of_decide_eq_true p1);refine af ?_;refine xp rfl (az rfl (k1.cell (i:=0) rfl)) ?_;refine af ?_;refine b9 26 (fun p2=>?_) (fun p2=>?_)
         · have p2:=of_decide_eq_true p2;refine af ?_;refine xp rfl (az rfl (k1.cell (i:=1) rfl)) ?_;refine af ?_;exact aA rfl ⟨ai rfl (by rw[decide_eq_decide];exact⟨fun q=>⟨p1,p2,q⟩,fun q=>q.2.2⟩),sb rfl⟩
         · have p2:=of_decide_eq_false p2;refine af ?_;exact aA rfl ⟨ai rfl (by rw[decide_eq_false (fun q=>p2 q.2.1)]),sb rfl⟩
       · have p1:¬op=[45]:=fun q=>of_decide_eq_false p1 (by rw[q];rfl)
         refine af ?_;exact aA rfl ⟨ai rfl (by rw[decide_eq_false (fun q=>p1 q.1)]),sb rfl⟩
     · refine fF (fun hd=>?_) (fun hd=>?_)
       · have hd:=of_decide_eq_true hd;refine af ?_;refine xp rfl (az rfl (k1.cell (i:=1) rfl)) ?_;refine xp rfl (zE rfl) ?_;refine xp rfl (au (H.iy _ _) rfl) ?_;refine aH rfl (aK rfl rfl k2 dX) ?_;rintro _ h4 ⟨rfl,k4,x4,z4⟩;refine af ?_;refine bF (br rfl k4.row (dM bE)) ?_;have hu:Iz op x=(fT (wrap64 (0-x.num)),0):=(if_neg hc).trans (if_pos hd);rw[hu];exact⟨_,rfl,_,rfl,tO _ _ _,aq.only e12 x4 (by omega)⟩
       · have hd:=of_decide_eq_false hd;refine af ?_;refine xp rfl (au (H.dJ ) rfl) ?_;refine aH rfl (aK rfl rfl k2) ?_;rintro _ h4 ⟨rfl,k4,x4,z4⟩;refine af ?_;refine bF (br rfl k4.row (dM bE)) ?_;have hu:Iz op x=(gp,2):=(if_neg hc).trans (if_neg hd);rw[hu];exact⟨_,rfl,_,rfl,gE _ _,aq.only e12 x4 (by omega)⟩
theorem ot (O:Nat->Prop) (op:By) (way:Int) :
 av Tryz.prog 88 #[.string (bs op),.int .i64 way] h (bq fun r h'=>∃v,r=packed [v,.int .i64 (fE op way).2]/\cG h' O v (fE op way).1/\aq h h'):=by
 refine bP ?_;refine af ?_;refine xo rfl (cm) ?_;rintro _ h1 ⟨rfl,k1,e1,z1⟩;refine af ?_;refine aP (fun c1=>?_) (fun c1=>?_)
 · have c1:op=[61,61]:=aI c1;refine af ?_;refine xo rfl (aF rfl (cQ _)) ?_;rintro _ h3 ⟨rfl,e3⟩;refine aH rfl (aK rfl rfl ((k1.ah e3)) dX) ?_;rintro _ h4 ⟨rfl,k4,x4,z4⟩;refine af ?_;refine bF (br rfl k4.row (dM bE)) ?_;rw[show fE op way=(dF (decide (way=0)),0) by unfold fE;skip;rw[if_pos c1]];exact⟨_,rfl,_,rfl,nS _ _ _,aq.only (e1.trans e3) x4 (Nat.le_refl _)⟩
 · have c1:¬op=[61,61]:=fun q=>c1 (by rw[q];rfl)
   refine af ?_;refine aP (fun c2=>?_) (fun c2=>?_)
   · have c2:op=[33,61]:=aI c2;refine af ?_;refine xo rfl (aF rfl (cQ _)) ?_;rintro _ h3 ⟨rfl,e3⟩;refine aH rfl (aK rfl rfl ((k1.ah e3)) dX) ?_;rintro _ h4 ⟨rfl,k4,x4,z4⟩;refine af ?_;refine bF (br rfl k4.row (dM bE)) ?_;rw[show fE op way=(dF (decide (¬way=0)),0) by unfold fE;rw[if_neg c1];rw[if_pos c2]];exact⟨_,rfl,_,rfl,nS _ _ _,aq.only (e1.trans e3) x4 (Nat.le_refl _)⟩
   · have c2:¬op=[33,61]:=fun q=>c2 (by rw[q];rfl)
     refine af ?_;refine aP (fun c3=>?_) (fun c3=>?_)
     · have c3:op=[60]:=aI c3;refine af ?_;refine xo rfl (aF rfl (cQ _)) ?_;rintro _ h3 ⟨rfl,e3⟩;refine aH rfl (aK rfl rfl ((k1.ah e3)) dX) ?_;rintro _ h4 ⟨rfl,k4,x4,z4⟩;refine af ?_;refine bF (br rfl k4.row (dM bE)) ?_;rw[show fE op way=(dF (decide (way<0)),0) by unfold fE;rw[if_neg c1,if_neg c2];rw[if_pos c3]];exact⟨_,rfl,_,rfl,nS _ _ _,aq.only (e1.trans e3) x4 (Nat.le_refl _)⟩
     · have c3:¬op=[60]:=fun q=>c3 (by rw[q];rfl)
       refine af ?_;refine aP (fun c4=>?_) (fun c4=>?_)
       · have c4:op=[60,61]:=aI c4;refine af ?_;refine xo rfl (aF rfl (cQ _)) ?_;rintro _ h3 ⟨rfl,e3⟩;refine aH rfl (aK rfl rfl ((k1.ah e3)) dX) ?_;rintro _ h4 ⟨rfl,k4,x4,z4⟩;refine af ?_;refine bF (br rfl k4.row (dM bE)) ?_;rw[show fE op way=(dF (decide (way<=0)),0) by unfold fE;rw[if_neg c1,if_neg c2,if_neg c3];rw[if_pos c4]];exact⟨_,rfl,_,rfl,nS _ _ _,aq.only (e1.trans e3) x4 (Nat.le_refl _)⟩
       · have c4:¬op=[60,61]:=fun q=>c4 (by rw[q];rfl)
         refine af ?_;refine aP (fun c5=>?_) (fun c5=>?_)
         · have c5:op=[62]:=aI c5;refine af ?_;refine xo rfl (aF rfl (cQ _)) ?_;rintro _ h3 ⟨rfl,e3⟩;refine aH rfl (aK rfl rfl ((k1.ah e3)) dX) ?_;rintro _ h4 ⟨rfl,k4,x4,z4⟩;refine af ?_;refine bF (br rfl k4.row (dM bE)) ?_;rw[show fE op way=(dF (decide (0<way)),0) by unfold fE;rw[if_neg c1,if_neg c2,if_neg c3,if_neg c4];rw[if_pos c5]];exact⟨_,rfl,_,rfl,nS _ _ _,aq.only (e1.trans e3) x4 (Nat.le_refl _)⟩
         · have c5:¬op=[62]:=fun q=>c5 (by rw[q];rfl)
           refine af ?_;refine aP (fun c6=>?_) (fun c6=>?_)
           · have c6:op=[62,61]:=aI c6;refine af ?_;refine xo rfl (aF rfl (cQ _)) ?_;rintro _ h3 ⟨rfl,e3⟩;refine aH rfl (aK rfl rfl ((k1.ah e3)) dX) ?_;rintro _ h4 ⟨rfl,k4,x4,z4⟩;refine af ?_;refine bF (br rfl k4.row (dM bE)) ?_;rw[show fE op way=(dF (decide (0<=way)),0) by unfold fE;rw[if_neg c1,if_neg c2,if_neg c3,if_neg c4,if_neg c5];rw[if_pos c6]];exact⟨_,rfl,_,rfl,nS _ _ _,aq.only (e1.trans e3) x4 (Nat.le_refl _)⟩
           · have c6:¬op=[62,61]:=fun q=>c6 (by rw[q];rfl)
             refine af ?_;refine xp rfl (au (H.dJ ) rfl) ?_;refine aH rfl (aK rfl rfl k1) ?_;rintro _ h4 ⟨rfl,k4,x4,z4⟩;refine af ?_;refine bF (br rfl k4.row (dM bE)) ?_;rw[show fE op way=(gp,2) by unfold fE;rw[if_neg c1,if_neg c2,if_neg c3,if_neg c4,if_neg c5,if_neg c6]];exact⟨_,rfl,_,rfl,gE _ _,aq.only e1 x4 (Nat.le_refl _)⟩
theorem rO (a:Int):av Tryz.prog 164 #[.int .i64 a] h (bq fun r h'=>r= .bool false/\h'=h):=by
 refine bP ?_;refine af ?_;refine bh ?_;exact⟨_,rfl,by simp[packed],rfl⟩
theorem Bv (a b:Int):av Tryz.prog 132 #[.int .i64 a,.int .i64 b] h (bq fun r h'=>r= .int .i64 (if a<b then -1 else if a=b then 0 else 1)/\h'=h):=by
 refine bP ?_;refine af ?_;refine xo rfl (aF rfl (rO _)) ?_;rintro _ _ ⟨rfl,rfl⟩;refine af ?_;refine xo rfl (aF rfl (rO _)) ?_;rintro _ _ ⟨rfl,rfl⟩;refine af ?_;refine eC rfl (by simp) ?_;refine af ?_;refine eC rfl (by simp) ?_;refine af ?_;refine aP (fun h1=>?_) (fun h1=>?_)
 · refine af ?_;refine bh ?_;exact⟨_,rfl,by rw[if_pos h1];rfl,rfl⟩
 · refine af ?_;refine aP (fun h2=>?_) (fun h2=>?_)
   · refine af ?_;refine bh ?_;exact⟨_,rfl,by rw[if_neg h1,if_neg (by omega)];rfl,rfl⟩
   · refine af ?_;refine bh ?_;exact⟨_,rfl,by rw[if_neg h1,if_pos (by omega)];rfl,rfl⟩
theorem we (O:Nat->Prop) (op:By) (a b:Int) :
 av Tryz.prog 87 #[.string (bs op),.int .i64 a,.int .i64 b] h (bq fun r h'=>∃v,r=packed [v,.int .i64 (bJ op a b).2]/\cG h' O v (bJ op a b).1/\aq h h'):=by
 refine bP ?_;refine af ?_;refine xo rfl (cm) ?_;rintro _ h1 ⟨rfl,k1,e1,z1⟩;refine af ?_;refine aP (fun c1=>?_) (fun c1=>?_)
 · have c1:op=[43]:=aI c1;refine aR ?_;refine de ?_
   iterate 2 refine aZ ?_
   refine xp rfl (ay.add rfl rfl) ?_;refine af ?_;refine fF (fun hn=>?_) (fun hn=>?_)
   · have hn:decide (wrap64 (a+b)>a)=decide (b>0)->False:=by simpa [wrap64] using hn
     refine af ?_;refine xp rfl (au (H.dJ ) rfl) ?_;refine aH rfl (aK rfl rfl k1) ?_;rintro _ h4 ⟨rfl,k4,x4,z4⟩;refine af ?_;refine bF (br rfl k4.row (dM bE)) ?_;rw[show bJ op a b=(gp,2) by unfold bJ;rw[if_pos c1];exact if_neg hn];exact⟨_,rfl,_,rfl,gE _ _,aq.only e1 x4 (Nat.le_refl _)⟩
   · have hn:decide (wrap64 (a+b)>a)=decide (b>0):=by simpa [wrap64] using hn
     refine af ?_;refine xp rfl (au (H.iy _ _) rfl) ?_;refine aH rfl (aK rfl rfl k1 dX) ?_;rintro _ h4 ⟨rfl,k4,x4,z4⟩;refine af ?_;refine bF (br rfl k4.row (dM bE)) ?_;rw[show bJ op a b=(fT (wrap64 (a+b)),0) by unfold bJ;rw[if_pos c1];exact if_pos hn];exact⟨_,rfl,_,rfl,tO _ _ _,aq.only e1 x4 (Nat.le_refl _)⟩
 · have c1:¬op=[43]:=fun q=>c1 (by rw[q];rfl)
   refine af ?_;refine aP (fun c2=>?_) (fun c2=>?_)
   · have c2:op=[45]:=aI c2;refine aR ?_;refine de ?_
     iterate 2 refine aZ ?_
     refine xp rfl (ay.sub rfl rfl) ?_;refine af ?_;refine fF (fun hn=>?_) (fun hn=>?_)
     · have hn:decide (wrap64 (a-b)<a)=decide (b>0)->False:=fun q=>by rw[decide_eq_decide] at q;simp at hn;exact hn q
       refine af ?_;refine xp rfl (au (H.dJ ) rfl) ?_;refine aH rfl (aK rfl rfl k1) ?_;rintro _ h4 ⟨rfl,k4,x4,z4⟩;refine af ?_;refine bF (br rfl k4.row (dM bE)) ?_;rw[show bJ op a b=(gp,2) by unfold bJ;rw[if_neg c1,if_pos c2];exact if_neg hn];exact⟨_,rfl,_,rfl,gE _ _,aq.only e1 x4 (Nat.le_refl _)⟩
     · have hn:decide (wrap64 (a-b)<a)=decide (b>0):=by rw[decide_eq_decide];simp at hn;exact hn
       refine af ?_;refine xp rfl (au (H.iy _ _) rfl) ?_;refine aH rfl (aK rfl rfl k1 dX) ?_;rintro _ h4 ⟨rfl,k4,x4,z4⟩;refine af ?_;refine bF (br rfl k4.row (dM bE)) ?_;rw[show bJ op a b=(fT (wrap64 (a-b)),0) by unfold bJ;rw[if_neg c1,if_pos c2];exact if_pos hn];exact⟨_,rfl,_,rfl,tO _ _ _,aq.only e1 x4 (Nat.le_refl _)⟩
   · have c2:¬op=[45]:=fun q=>c2 (by rw[q];rfl)
     refine af ?_;refine aP (fun c3=>?_) (fun c3=>?_)
     · have c3:op=[42]:=aI c3;refine aR ?_;refine de ?_
       iterate 2 refine aZ ?_
       refine xp rfl (DT rfl rfl) ?_;refine aZ ?_;refine cV ?_;refine dW [(9,.bool (decide (a=0\/wrap64 ((wrap64 (a*b)).tdiv a)=b/\(a≠ -1\/b≠ -9223372036854775808))))] rfl ?_ ?_
       · refine af ?_;refine b9 48 (fun d1=>?_) (fun d1=>?_)
         · have d1:=of_decide_eq_true d1;refine af ?_;exact aA rfl ⟨ai rfl (by rw[decide_eq_true (.inl d1)]),sb rfl⟩
         · have d1:=of_decide_eq_false d1
           iterate 2 refine aZ ?_
           refine xp rfl (ij rfl rfl d1) ?_;refine af ?_;refine b9 54 (fun d2=>?_) (fun d2=>?_)
           · have d2:wrap64 ((wrap64 (a*b)).tdiv a)=b:=of_decide_eq_true d2;refine af ?_;refine b9 57 (fun d3=>?_) (fun d3=>?_)
             · have d3:=of_decide_eq_true d3;refine af ?_;exact aA rfl ⟨ai rfl (by rw[decide_eq_true (.inr ⟨d2,.inl d3⟩)]),sb rfl⟩
             · have d3:=of_decide_eq_false d3;refine af ?_;exact aA rfl ⟨ai rfl (by rw[decide_eq_decide];exact⟨fun q=>.inr ⟨d2,.inr q⟩,fun q=>(q.resolve_left d1).2.resolve_left d3⟩),sb rfl⟩
           · have d2:¬wrap64 ((wrap64 (a*b)).tdiv a)=b:=of_decide_eq_false d2;refine af ?_;exact aA rfl ⟨ai rfl (by rw[decide_eq_false (fun q=>d2 (q.resolve_left d1).1)]),sb rfl⟩
       · refine af ?_;refine fF (fun hn=>?_) (fun hn=>?_)
         · have hn:¬(a=0\/wrap64 ((wrap64 (a*b)).tdiv a)=b/\(a≠ -1\/b≠ -9223372036854775808)):=fun q=>by rw[decide_eq_true q] at hn;exact absurd hn (by decide)
           refine af ?_;refine xp rfl (au (H.dJ ) rfl) ?_;refine aH rfl (aK rfl rfl k1) ?_;rintro _ h4 ⟨rfl,k4,x4,z4⟩;refine af ?_;refine bF (br rfl k4.row (dM bE)) ?_;rw[show bJ op a b=(gp,2) by unfold bJ;rw[if_neg c1,if_neg c2,if_pos c3];exact if_neg hn];exact⟨_,rfl,_,rfl,gE _ _,aq.only e1 x4 (Nat.le_refl _)⟩
         · have hn:a=0\/wrap64 ((wrap64 (a*b)).tdiv a)=b/\(a≠ -1\/b≠ -9223372036854775808):=Classical.byContradiction fun q=>by rw[decide_eq_false q] at hn;exact absurd hn (by decide)
           refine af ?_;refine xp rfl (au (H.iy _ _) rfl) ?_;refine aH rfl (aK rfl rfl k1 dX) ?_;rintro _ h4 ⟨rfl,k4,x4,z4⟩;refine af ?_;refine bF (br rfl k4.row (dM bE)) ?_;rw[show bJ op a b=(fT (wrap64 (a*b)),0) by unfold bJ;rw[if_neg c1,if_neg c2,if_pos c3];exact if_pos hn];exact⟨_,rfl,_,rfl,tO _ _ _,aq.only e1 x4 (Nat.le_refl _)⟩
     · have c3:¬op=[42]:=fun q=>c3 (by rw[q];rfl)
       refine af ?_;refine aP (fun c4=>?_) (fun c4=>?_)
       · have c4:op=[47]:=aI c4;refine af ?_;refine eu rfl (by rw[c4];exact fun q=>absurd rfl (of_decide_eq_false q)) ?_
         iterate 2 refine aR ?_
         refine dW [(75,.bool (decide (b=0\/a= -9223372036854775808/\b= -1)))] rfl ?_ ?_
         · refine af ?_;refine b9 68 (fun d1=>?_) (fun d1=>?_)
           · have d1:=of_decide_eq_true d1;refine af ?_;exact aA rfl ⟨ai rfl (by rw[decide_eq_true (.inl d1)]),sb rfl⟩
           · have d1:=of_decide_eq_false d1;refine af ?_;refine b9 71 (fun d2=>?_) (fun d2=>?_)
             · have d2:=of_decide_eq_true d2;refine af ?_;exact aA rfl ⟨ai rfl (by rw[decide_eq_decide];exact⟨fun q=>.inr ⟨d2,q⟩,fun q=>(q.resolve_left d1).2⟩),sb rfl⟩
             · have d2:=of_decide_eq_false d2;refine af ?_;exact aA rfl ⟨ai rfl (by rw[decide_eq_false (fun q=>d2 (q.resolve_left d1).1)]),sb rfl⟩
         · refine fF (fun hz=>?_) (fun hz=>?_)
           · have hz:=of_decide_eq_true hz;refine af ?_;refine xp rfl (au (H.dJ ) rfl) ?_;refine aH rfl (aK rfl rfl k1) ?_;rintro _ h4 ⟨rfl,k4,x4,z4⟩;refine af ?_;refine bF (br rfl k4.row (dM bE)) ?_;rw[show bJ op a b=(gp,2) by unfold bJ;rw[if_neg c1,if_neg c2,if_neg c3,if_pos (.inl c4)];exact if_pos hz];exact⟨_,rfl,_,rfl,gE _ _,aq.only e1 x4 (Nat.le_refl _)⟩
           · have hz:=of_decide_eq_false hz;have hb:b≠0:=fun q=>hz (.inl q)
             iterate 2 refine aR ?_
             refine de ?_
             iterate 2 refine aZ ?_
             refine xp rfl (ij rfl rfl hb) ?_;refine af ?_;refine aP (fun c5=>?_) (fun c5=>?_)
             · exact absurd (aI (m:=[37]) c5) (by rw[c4];decide)
             · refine af ?_;refine eC rfl (by simp) ?_;refine af ?_;refine xp rfl (au (H.iy _ _) rfl) ?_;refine aH rfl (aK rfl rfl k1 dX) ?_;rintro _ h4 ⟨rfl,k4,x4,z4⟩;refine af ?_;refine bF (br rfl k4.row (dM bE)) ?_;rw[show bJ op a b=(fT (wrap64 (a.tdiv b)),0) by unfold bJ;rw[if_neg c1,if_neg c2,if_neg c3,if_pos (.inl c4)];exact(if_neg hz).trans (by rw[if_neg (by rw[c4];decide)])];exact⟨_,rfl,_,rfl,tO _ _ _,aq.only e1 x4 (Nat.le_refl _)⟩
       · have c4:¬op=[47]:=fun q=>c4 (by rw[q];rfl)
         refine af ?_;refine aP (fun c5=>?_) (fun c5=>?_)
         · have c5:op=[37]:=aI c5
           iterate 2 refine aR ?_
           refine dW [(75,.bool (decide (b=0\/a= -9223372036854775808/\b= -1)))] rfl ?_ ?_
           · refine af ?_;refine b9 68 (fun d1=>?_) (fun d1=>?_)
             · have d1:=of_decide_eq_true d1;refine af ?_;exact aA rfl ⟨ai rfl (by rw[decide_eq_true (.inl d1)]),sb rfl⟩
             · have d1:=of_decide_eq_false d1;refine af ?_;refine b9 71 (fun d2=>?_) (fun d2=>?_)
               · have d2:=of_decide_eq_true d2;refine af ?_;exact aA rfl ⟨ai rfl (by rw[decide_eq_decide];exact⟨fun q=>.inr ⟨d2,q⟩,fun q=>(q.resolve_left d1).2⟩),sb rfl⟩
               · have d2:=of_decide_eq_false d2;refine af ?_;exact aA rfl ⟨ai rfl (by rw[decide_eq_false (fun q=>d2 (q.resolve_left d1).1)]),sb rfl⟩
           · refine fF (fun hz=>?_) (fun hz=>?_)
             · have hz:=of_decide_eq_true hz;refine af ?_;refine xp rfl (au (H.dJ ) rfl) ?_;refine aH rfl (aK rfl rfl k1) ?_;rintro _ h4 ⟨rfl,k4,x4,z4⟩;refine af ?_;refine bF (br rfl k4.row (dM bE)) ?_;rw[show bJ op a b=(gp,2) by unfold bJ;rw[if_neg c1,if_neg c2,if_neg c3,if_pos (.inr c5)];exact if_pos hz];exact⟨_,rfl,_,rfl,gE _ _,aq.only e1 x4 (Nat.le_refl _)⟩
             · have hz:=of_decide_eq_false hz;have hb:b≠0:=fun q=>hz (.inl q)
               iterate 2 refine aR ?_
               refine de ?_
               iterate 2 refine aZ ?_
               refine xp rfl (ij rfl rfl hb) ?_;refine af ?_;refine aP (fun c6=>?_) (fun c6=>?_)
               · refine de ?_
                 iterate 2 refine aZ ?_
                 refine xp rfl (sZ rfl rfl hb) ?_;refine af ?_;refine eC rfl (by simp) ?_;refine af ?_;refine xp rfl (au (H.iy _ _) rfl) ?_;refine aH rfl (aK rfl rfl k1 dX) ?_;rintro _ h4 ⟨rfl,k4,x4,z4⟩;refine af ?_;refine bF (br rfl k4.row (dM bE)) ?_;rw[show bJ op a b=(fT (a.tmod b),0) by unfold bJ;rw[if_neg c1,if_neg c2,if_neg c3,if_pos (.inr c5)];exact(if_neg hz).trans (by rw[if_pos c5])];exact⟨_,rfl,_,rfl,tO _ _ _,aq.only e1 x4 (Nat.le_refl _)⟩
               · exact absurd (by rw[c5];rfl) c6
         · have c5:¬op=[37]:=fun q=>c5 (by rw[q];rfl)
           refine af ?_;refine xo rfl (aF rfl (Bv _ _)) ?_;rintro _ _ ⟨rfl,rfl⟩;refine xo rfl (aF rfl (ot (fun b=>O b\/b=h.size) op _)) ?_;rintro _ h3 ⟨v3,rfl,hv3,e3⟩;obtain⟨nk,nt,ka,n,c,ea,en,ec,rfl,hb,hR,he⟩:=cG.get hv3;refine af ?_;refine aH rfl (aK rfl rfl ((k1.ah e3)) dX) ?_;rintro _ h4 ⟨rfl,k4,x4,z4⟩;refine af ?_;refine bF (br rfl k4.row (dM bE)) ?_;have hn:bJ op a b=fE op (if a<b then -1 else if a=b then 0 else 1):=by unfold bJ;rw[if_neg c1,if_neg c2,if_neg c3,if_neg (fun q=>q.elim c4 c5)]
           rw[hn];exact⟨_,rfl,_,rfl,cG.of (eV.mv hR (Mv.cg x4 fun b hb q=>⟨fun k=>q (.inr k),fun k=>q (.inl k)⟩)),aq.only (e1.trans e3) x4 (Nat.le_refl _)⟩
theorem uH (t:By):∀{l:List Bd},(∀(i:Nat) (y:Bd),l[i]? =some y->y.1≠t)->dZ t l=(gp,4)
 | [],_=>rfl
 |b::r,h=>by
  have hr:=uH t (l:=r) fun i y hy=>h (i+1) y hy
  have hb:=h 0 b rfl;rw[dZ,hr,if_neg (by decide),if_neg hb]
theorem Hh (t:By):∀{l:List Bd}{i:Nat}{y:Bd},l[i]? =some y->y.1=t->(∀(k:Nat) (z:Bd),i<k->l[k]? =some z->z.1≠t)->dZ t l=(y.2,0)
 | [],i,y,hi,_,_=>by cases hi
 |b::r,0,y,hi,ht,h=>by
  have hr:=uH t (l:=r) fun i z hz=>h (i+1) z (by omega) hz
  cases hi;rw[dZ,hr,if_neg (by decide),if_pos ht]
 |b::r,i+1,y,hi,ht,h=>by
  have hr:=Hh t (l:=r) (i:=i) hi ht fun k z hk hz=>h (k+1) z (by omega) hz
  rw[dZ,hr,if_pos rfl]
abbrev Km (y:Bd) (nk:Int) (nt:By) (a:Option Addr) (m c:Nat) (ea:Option Addr) (en ec:Nat):List Value:=.string (bs y.1)::iG y.2.kind y.2.num y.2.fO y.2.self nk nt a m c ea en ec
theorem PK {y:Bd}{nk:Int}{nt:By}{a:Option Addr}{m c:Nat}{ea:Option Addr}{en ec:Nat}:∀v∈Km y nk nt a m c ea en ec,v.oneCell'=true:=fun v hv=>by
 rcases List.mem_cons.1 hv with rfl|hv
 · rfl
 · exact dX v hv
theorem HK {oa:Option Addr}{c:Nat}{l:List Bd}(hws:Sl eB h O oa n c l) (hi:i<n) :
 ∃b o y nk nt a m c' ea en ec,oa=some ⟨b,o,none⟩/\l[i]? =some y/\Lw.rowAt h b (o+i*9) (Km y nk nt a m c' ea en ec)/\eV.R h O (iG y.2.kind y.2.num y.2.fO y.2.self nk nt a m c' ea en ec) y.2:=by
 have hn:=hws.len;obtain⟨y,hy⟩:∃y,l[i]? =some y:=⟨_,List.getElem?_eq_getElem (by omega)⟩
 obtain⟨b,o,cs,ha,hob,hrow,cs',rfl,hR⟩:=hws.get i y hy;obtain⟨nk,nt,a,m,c',ea,en,ec,hv,_,hR',_⟩:=cG.get (cG.of hR)
 have hcs:cs'=iG y.2.kind y.2.num y.2.fO y.2.self nk nt a m c' ea en ec:=by
  have:=congrArg (fun v=>match v with|Value.agg c=>c.toList|_=>[]) hv;simpa using this
 rw[hcs] at hrow;exact⟨b,o,y,nk,nt,a,m,c',ea,en,ec,ha,hy,hrow,hR'⟩
theorem HD {b:Nat}{t:TypeId}{c:Value}{cs:List Value}(k:aC h b t (c::cs)):Lw.rowAt h b 1 cs:=fun j v hv=>k.cell (i:=1+j) (by rw[Nat.add_comm];exact hv)
theorem qT {l cap:Nat}{oa:Option Addr}{c:Nat}{J:Nat->aj->Prop}{S:aj->Prop}(hn:n<=1000000)
 (hread:∀j h,J j h->cellAt h ⟨cap,0,none⟩=some (.slice oa n c)) (hy:∀j h,J (j+1) h->j<n->∃(b o:Nat) (y:Bd) (nk:Int) (nt:By) (a:Option Addr) (m c':Nat) (ea:Option Addr) (en ec:Nat),oa=some ⟨b,o,none⟩/\Lw.rowAt h b (o+j*9) (Km y nk nt a m c' ea en ec) /\
  gz Tryz.prog l #[.int .i64 (j:Nat),.agg (Km y nk nt a m c' ea en ec).toArray] h (bq fun r h'=>∃go,r= .bool go/\(go=true->J j h')/\(go=false->S h'))) (h0:J n h) :
 av Tryz.prog 131 #[.func (.yield l) #[] #[],.pointer (some ⟨cap,0,none⟩)] h (bq fun _ h'=>J 0 h'\/S h'):=by
 refine bP ?_;refine af ?_;refine xp rfl (az rfl (hread _ _ h0)) ?_;refine af ?_;refine gJ (σ:=Nat) (fun j=>[(3,.int .i64 ((j:Int)-1))]) (fun j h'=>J j h'/\j<=n) (fun j=>j) (n) ⟨h0,Nat.le_refl _⟩ rfl ?_;rintro j h1 ⟨hJ,hj⟩ ih;refine af ?_;refine aP (fun hge=>?_) (fun hge=>?_)
 · obtain⟨i,rfl⟩:∃i,j=i+1:=⟨j-1,by omega⟩
   obtain⟨b,o,y,nk,nt,a,m,c',ea,en,ec,ha,hrow,hyy⟩:=hy i h1 hJ (by omega);have hji:((i+1:Nat):Int)-1=((i:Nat):Int):=by omega
   rw[hji];refine De rfl ?_;refine sj rfl ?_;refine G.block rfl rfl ?_;refine sj rfl ?_;refine G.KJ func131 rfl ?_;refine dQ.bl rfl rfl rfl rfl rfl (dc rfl) ?_;refine dQ.bl rfl rfl rfl rfl rfl (dc rfl) ?_;refine dQ.bl rfl rfl rfl rfl rfl (cv H.MU rfl (hread _ _ hJ)) ?_;refine dQ.bl rfl rfl rfl rfl rfl (dc rfl) ?_;refine dQ.bl rfl rfl rfl rfl rfl (ay.oJ underlying28 H.IE rfl rfl i rfl ha (by omega)) ?_;refine dQ.bl rfl rfl rfl rfl rfl (ay.jo H.OE H.IE rfl hrow (by first|rfl|(simp;done)|(simp;omega))) ?_;refine qY (vs:=[_,_]) rfl rfl rfl rfl rfl rfl rfl (hyy) ?_;rintro _ h2 ⟨go,rfl,hJ2,hS2⟩;refine dQ.bl rfl rfl rfl rfl rfl (ay.IT rfl) ?_;refine fI rfl ?_;refine fF (fun hgo=>?_) (fun hgo=>?_)
   · have hgo:go=false:=by simpa using hgo
     refine bh ?_;exact⟨_,rfl,.inr (hS2 hgo)⟩
   · have hgo:go=true:=by simpa using hgo
     refine af ?_;exact ih i ⟨hJ2 hgo,by omega⟩
 · obtain rfl:j=0:=by omega
   refine af ?_;refine Ir ?_;exact⟨_,rfl,.inl hJ⟩
theorem sE (v:Value) (hv:v.oneCell'=true):av Tryz.prog 84 #[v] h (bq fun r h'=>r= .func (.func 131) #[] #[.pointer (some ⟨h.size,0,none⟩)]/\h'=h.push (.cells #[v] 28)):=by
 have hcells:v.cells= #[v]:=by cases v<;>simp[Value.oneCell'] at hv<;>rfl
 refine bP ?_;refine af ?_;refine xo rfl (aT.box rfl) ?_;rintro _ _ ⟨rfl,rfl⟩;refine af ?_;refine xp rfl (ay.makeFunc (vs:=[_]) rfl) ?_;refine af ?_;refine bh ?_;exact⟨_,rfl,rfl,by rw[hcells]⟩
def DV (b3 b4 b5 cap L:Nat) (r0:Loop) (h:aj) (v:Value) (t:By) (xs:List Bd) (j:Nat) (g:aj):Prop :=
 b7 g (L+1) r0/\g[L]? =some (.deferred (some []))/\aC g cap 28 [v]/\aC g b3 9 [.string (bs t)]/\aC g b4 30 (iG 0 0 [] [] 0 [] none 0 0 none 0 0)/\aC g b5 33 [.int .i64 0]/\aq h g/\∀(i:Nat) (y:Bd),j<=i->xs[i]? =some y->y.1≠t
def Ie (b4 b5 L:Nat) (r0:Loop) (h:aj) (t:By) (xs:List Bd) (O:Nat->Prop) (g:aj):Prop :=
 b7 g (L+1) { r0 with state:=.done,pending:=some .ret }/\g[L]? =some (.deferred (some []))/\aq h g/\aC g b5 33 [.int .i64 0] /\
 ∃(y:Bd) (nk:Int) (nt:By) (a:Option Addr) (m c:Nat) (ea:Option Addr) (en ec:Nat),aC g b4 30 (iG y.2.kind y.2.num y.2.fO y.2.self nk nt a m c ea en ec)/\dZ t xs=(y.2,0)/\eV.R h O (iG y.2.kind y.2.num y.2.fO y.2.self nk nt a m c ea en ec) y.2
theorem EZ {xs:List Bd}(hv:aY eB h O v xs) (hx:xs.length<=1000000) (t:By) :
 av Tryz.prog 40 #[v,.string (bs t)] h (bq fun r h'=>∃w,r=packed [w,.int .i64 (dZ t xs).2]/\cG h' O w (dZ t xs).1/\aq h h'):=by
 obtain⟨oa,n,c,rfl,hsl⟩:=hv.open;have hn:=hsl.len;subst hn;refine bP ?_;refine af ?_;refine xo rfl (iF) ?_;rintro _ h1 ⟨rfl,k3,e1,z1⟩;refine xo rfl (cm) ?_;rintro _ h2 ⟨rfl,k4,e2,z2⟩;refine xo rfl (cm) ?_;rintro _ h3 ⟨rfl,k5,e3,z3⟩;refine af ?_;refine xo rfl (aF rfl (sE (.slice oa xs.length c) rfl)) ?_;rintro _ h4 ⟨rfl,hh4⟩;have e4:aq h3 h4:=by rw[hh4];exact Ext.push _ _ _
 have q6:aC h4 h3.size 28 [.slice oa xs.length c]:=by rw[hh4];exact zJ _ _ _
 have z4:h4.size=h3.size+1:=by rw[hh4];simp
 clear hh4;have k3:aC h4 h.size 9 [.string (bs t)]:=((k3.ah e2).ah e3).ah e4;have k4:aC h4 h1.size 30 (iG 0 0 [] [] 0 [] none 0 0 none 0 0):=(k4.ah e3).ah e4;have k5:aC h4 h2.size 33 [.int .i64 0]:=k5.ah e4;have e04:aq h h4:=((e1.trans e2).trans e3).trans e4;refine af ?_;refine G.Es func40 rfl rfl func131 rfl (by decide +kernel) ?_;intro fid tmps hfits;obtain⟨r0,hr0⟩:∃r0,r0=fh fid tmps #[10,11] (N7 (Lw.sub (ax f40) [0,1,0,1])) (N6 (Lw.sub (ax f40) [0,1,0,1])) h4.size:=⟨_,rfl⟩
 obtain⟨hL,hhL⟩:∃hL,hL=(h4.push (.deferred (some []))).push (.loop r0):=⟨_,rfl⟩
 suffices hmain:av Tryz.prog 131 #[.func (.yield (h4.size+1)) #[] #[],.pointer (some ⟨h3.size,0,none⟩)] hL _ by rw[hhL,hr0] at hmain;exact hmain
 have hst:r0.state= .ready:=by rw[hr0];rfl
 have hpn:r0.pending=none:=by rw[hr0];rfl
 have hps:r0.params= #[10,11]:=by rw[hr0];rfl
 have htm:r0.tmps=tmps:=by rw[hr0];rfl
 have eL:aq h4 hL:=by rw[hhL];exact(Ext.push _ _ _).trans (Ext.push _ _ _)
 have hLz:hL.size=h4.size+2:=by rw[hhL];simp
 have hloop0:b7 hL (h4.size+1) r0:=by
  have hz:h4.size+1=(h4.push (.deferred (some []))).size:=by simp
  rw[b7,hhL,hz];exact Array.getElem?_push_size
 have hdef0:hL[h4.size]? =some (.deferred (some [])):=by
  rw[hhL,(Ext.push (fun _=>False) (h4.push (.deferred (some []))) _).block h4.size (by simp) (fun k=>k)];exact Array.getElem?_push_size
 clear hhL;have hJ0:DV h.size h1.size h2.size h3.size h4.size r0 h (.slice oa xs.length c) t xs xs.length hL:=⟨hloop0,hdef0,q6.ah eL,k3.ah eL,k4.ah eL,k5.ah eL,e04.trans eL,fun i y hi hy=>by rw[List.getElem?_eq_none hi] at hy;cases hy⟩
 refine suff (p:=∀j g,DV h.size h1.size h2.size h3.size h4.size r0 h (.slice oa xs.length c) t xs (j+1) g->j<xs.length->∃(b o:Nat) (y:Bd) (nk:Int) (nt:By) (a:Option Addr) (m c':Nat) (ea:Option Addr) (en ec:Nat),oa=some ⟨b,o,none⟩/\Lw.rowAt g b (o+j*9) (Km y nk nt a m c' ea en ec)/\gz Tryz.prog (h4.size+1) #[.int .i64 (j:Nat),.agg (Km y nk nt a m c' ea en ec).toArray] g (bq fun r h'=>∃go,r= .bool go/\(go=true->DV h.size h1.size h2.size h3.size h4.size r0 h (.slice oa xs.length c) t xs j h')/\(go=false->Ie h1.size h2.size h4.size r0 h t xs O h'))) ?_ ?_
 · intro j g ⟨hlp,hdf,hcap,k3g,k4g,k5g,eg,hno⟩ hj;obtain⟨b,o,y,nk,nt,a,m,c',ea,en,ec,ha,hy,hrow,hR⟩:=HK hsl hj;refine⟨b,o,y,nk,nt,a,m,c',ea,en,ec,ha,eg.rowAt (fun k=>k) hrow,?_⟩;have hfit:=uI (p1:=10) (p2:=11) (v1:=.int .i64 (j:Nat)) (v2:=.agg (Km y nk nt a m c' ea en ec).toArray) hfits rfl rfl;rw[<-hps,<-htm] at hfit;refine gz.Mi hlp hst (by rw[hps];rfl) hfit ((congrArg Loop.assign hr0).trans rfl) ((congrArg Loop.body hr0).trans rfl) ?_;refine dQ.Ey rfl rfl rfl rfl rfl (aT.zB H.NH) ?_;rintro _ g1 ⟨rfl,k8,e1',zz1⟩;refine dQ.zL rfl rfl rfl rfl (aT.gv H.IE rfl rfl k8 (by first|rfl|(simp;done)|(simp;omega)) (by first|decide|exact of_decide_eq_true rfl|(simp;done)|(simp;omega)) (PK)) ?_;rintro _ g2 ⟨rfl,k8',e2',zz2⟩;refine fI rfl ?_;have e12:aq g g2:=e1'.only e2' (Nat.le_refl _);have k8':aC g2 g.size 32 (Km y nk nt a m c' ea en ec):=k8';refine⟨(e12.block _ hlp.lt (fun k=>k)).trans hlp,?_⟩;obtain⟨g3,hg3⟩:∃g3,g3=Lw.bL g2 (h4.size+1) (.loop { r0 with state:=.busy }):=⟨_,rfl⟩
   rw[<-hg3];have hlz:=hlp.lt;have hz2:=e12.size;have e23:Ext (fun b=>b=h4.size+1) g2 g3:=by rw[hg3];exact Ext.bL _ _ _ rfl
   have hlp3:b7 g3 (h4.size+1) { r0 with state:=.busy }:=by rw[b7,hg3];exact gN (by omega)
   have hz3:=e23.size;have e13:Ext (fun b=>b=h4.size+1) g g3:=(e12.mono fun _ _ k=>k.elim).trans e23;have hs0:=And.intro e1.size (And.intro e2.size (And.intro e3.size e4.size));have l3:¬h.size=h4.size+1:=by omega
   have l4:¬h1.size=h4.size+1:=by omega
   have l5:¬h2.size=h4.size+1:=by omega
   have l6:¬h3.size=h4.size+1:=by omega
   have l8:¬g.size=h4.size+1:=by omega
   have k83:=k8'.ext e23 l8;have k33:=k3g.ext e13 l3;have k43:=k4g.ext e13 l4;have k53:=k5g.ext e13 l5;have cap3:=hcap.ext e13 l6;have hdf3:=(e13.block h4.size (by omega) (by omega)).trans hdf;have eg3:aq h g3:=⟨by have:=eg.size;omega,fun b hb _=>(e13.block b (by have:=eg.size;omega) (by omega)).trans (eg.block b hb (fun k=>k))⟩
   refine dQ.bl rfl rfl rfl rfl rfl (bZ (off:=0) underlying32 rfl rfl H.zK rfl) ?_;refine dQ.bl rfl rfl rfl rfl rfl (cv H.Le rfl (k83.cell (i:=0) rfl)) ?_;refine dQ.bl rfl rfl rfl rfl rfl (cv H.Le rfl (k33.cell (i:=0) rfl)) ?_;refine dQ.bl rfl rfl rfl rfl rfl (ay.yZ rfl rfl) ?_;refine fI rfl ?_;refine⟨_,rfl,fun q=>?_,fun q=>?_⟩
   · have hyt:y.1=t:=aI (of_decide_eq_true q);refine dQ.bl rfl rfl rfl rfl rfl (bZ (off:=1) underlying32 rfl rfl H.D6 rfl) ?_;refine dQ.bl rfl rfl rfl rfl rfl (ay.jo H.MT H.D6 rfl (HD k83) (by first|rfl|(simp;done)|(simp;omega))) ?_;refine dQ.zL rfl rfl rfl rfl (aT.gv H.D6 rfl rfl k43 (by first|rfl|(simp;done)|(simp;omega)) (by first|decide|exact of_decide_eq_true rfl|(simp;done)|(simp;omega)) (dX)) ?_;rintro _ g5 ⟨rfl,k45,e5',zz5⟩;refine dQ.zL rfl rfl rfl rfl (aT.jd H.D5 rfl rfl (k53.ext e5' (by omega)) (by first|decide|exact of_decide_eq_true rfl|(simp;done)|(simp;omega)) rfl) ?_;rintro _ g6 ⟨rfl,k56,e6',zz6⟩;refine fI rfl ?_;have k45:aC g5 h1.size 30 (iG y.2.kind y.2.num y.2.fO y.2.self nk nt a m c' ea en ec):=k45;have k56:aC g6 h2.size 33 [.int .i64 0]:=k56;have hlp6:b7 g6 (h4.size+1) { r0 with state:=.busy }:=(hlp3.ext e5' (by omega)).ext e6' (by omega);have z36:=e5'.size;have z56:=e6'.size;refine⟨_,hlp6,false,rfl,(fun q=>by cases q),fun _=>?_⟩;obtain⟨g7,hg7⟩:∃g7,g7=Lw.bL g6 (h4.size+1) (.loop { r0 with state:=.done,pending:=some .ret }):=⟨_,rfl⟩
     have e67:Ext (fun b=>b=h4.size+1) g6 g7:=by rw[hg7];exact Ext.bL _ _ _ rfl
     show Ie h1.size h2.size h4.size r0 h t xs O (Lw.bL g6 (h4.size+1) (.loop { r0 with state:=.done,pending:=some .ret }))
     rw[<-hg7];have zeg:=eg.size;refine⟨by rw[b7,hg7];exact gN (by omega),?_,⟨by have:=e67.size;omega,fun b hb _=>?_⟩,k56.ext e67 (by omega),y,nk,nt,a,m,c',ea,en,ec,(k45.ext e6' (by omega)).ext e67 (by omega),Hh t hy hyt (fun k z hk hz=>hno k z (by omega) hz),hR⟩
     · rw[e67.block h4.size (by omega) (by omega),e6'.block h4.size (by omega) (by omega),e5'.block h4.size (by omega) (by omega)];exact hdf3
     · rw[e67.block b (by omega) (by omega),e6'.block b (by omega) (by omega),e5'.block b (by omega) (by omega)];exact eg3.block b hb (fun k=>k)
   · have hyt:y.1≠t:=fun e=>of_decide_eq_false q (by rw[e])
     have hr2:({ ({ r0 with state:=.busy }:Loop) with state:=.ready,pending:=none }:Loop)=r0:=by cases r0;simp at hst hpn;simp[hst,hpn]
     refine⟨_,hlp3,true,rfl,fun _=>?_,fun q=>by cases q⟩;rw[hr2];have e34:Ext (fun b=>b=h4.size+1) g3 (Lw.bL g3 (h4.size+1) (.loop r0)):=Ext.bL _ _ _ rfl;have zeg:=eg.size;refine⟨gN (by omega),(e34.block h4.size (by omega) (by omega)).trans hdf3,cap3.ext e34 l6,k33.ext e34 l3,k43.ext e34 l4,k53.ext e34 l5,⟨by have:=e34.size;omega,fun b hb _=>(e34.block b (by omega) (by omega)).trans (eg3.block b hb (fun k=>k))⟩,fun i z hi hz=>?_⟩
     rcases Nat.lt_or_ge j i with q|q
     · exact hno i z q hz
     · obtain rfl:i=j:=by omega
       rw[hy] at hz;cases hz;exact hyt
 · intro hy;refine(qT (l:=h4.size+1) (cap:=h3.size) (n:=xs.length) (c:=c) (J:=DV h.size h1.size h2.size h3.size h4.size r0 h (.slice oa xs.length c) t xs) (S:=Ie h1.size h2.size h4.size r0 h t xs O) hx (fun j g hJ=>hJ.2.2.1.cell (i:=0) rfl) hy hJ0).mono fun e g hJ=>?_
   obtain⟨u,rfl,hJ⟩:=hJ;have hs0:=And.intro e1.size (And.intro e2.size (And.intro e3.size e4.size))
   rcases hJ with hJ|hS
   · obtain⟨hlp,hdf,hcap,k3g,k4g,k5g,eg,hno⟩:=hJ;refine⟨_,rfl,r0,hlp,by rw[hst];decide,.inl ⟨hpn,?_⟩⟩;have hlz:=hlp.lt;have zeg:=eg.size;obtain⟨g1,hg1⟩:∃g1,g1=Lw.bL g (h4.size+1) (.loop { r0 with state:=.exhausted }):=⟨_,rfl⟩
     have x1:Ext (fun b=>b=h4.size+1) g g1:=by rw[hg1];exact Ext.bL _ _ _ rfl
     rw[<-hg1];have k4e:=k4g.ext x1 (by omega);have k5e:=k5g.ext x1 (by omega);refine GD.u7 ?_;refine nw rfl ?_;refine GD.nP func40 rfl ?_;refine iL.bl rfl rfl rfl rfl (au (H.dJ ) rfl) ?_;refine iL.zL rfl rfl rfl (aT.gv H.D6 rfl rfl k4e (by first|rfl|(simp;done)|(simp;omega)) (by first|decide|exact of_decide_eq_true rfl|(simp;done)|(simp;omega)) (by first|decide|simp[Value.oneCell'])) ?_;rintro _ g2 ⟨rfl,k42,x2,zz2⟩;refine iL.zL rfl rfl rfl (aT.jd H.D5 rfl rfl (k5e.ext x2 (by omega)) (by first|decide|exact of_decide_eq_true rfl|(simp;done)|(simp;omega)) rfl) ?_;rintro _ g3 ⟨rfl,k53,x3,zz3⟩;refine jC rfl ?_;refine GD.sub (ρ':=[(0,_),(1,_),(3,_),(4,_),(5,_),(9,_)]) ⟨rfl,rfl,rfl,rfl,rfl,rfl,trivial⟩ ?_;have k53:aC g3 h2.size 33 [.int .i64 4]:=k53;have zx1:=x1.size;have zx2:=x2.size;have zx3:=x3.size
     have hdf3:g3[h4.size]? =some (.deferred (some [])):=by
      rw[x3.block h4.size (by omega) (by omega),x2.block h4.size (by omega) (by omega),x1.block h4.size (by omega) (by omega)];exact hdf
     have x4:Ext (fun b=>b=h4.size) g3 (Lw.bL g3 h4.size (.deferred none)):=Ext.bL _ _ _ rfl;have k44:=(k42.ext x3 (by omega)).ext x4 (by omega);have k54:=k53.ext x4 (by omega);have zx4:=x4.size;refine GD.Gp func40 rfl hdf3 (.cons (fH.row (t:=30) (by kernel_rfl) (by kernel_rfl) rfl k44.row) (.cons (fH.cell (t:=33) (by kernel_rfl) rfl (k54.cell (i:=0) rfl)) .nil)) ?_;have hf:dZ t xs=(gp,4):=uH t fun i y hy=>hno i y (Nat.zero_le _) hy
     rw[hf];exact⟨_,rfl,_,rfl,gE _ _,⟨by omega,fun b hb _=>by rw[x4.block b (by omega) (by omega),x3.block b (by omega) (by omega),x2.block b (by omega) (by omega),x1.block b (by omega) (by omega)];exact eg.block b hb (fun k=>k)⟩⟩
   · obtain⟨hlp,hdf,eg,k5g,y,nk,nt,a,m,c',ea,en,ec,k4g,hf,hR⟩:=hS;have hlz:=hlp.lt;have zeg:=eg.size;refine⟨_,rfl,_,hlp,(by simp),.inr ⟨rfl,hdf,?_⟩⟩;obtain⟨g1,hg1⟩:∃g1,g1=Lw.bL g (h4.size+1) (.loop { ({ r0 with state:=.done,pending:=some .ret }:Loop) with state:=.exhausted }):=⟨_,rfl⟩
     have x1:Ext (fun b=>b=h4.size+1) g g1:=by rw[hg1];exact Ext.bL _ _ _ rfl
     rw[<-hg1];have x2:Ext (fun b=>b=h4.size) g1 (Lw.bL g1 h4.size (.deferred none)):=Ext.bL _ _ _ rfl;have zx1:=x1.size;have zx2:=x2.size;have k4e:=(k4g.ext x1 (by omega)).ext x2 (by omega);have k5e:=(k5g.ext x1 (by omega)).ext x2 (by omega);have e0:aq h (Lw.bL g1 h4.size (.deferred none)):=⟨by omega,fun b hb _=>by rw[x2.block b (by omega) (by omega),x1.block b (by omega) (by omega)];exact eg.block b hb (fun k=>k)⟩
     refine⟨_,.cons (fH.row (t:=30) (by kernel_rfl) (by kernel_rfl) rfl k4e.row) (.cons (fH.cell (t:=33) (by kernel_rfl) rfl (k5e.cell (i:=0) rfl)) .nil),?_⟩;rw[hf];exact⟨_,rfl,_,rfl,cG.of (Bl hR e0 fun _ _ q=>q),e0⟩
end
end Go.Proofs.YtdgckfkoihcmjaaGreatDoor
namespace Go.Proofs.YtdgckfkoihcmjaaGreatDoor
open Go
abbrev V (W:By->Bool) (t:Tr):Prop:=bQ W t=true
def E (W:By->Bool) (t:Tr):Prop:=V W t/\(t.kind≠7\/t.kids.length=2)
theorem OH {W:By->Bool}{k:Int}{t:By}{l:List Tr}:V W (.mk k t l)↔jf W k t l.length=true/\fN W k 0 l=true:=by
  show (jf W k t l.length && fN W k 0 l)=true↔_
  rw[Bool.and_eq_true]
def pe:List By:=[[105,102],[101,108,115,101],[108,101,116],[105,110],[102,117,110],[116,114,117,101],[102,97,108,115,101],[97,110,100],[111,114],[110,111,116]]
theorem D0:∀i,i<44->jX[i]? =some 32->(jX.drop (i+1)).takeWhile (fun b=>b !=32)=[]\/pe.contains ((jX.drop (i+1)).takeWhile (fun b=>b !=32))=true:=by decide
theorem GI {s:By}(h:Lib.contains s [32]=false):∀b∈s,(b !=32)=true:=fun b hb=>by
 obtain⟨j,hj,rfl⟩:=List.getElem_of_mem hb
 rcases Lib.index_spec s [32] with ⟨_,h2⟩|⟨i,h1,_⟩
 · have:=h2 j (by omega);unfold Lib.occAt at this;rw[List.drop_eq_getElem_cons hj] at this;simp only[List.isPrefixOf,Bool.and_true] at this;simp only[bne_iff_ne];intro e;rw[e] at this;cases this
 · unfold Lib.contains at h;rw[h1] at h;exact absurd (of_decide_eq_false h) (by simp)
theorem D1 (s:By):aS s=pe.contains s:=by
 rw[Bool.eq_iff_iff];constructor
 · intro h;unfold aS at h;simp only[Bool.and_eq_true,decide_eq_true_eq,Bool.not_eq_true'] at h;obtain⟨h0,h1,h2⟩:=h;have hns:=GI h1
   rcases Lib.index_spec jX (32::(s++[32])) with ⟨h3,_⟩|⟨i,h3,h4,h5,_⟩
   · unfold Lib.contains at h2;rw[h3] at h2;exact absurd h2 (by decide)
   · unfold Lib.occAt at h5;obtain⟨t,ht⟩:=List.isPrefixOf_iff_prefix.1 h5
     have hd:jX.drop (i+1)=s++(32::t):=by
      have:=congrArg List.tail ht;rw[List.tail_drop] at this;rw[<-this];simp
     have htw:(jX.drop (i+1)).takeWhile (fun b=>b !=32)=s:=by
      rw[hd,List.takeWhile_append_of_pos hns];simp
     have hi : i < 44 := by have : jX.length = 42 := by decide
                            omega
     have hw:jX[i]? =some 32:=by
      have:=congrArg (fun z=>z[0]?) ht;simpa using this.symm
     rcases D0 i hi hw with h6|h6
     · rw[htw] at h6;exact absurd h6 h0
     · rwa [htw] at h6
 · intro h;have:∀w∈pe,aS w=true:=by decide +kernel
   exact this s (List.contains_iff_mem.1 h)
end Go.Proofs.YtdgckfkoihcmjaaGreatDoor
namespace Go.Proofs.YtdgckfkoihcmjaaGreatDoor
open Go Go.Lw
section
variable (W:By->Bool) (U:By->Prop)
mutual
inductive RV:Vl->Vl->Prop
  |mk {k n:Int}{s f:By}{b:Tr}{e e':List Bd}:(bQ aS b=true->V W b)->RE e e'->RV (.mk k n s f b e) (.mk k n s f b e')
inductive RE:List Bd->List Bd->Prop
  |nil:RE [] []
  |cons {t:By}{v w:Vl}{e f:List Bd}:RV v w->RE e f->RE ((t,v)::e) ((t,w)::f)
  |skip {t:By}{w:Vl}{e f:List Bd}:U t->RE e f->RE e ((t,w)::f)
end
end
variable {W:By->Bool}{U:By->Prop}
def Cl (W:By->Bool) (n:Tr):Prop:=V W n\/n=cj
theorem tn {k:Int}:∀{l:List Tr}{i:Nat},fN W k i l=true->∀x∈l,V W x
  | [],_,_,x,hx=>by cases hx
  |y::l,i,h,x,hx=>by
    have h:((bQ W y && Dz k i y) && fN W k (i+1) l)=true:=h;rw[Bool.and_eq_true,Bool.and_eq_true] at h
    rcases List.mem_cons.1 hx with rfl|hx
    · exact h.1.1
    · exact tn h.2 x hx
theorem Cl.xm {k:Int}{t:By}{l:List Tr}(h:Cl W (.mk k t l)) (i:Nat):Cl W (l.getD i cj):=by
  rw[List.getD_eq_getElem?_getD];cases hi:l[i]? with
  |none=>exact .inr rfl
  |some x =>
    rcases h with h|h
    · exact .inl (tn (OH.1 h).2 x (List.mem_of_getElem? hi))
    · cases h;cases hi
end Go.Proofs.YtdgckfkoihcmjaaGreatDoor
namespace Go.Proofs.YtdgckfkoihcmjaaGreatDoor
open Go.Proofs.Tryz
open Go Go.Lw
set_option maxRecDepth 20000 set_option maxHeartbeats 4000000
section
variable {h:aj}
def nO (l:By):List Value:=(List.range 256).map fun n=>.bool (decide (UInt8.ofNat n∈l))
@[simp] theorem Gg (l:By):(nO l).length=256:=by unfold nO;rw[List.length_map,List.length_range]
theorem Dm (l:By) (c:UInt8):(nO l)[c.toNat]? =some (.bool (decide (c∈l))):=by
 unfold nO;rw[List.getElem?_map,List.getElem?_range c.toNat_lt];simp
theorem Gf (l:By) (c:UInt8):(nO l).set c.toNat (.bool true)=nO (l++[c]):=by
 apply List.ext_getElem?
 intro n;rw[List.getElem?_set]
 by_cases h:c.toNat=n
 · subst h;rw[if_pos rfl,if_pos (by rw[Gg];exact c.toNat_lt),Dm];simp
 · rw[if_neg h];unfold nO;rw[List.getElem?_map,List.getElem?_map]
   by_cases hn:n<256
   · rw[List.getElem?_range hn];have:¬UInt8.ofNat n=c:=fun q=>h (by rw[<-q];exact UInt8.toNat_ofNat_of_lt' hn)
     simp[this]
   · rw[List.getElem?_eq_none (by rw[List.length_range];omega)];rfl
theorem Ar (l:By):∀v∈nO l,v.oneCell'=true:=fun v hv=>by unfold nO at hv;simp at hv;obtain⟨_,_,rfl⟩:=hv;rfl
theorem Ef (s:By) (hs:s.all (fun c=>decide (c.toNat<128))=true) (hsl:s.length<=1000000):av Tryz.prog 185 #[.string (bs s)] h (bq fun r h'=>r=packed [.agg (nO s).toArray,.bool true]/\aq h h'):=by
 have hbz:=aL s;refine bP ?_;refine af ?_;refine xo rfl (cm) ?_;rintro _ h1 ⟨rfl,k1,e1,z1⟩;have k1:aC h1 h.size 279 (nO []):=k1;refine af ?_;refine gJ (σ:=Nat) (fun i=>[(4,.int .i64 (i:Nat))]) (fun i g=>i<=s.length/\aC g h.size 279 (nO (s.take i))/\aq h g) (fun i=>s.length-i) (0) ⟨Nat.zero_le _,k1,e1⟩ rfl ?_;rintro i g ⟨hi,kg,eg⟩ ih;refine af ?_;refine aP (fun hlt=>?_) (fun hlt=>?_)
 · have hil:i<s.length:=by omega
   obtain⟨c,hc⟩:∃c,s[i]? =some c:=⟨_,List.getElem?_eq_getElem hil⟩
   have hc7:c.toNat<128:=of_decide_eq_true (List.all_eq_true.1 hs c (List.mem_of_getElem? hc));refine af ?_;refine xp rfl (sG rfl rfl i rfl (eJ hc)) ?_;refine af ?_;refine eC rfl (by simp;omega) ?_;refine aR ?_;refine de ?_;refine aZ ?_;refine xp rfl (xM rfl rfl c.toNat rfl c.toNat_lt) ?_;refine aH rfl (kY rfl rfl kg) ?_;rintro _ g2 ⟨rfl,k2,x2,z2⟩;have k2:aC g2 h.size 279 (nO (s.take (i+1))):=by rw[List.take_add_one,hc,show (some c).toList=[c] from rfl,<-Gf];simpa using k2
   refine af ?_;exact ih (i+1) ⟨hil,k2,aq.only eg x2 (Nat.le_refl _)⟩
 · have hie:i=s.length:=by omega
   rw[hie,List.take_length] at kg;refine af ?_;refine xp rfl (bV rfl kg.row) ?_;refine aH rfl (aK rfl rfl kg (Ar s)) ?_;rintro _ g2 ⟨rfl,k2,x2,z2⟩;refine af ?_;refine bF (br rfl k2.row (dM bE)) ?_;exact⟨_,rfl,by simp[over,List.drop_eq_nil_of_le],aq.only eg x2 (Nat.le_refl _)⟩
theorem sv {b:Nat}{l:By}(k:aC h b 279 (nO l)) (c:UInt8):av Tryz.prog 196 #[ptr b,.int .u8 (c.toNat:Nat)] h (bq fun r h'=>r= .bool (decide (c∈l))/\h'=h):=by
 refine bP ?_;refine aR ?_;refine de ?_;refine aZ ?_;refine cV ?_;refine aR ?_;refine de ?_
 iterate 3 refine aZ ?_
 refine xp rfl (xM rfl rfl c.toNat rfl c.toNat_lt) ?_;refine xp rfl (az rfl (by simpa using k.cell (Dm l c))) ?_;refine af ?_;refine bh ?_;exact⟨_,rfl,rfl,rfl⟩
theorem Ab {b:Nat}{l:By}(k:aC h b 279 (nO l)) (s:By):av Tryz.prog 186 #[.string (bs s),ptr b] h (bq fun r h'=>r= .string (bs (s.dropWhile fun c=>decide (c∈l)))/\h'=h):=by
 refine bP ?_;refine af ?_;refine gJ (σ:=By) (fun t=>[(0,.string (bs t))]) (fun t g=>g=h/\t.dropWhile (fun c=>decide (c∈l))=s.dropWhile fun c=>decide (c∈l)) (fun t=>t.length) (s) ⟨rfl,rfl⟩ rfl ?_;rintro t g ⟨rfl,ht⟩ ih;have hbz:=aL t;rw[<-ht];refine af ?_
 rcases t with _|⟨c,r⟩
 · refine eC rfl (by decide) ?_;refine af ?_;refine bh ?_;exact⟨_,rfl,rfl,rfl⟩
 · refine eu rfl (by rw[hbz];simp) ?_;refine af ?_;refine xp rfl (sG rfl rfl 0 rfl (eJ (l:=c::r) (c:=c) rfl)) ?_;refine xo rfl (aF rfl (sv k c)) ?_;rintro _ g1 ⟨rfl,hg1⟩;subst hg1;refine af ?_;refine fF (fun hb=>?_) (fun hb=>?_)
   · have hb:¬c∈l:=by simpa using hb
     refine af ?_;refine bh ?_;exact⟨_,rfl,by rw[List.dropWhile_cons,if_neg (by simpa using hb)];rfl,rfl⟩
   · have hb:c∈l:=by simpa using hb
     refine af ?_;refine xp rfl (ay.ct underlying9 rfl rfl 1 rfl (by rw[hbz];simp)) ?_;rw[eI,ht];refine af ?_;exact ih r ⟨rfl,by rw[<-ht,List.dropWhile_cons,if_pos (by simpa using hb)]⟩ (by simp)
abbrev Cg:By:=[48,49,50,51,52,53,54,55,56,57]
theorem Js (c:UInt8):decide (c∈Cg)=jP c:=by
 have k:∀n:Fin 256,decide (UInt8.ofFin n∈Cg)=jP (UInt8.ofFin n):=by unfold jP;decide +kernel
 exact k c.toFin
theorem Cc (s:By):av Tryz.prog 173 #[.string (bs s),.string (bs Cg)] h (bq fun r h'=>r= .string (bs (cx s))/\aq h h'):=by
 have hd:s.dropWhile (fun c=>decide (c∈Cg))=cx s:=by unfold cx;congr 1;funext c;exact Js c
 refine bP ?_;refine aR ?_;refine de ?_;refine aZ ?_;refine cV ?_
 iterate 2 refine aR ?_
 refine dW [(12,.bool (decide (s=[])))] rfl ?_ ?_
 · refine af ?_;refine b9 9 (fun g=>?_) (fun g=>?_)
   · have g:=of_decide_eq_true g;refine af ?_;exact aA rfl ⟨ai rfl (by rw[decide_eq_true (aI g)]),sb rfl⟩
   · have g:=of_decide_eq_false g;refine af ?_;exact aA rfl ⟨ai rfl (by rw[show decide (s=[])=false from decide_eq_false (fun q=>g (by rw[q];rfl))];rfl),sb rfl⟩
 · refine aP (fun h0=>?_) (fun h0=>?_)
   · refine af ?_;refine bh ?_;exact⟨_,rfl,by rw[h0];rfl,Ext.refl _ _⟩
   · iterate 3 refine aR ?_
     refine dW [(21,.bool false)] rfl ?_ ?_
     · refine af ?_;refine RW.ck (d:=17) (b':=false) rfl (rfl) ?_;refine af ?_;exact aA rfl ⟨ai rfl (rfl),sb rfl⟩
     · refine eC rfl (by simp) ?_;refine af ?_;refine xo rfl (aF rfl (Ef Cg (by decide) (by decide))) ?_;rintro _ h1 ⟨rfl,e1⟩;refine af ?_;refine xo rfl (cm) ?_;rintro _ h2 ⟨rfl,k2,e2,z2⟩;refine aH rfl (aK rfl rfl k2 (Ar Cg)) ?_;rintro _ h3 ⟨rfl,k3,x3,z3⟩;have k3:aC h3 h1.size 279 (nO Cg):=k3;refine af ?_;refine eu rfl (by simp) ?_;refine af ?_;refine xo rfl (aF rfl (Ab k3 s)) ?_;rintro _ h4 ⟨rfl,hh4⟩;refine af ?_;refine bh ?_;have e13:aq h1 h3:=aq.only e2 x3 (Nat.le_refl _);exact⟨_,rfl,by rw[hd];rfl,by rw[hh4];exact e1.trans e13⟩
theorem iT (s:By):av Tryz.prog 156 #[.string (bs s)] h (bq fun r h'=>r=packed [.string (bs (cx s)),.bool (eo s)]/\aq h h'):=by
 have q1:=aL s;have q2:=aL (cx s);refine bP ?_;refine af ?_;refine xo rfl (aF rfl (Cc s)) ?_;rintro _ h1 ⟨rfl,e1⟩;refine af ?_;refine bh ?_;exact⟨_,rfl,by unfold eo;rw[q1,q2];simp,e1⟩
end
end Go.Proofs.YtdgckfkoihcmjaaGreatDoor

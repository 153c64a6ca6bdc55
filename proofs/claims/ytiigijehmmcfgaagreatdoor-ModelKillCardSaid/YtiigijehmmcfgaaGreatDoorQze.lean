/- What the proof of the statement leans on (part 31). -/
import Derived.Shelf.Unicode.ValidAny
import Derived.Test.YtiigijehmmcfgaaGreatDoorProg
import Derived.Test.YtiigijehmmcfgaaGreatDoorQzd

namespace Go.Proofs
open Go.Shelf
def Tryz.zY:Go.Shelf.Ren:=⟨fun| 196=>20| 259=>42|n=>n,fun| 9=>9| 4=>4| 3=>3| 5=>5| 12=>12| 119=>57| 0=>0| 46=>61| 139=>60| 138=>59| 53=>81|n=>n,fun| 3=>0| 4=>1|n=>n⟩
theorem Tryz.GP:Go.Proofs.Lays.n196 Tryz.prog Tryz.zY:= {
  mixed:=by kernel_rfl
  f196:=Tryz.func20.trans (congrArg some (by kernel_rfl))
  f259:=Tryz.func42.trans (congrArg some (by kernel_rfl))
  t0:=Tryz.underlying0
  a0:=Tryz.isAgg0
  z0:=Tryz.sizeOf0
  v0:=Tryz.zeroValue0
  t3:=Tryz.underlying3
  a3:=Tryz.isAgg3
  z3:=Tryz.sizeOf3
  v3:=Tryz.zeroValue3
  t4:=Tryz.underlying4
  a4:=Tryz.isAgg4
  z4:=Tryz.sizeOf4
  v4:=Tryz.zeroValue4
  t5:=Tryz.underlying5
  a5:=Tryz.isAgg5
  z5:=Tryz.sizeOf5
  v5:=Tryz.zeroValue5
  t9:=Tryz.underlying9
  a9:=Tryz.isAgg9
  z9:=Tryz.sizeOf9
  v9:=Tryz.zeroValue9
  t12:=Tryz.underlying12
  a12:=Tryz.isAgg12
  z12:=Tryz.sizeOf12
  v12:=Tryz.zeroValue12
  t46:=Tryz.underlying61
  a46:=Tryz.isAgg61
  z46:=Tryz.sizeOf61
  v46:=Tryz.zeroValue61
  t53:=Tryz.underlying81
  a53:=Tryz.isAgg81
  z53:=Tryz.sizeOf81
  v53:=Tryz.zeroValue81
  t119:=Tryz.underlying57
  a119:=Tryz.isAgg57
  z119:=Tryz.sizeOf57
  t138:=Tryz.underlying59
  a138:=Tryz.isAgg59
  z138:=Tryz.sizeOf59
  v138:=Tryz.zeroValue59
  t139:=Tryz.underlying60
  a139:=Tryz.isAgg60
  z139:=Tryz.sizeOf60
  v139:=Tryz.zeroValue60
  g3:=by kernel_rfl
  g4:=by kernel_rfl }
theorem Tryz.utf8_ValidString (s:ByteArray) (w:World) (hs:s.size<=9223372036854775807) (hT:Lib.Utf8Tabs 0 1 w):Calls Tryz.prog 20 #[.string s] w fun e w'=>e= .returned (.bool (Lib.validD s.data.toList))/\RowKit.Below w.heap.size w w':=Any.utf8_ValidString Tryz.GP s w hs hT
end Go.Proofs
namespace Go.Proofs.YtiigijehmmcfgaaGreatDoor
open Go.Proofs.Tryz
open Go Go.Lw
set_option maxRecDepth 20000
section
variable {h:ay}{t:By}{s:MS}
theorem xm (hg:iW h) (l:By) (hl:l.length<=9223372036854775807):ah Tryz.prog 20 #[.string (bs l)] h (bX fun r h'=>r= .bool (Lib.validD l)/\aD h h'):=by
 refine ah.kY fun w hw=>?_
 subst hw;have hT:Lib.Utf8Tabs 0 1 w:=⟨fun c hc=>by rw[cJ];exact hg.utf.1 c hc,fun i hi=>⟨by rw[cJ];exact(hg.utf.2 i hi).1,by rw[cJ];exact(hg.utf.2 i hi).2⟩⟩
 refine(Tryz.utf8_ValidString (bs l) w (by rw[bf];omega) hT).mono ?_;rintro e w' ⟨rfl,hb⟩;rw[gJ];exact⟨_,rfl,⟨rfl,⟨hb.size,fun b hlt _=>hb.block b hlt⟩⟩,hb.os,hb.tape,hb.output⟩
theorem yP (hg:iW h) (l:By) (hl:l.length<=9223372036854775807):ah Tryz.prog 10 #[.string (bs l)] h (bX fun r h'=>r= .bool (Lib.validD l)/\aD h h'):=by
 refine ah.of func10 rfl rfl ?_;refine aY func10 1 [0,2] rfl ?_;refine bC func10 1 rfl ?_;refine xo rfl (aj (vs:=[_]) func20 rfl H.Lo rfl (ah.aX (xm hg l hl))) ?_;rintro _ h1 ⟨rfl,e1⟩;refine aS 1 [0,2] rfl ?_;refine aJ func10 rfl rfl ?_;exact⟨_,rfl,rfl,e1⟩
def xl (n:Nat):Int:=[1,0,6,7].getD n 0
theorem Ii {n:Nat}(h:n<4):(xl n=0\/xl n=1\/xl n=6\/xl n=7)/\(#[Value.int .i64 1,.int .i64 0,.int .i64 6,.int .i64 7]:Array Value)[n]? =some (.int .i64 (xl n)):=by
 match n,h with
 | 0,_=>exact⟨.inr (.inl rfl),rfl⟩
 | 1,_=>exact⟨.inl rfl,rfl⟩
 | 2,_=>exact⟨.inr (.inr (.inl rfl)),rfl⟩
 | 3,_=>exact⟨.inr (.inr (.inr rfl)),rfl⟩
def kH (t:By) (p:Nat):MS:= { nR with text:=t,cur:=(p:Nat) }
theorem GV {p:Nat}(h:t.length<=200):MI 0 (kH t p) :=
 ⟨by show t.length<=_;omega,by simp[kH,nR],by simp[kH,nR],by simp[kH,nR],by simp[kH,nR],by simp[kH,nR],by simp[kH,nR],by simp[kH,nR],by simp[kH,nR],by simp[kH,nR],rfl,by simp[kH,nR],by simp[kH,nR],by simp[kH,nR],by simp[kH,nR],by simp[kH,nR],by simp[kH,nR]⟩
theorem GW {p:Nat}(h:t.length<=200) (hv:qu t) (hp:ew t p):KS t (kH t p):=by
 have hl:(t.take p).length=p:=by rw[List.length_take];have:=jm hp;omega
 exact⟨rfl,h,t.take p,t.drop p,[],(List.take_append_drop p t).symm,by rw[hl];rfl,(hv.parts hp).1,(hv.parts hp).2,by rw[List.append_nil,List.take_append_drop],.inl ⟨rfl,rfl,rfl⟩⟩
theorem KS.ring {t:By}{s:MS}(h:KS t s):s.ring.length<=1:=by
 obtain⟨_,_,_,_,_,_,_,_,h6⟩:=h.parts
 rcases h6 with ⟨r,_⟩|⟨r,_⟩<;>rw[r]<;>simp
theorem KS.cur (h:KS t s):gW s:=by
 obtain⟨p,h1,h2,_⟩:=h.pl;exact⟨p,h1,h2⟩
theorem vv (hg:iW h) (happ:∀{g:ay},iW g->ah Tryz.prog 7 #[] g (bX fun r h'=>r= .bool true/\aD g h')) (t:By) (HY:t.length<=9223372036854775807){P:Nat->Prop}{v:Value}{ws:By}(hv:cq .byte h P v ws) :
 ah Tryz.prog 5 #[.string (bs t),v] h (bX fun r h'=>r= .bool true/\aD h h'):=by
 have hbt:=bf t;obtain⟨oa,n,c,rfl,hsl⟩:=hv.open;have hn:=hsl.len;have hle:=hsl.le;have hcap:=hsl.cap;unfold maxLen at hcap;subst hn;refine ah.of func5 rfl rfl ?_;refine aY func5 1 [0,1,4] rfl ?_;refine au rfl ?_;refine au rfl ?_;refine G.tj (fun(u:Unit) (h':ay)=>aD h h') (fun(u:Unit)=>[(23,.bool (decide (200<t.length\/12<ws.length) || !Lib.validD t))]) [(0,_),(1,_),(4,_)] ⟨rfl,rfl,rfl,trivial⟩ func5 rfl ?_ ?_
 · refine cz 1 rfl rfl (ak.bq underlying9 rfl) ?_;refine aV 2 rfl ?_;refine aH (d:=14) rfl (fun d1=>?_) (fun d1=>?_)
   · have d1:=of_decide_eq_true d1;refine aV 9 rfl ?_;refine aC rfl ?_;exact⟨(),(Ext.refl _ _),az rfl (by rw[decide_eq_true (.inl (by omega))];rfl),rfl,rfl,rfl,trivial⟩
   · have d1:=of_decide_eq_false d1;refine cz 1 rfl rfl (ak.aM underlying34 rfl) ?_;refine aV 3 rfl ?_;refine aH (d:=19) rfl (fun d2=>?_) (fun d2=>?_)
     · have d2:=of_decide_eq_true d2;refine aV 4 rfl ?_;refine aC rfl ?_;exact⟨(),(Ext.refl _ _),az rfl (by rw[decide_eq_true (.inr (by omega))];rfl),rfl,rfl,rfl,trivial⟩
     · have d2:=of_decide_eq_false d2;refine aV 1 rfl ?_;refine xo rfl (aj (vs:=[_]) func10 rfl H.Lr rfl (ah.aX (yP hg t HY))) ?_;rintro _ h1 ⟨rfl,e1⟩;refine aV 2 rfl ?_;refine aC rfl ?_;exact⟨(),e1,az rfl (by rw[decide_eq_false (by omega),Bool.false_or]),rfl,rfl,rfl,trivial⟩
 · rintro u h1 e1;refine aP rfl rfl (fun hq=>?_) (fun hq=>?_)
   · refine xr func5 rfl ?_;refine xo rfl (aj (vs:=[]) func7 rfl H.K7 rfl (ah.aX (happ (hg.av e1)))) ?_;rintro _ h2 ⟨rfl,e2⟩;refine aS 1 [0,1,4,23] rfl ?_;refine aJ func5 rfl rfl ?_;exact⟨_,rfl,rfl,e1.trans e2⟩
   · rw[Bool.or_eq_false_iff,decide_eq_false_iff_not] at hq;obtain⟨q1,q2⟩:=hq;have hlen:t.length<=200:=by omega
     have hwl:ws.length<=12:=by omega
     have hval:qu t:=qu.tu t.length t (Nat.le_refl _) (by simpa using q2);refine aA rfl ?_;refine bC func5 3 rfl ?_;refine xp rfl (ak.bq underlying9 rfl) ?_;refine xp rfl (sM rfl rfl (by decide)) ?_;refine xo rfl (aj (vs:=[_,_]) func11 rfl H.Bq rfl (ah.aX ((ig t _ (by omega))))) ?_;rintro _ h2 ⟨rfl,e2⟩;have hp0:=fT t (IntKind.i64.wrap (((bs t).size:Int).tdiv 2));generalize eE t (IntKind.i64.wrap (((bs t).size:Int).tdiv 2))=p at hp0 ⊢;refine xp rfl (aO (H.Cb _ _ _) rfl) ?_;refine xo rfl (ax.aW H.dB) ?_;rintro _ h3 ⟨rfl,k3,e3,z3⟩;refine RW.bk rfl rfl rfl (ax.an H.aB rfl rfl k3 (by first|rfl|(simp;done)|(simp;omega)) (by first|decide|exact of_decide_eq_true rfl|(simp;done)|(simp;omega)) (ms1 (s:=kH t p))) ?_;rintro _ h4 ⟨rfl,k4,x4,z4⟩;have e23:=e1.trans (e2.trans e3);have F:LA (fun _=>False) h h4 h2.size (kH t p):=⟨none,0,0,none,0,0,none,0,0,none,0,0,k4,aD.only e23 x4 (e1.trans e2).size,(e1.trans e2).size,fun _ q=>q.elim,⟨cq.nil _ _ _,cq.nil _ _ _,cq.nil _ _ _,cq.nil _ _ _⟩⟩
     refine xd [0,1,4,5,23] rfl ?_;refine au rfl ?_;refine aY func5 1 [0,1,4,5,6,23] rfl ?_;refine G.block rfl rfl ?_;refine bT (σ:=Nat×MS) (fun w=>[(0,.string (bs t)),(1,.slice oa ws.length c),(5,.pointer (some ⟨h2.size,0,none⟩)),(6,.int .i64 (w.1:Nat))]) (fun w h'=>LA (fun _=>False) h h' h2.size w.2/\w.1<=ws.length/\MI (20000*w.1) w.2/\KS t w.2) (fun w=>ws.length-w.1) ((0,kH t p)) rfl ⟨rfl,rfl,rfl,rfl,trivial⟩ ⟨F,Nat.zero_le _,GV hlen,GW hlen hval hp0⟩ ?_;rintro⟨i,s⟩ h5 ⟨F,hi,hI,hK⟩ ih
     try dsimp only
     dsimp only at F hi hI hK;obtain⟨_,_,_,_,_,_,_,_,_,_,_,_,F⟩:=F;have hz5:=F.ext.size;have htx:=hI.text;refine au rfl ?_;refine bC func5 2 rfl ?_;refine xp rfl (ak.aM underlying34 rfl) ?_;refine aS 1 [0,1,5,6,35] rfl ?_;refine aG rfl rfl (fun hlt=>?_) (fun hlt=>?_)
     · have hil:i<ws.length:=by omega
       obtain⟨b,o',x,ha,_,hx,hc1⟩:=hsl.at (i:=i) hil;have hx4:x.toNat%4<4:=Nat.mod_lt _ (by decide);obtain⟨hw,harr⟩:=Ii hx4;generalize hm:x.toNat%4=m at hx4 hw harr;have hmm:((x.toNat:Nat):Int).tmod 4=(m:Nat):=by rw[<-hm];exact(Int.ofNat_tmod x.toNat 4).symm
       refine aA rfl ?_;refine au rfl ?_;refine G.block rfl rfl ?_;refine xr func5 rfl ?_;refine xp rfl (aO (H.yE _ _ _ _) rfl) ?_;refine cz 2 rfl rfl (ak.aF underlying34 H.Jc rfl rfl i rfl ha (by omega)) ?_;refine xp rfl (af H.LK rfl (F.ext.cell (fun k=>k) hc1)) ?_;refine xp rfl (yI rfl rfl (by decide)) ?_;refine xp rfl (ak.qc underlying39 H.aQ H.bG rfl rfl m hmm hx4 harr) ?_;refine aS 1 [0,1,5,6,7,35] rfl ?_;refine xr func5 rfl ?_;refine xp rfl (aa (off:=1) underlying27 rfl rfl H.aQ rfl) ?_;refine xp rfl (af H.bG rfl (F.blk.cell (i:=1) rfl)) ?_;refine aS 1 [0,1,5,6,7,8,35] rfl ?_;refine au rfl ?_;refine xr func5 rfl ?_;refine xp rfl (aa (off:=0) underlying27 rfl rfl H.cu rfl) ?_;refine xp rfl (af H.cV rfl (F.blk.cell (i:=0) rfl)) ?_;refine aV 2 rfl ?_;refine xo rfl (aj (vs:=[_,_,_,_]) func12 rfl H.nJ rfl (ah.aX ((dD (hg.av F.ext) s.text s.cur (xl m) 1 (by omega))))) ?_;rintro _ h6 ⟨rfl,e6⟩;refine aS 2 [0,1,5,6,7,8,35,53] rfl ?_;have F:=F.av e6;refine aG rfl rfl (fun hq=>?_) (fun hq=>?_)
       · refine bM rfl rfl ?_;refine G.bV func5 rfl ?_;refine cz 1 rfl rfl (ak.bL rfl rfl ⟨by omega,by omega⟩) ?_;refine aS 1 [0,1,5,6,7,8,35,53] rfl ?_;exact ih (i+1,s) _ _ ⟨rfl,rfl,rfl,rfl,trivial⟩ ⟨⟨_,_,_,_,_,_,_,_,_,_,_,_,F⟩,by show i+1<=_;omega,hI.up (by show 20000*i<=20000*(i+1);omega),hK⟩ (by show ws.length-(i+1)<ws.length-i;omega)
       · obtain⟨hK2,hr1⟩:=Fu hK hw hq;have hA:=qV hI hK.cur (nL (xl m));have hap:=iK (hg.av F.ext) F.dA F.hO hI (by omega) (nL (xl m)) (by show 0<=_;omega);generalize en s (nL (xl m))=s2 at *;refine aA rfl ?_;refine xr func5 rfl ?_;refine xp rfl (ak.aq H.aK H.aB rfl F.blk.row (by first|rfl|(simp;done)|(simp;omega))) ?_;refine cz 1 rfl rfl (aO (H.jw _ _ _) rfl) ?_;refine xo rfl (aj (vs:=[_,_]) func8 rfl H.Jy rfl (ah.aX (hap))) ?_;rintro v7 h7 ⟨kv,e7⟩;obtain⟨_,_,_,_,_,_,_,_,_,_,_,_,rfl,hT⟩:=bE.get kv;have F:=F.av e7;refine RW.bk rfl rfl rfl (ax.an H.aB rfl rfl F.blk (by first|rfl|(simp;done)|(simp;omega)) (by first|decide|exact of_decide_eq_true rfl|(simp;done)|(simp;omega)) (ms1)) ?_;rintro _ h8 ⟨rfl,k8,x8,z8⟩;have F:=F.set k8 x8 hT;have hrl:=F.ms.ring.open_slice.len;refine xd [0,1,5,6,7,8,35,53] rfl ?_;refine au rfl ?_;refine xr func5 rfl ?_;refine xp rfl (aa (off:=4) underlying27 rfl rfl H.dF rfl) ?_;refine xp rfl (af H.fC rfl (F.blk.cell (i:=4) rfl)) ?_;refine xp rfl (ak.aM underlying24 rfl) ?_;refine aS 1 [0,1,5,6,7,8,35,53,61] rfl ?_;refine aG rfl rfl (fun c1=>?_) (fun c1=>?_)
         · exact absurd c1 (by omega)
         · have hyt:=Ew hK2 hr1;have hap2:=iK (hg.av F.ext) F.dA F.hO hA.1.inv (by omega) AS (by show 0<=_;omega);generalize en s2 AS=s3 at *;refine aA rfl ?_;refine xr func5 rfl ?_;refine xp rfl (ak.aq H.aK H.aB rfl F.blk.row (by first|rfl|(simp;done)|(simp;omega))) ?_;refine xp rfl (aO (H.AH _ _) rfl) ?_;refine xo rfl (aj (vs:=[_,_]) func8 rfl H.Jy rfl (ah.aX (hap2))) ?_;rintro v9 h9 ⟨kv9,e9⟩;refine xo rfl (ax.aW H.dB) ?_;rintro _ h10 ⟨rfl,k10,e10,z10⟩;obtain⟨_,_,_,_,_,_,_,_,_,_,_,_,rfl,_⟩:=bE.get kv9;refine RW.bk rfl rfl rfl (ax.an H.aB rfl rfl k10 (by first|rfl|(simp;done)|(simp;omega)) (by first|decide|exact of_decide_eq_true rfl|(simp;done)|(simp;omega)) (ms1)) ?_;rintro _ h11 ⟨rfl,k11,x11,z11⟩;have k11:bu h11 h9.size 27 (sy s3 _ _ _ _):=k11;have eF:aD h8 h11:=aD.only (e9.trans e10) x11 e9.size;have F:=F.av eF;refine xd [0,1,5,6,7,8,9,35,53,61] rfl ?_;refine xr func5 rfl ?_;refine xp rfl (aa (off:=0) underlying27 rfl rfl H.cu rfl) ?_;refine xp rfl (af H.cV rfl (k11.cell (i:=0) rfl)) ?_;refine cz 1 rfl rfl (ak.tF rfl rfl) ?_;refine xd [0,1,5,6,7,8,9,35,53,61,68] rfl ?_;refine aG rfl rfl (fun c2=>?_) (fun c2=>?_)
           · exact absurd c2 (by rw[hyt];exact fun q=>q rfl)
           · refine aA rfl ?_;refine G.aU ?_;refine G.bV func5 rfl ?_;refine cz 1 rfl rfl (ak.bL rfl rfl ⟨by omega,by omega⟩) ?_;refine aS 1 [0,1,5,6,7,8,9,35,53,61,68] rfl ?_;exact ih (i+1,s2) _ _ ⟨rfl,rfl,rfl,rfl,trivial⟩ ⟨⟨_,_,_,_,_,_,_,_,_,_,_,_,F⟩,by show i+1<=_;omega,hA.1.inv.up (by show _<=20000*(i+1);omega),hK2⟩ (by show ws.length-(i+1)<ws.length-i;omega)
     · have hA:=qV hI hK.cur (tI 12);have hal:=fun hne=>DP hK hne hK.ring
       have hap:=iK (hg.av F.ext) F.dA F.hO hI (by omega) (tI 12) (by show 0<=_;omega);have hap2:=fun {Q:Nat->Prop}{g:ay}{w:Value}(e:aD h5 g) (kw:bE Q g w (en s (tI 12))) (hQ:∀y,Q y->y<g.size)=>iK ((hg.av F.ext).av e) kw hQ hA.1.inv (by omega) (nL 1) (by show 0<=_;omega)
       generalize en s (tI 12)=s1 at *;generalize en s1 (nL 1)=s2 at *;refine bM rfl rfl ?_;refine xr func5 rfl ?_;refine xp rfl (ak.aq H.aK H.aB rfl F.blk.row (by first|rfl|(simp;done)|(simp;omega))) ?_;refine xp rfl (aO (H.jw _ _ _) rfl) ?_;refine xo rfl (aj (vs:=[_,_]) func8 rfl H.Jy rfl (ah.aX (hap))) ?_;rintro v6 h6 ⟨kv6,e6⟩;refine xp rfl (aO (H.jw _ _ _) rfl) ?_;refine xo rfl (aj (vs:=[_,_]) func8 rfl H.Jy rfl (ah.aX (hap2 e6 kv6 (fun y hy=>Nat.lt_of_lt_of_le (F.hO y hy) e6.size)))) ?_;rintro v7 h7 ⟨kv7,e7⟩;refine xo rfl (ax.aW H.dB) ?_;rintro _ h8 ⟨rfl,k8,e8,z8⟩;obtain⟨_,_,_,_,_,_,_,_,_,_,_,_,rfl,hT⟩:=bE.get kv7;refine RW.bk rfl rfl rfl (ax.an H.aB rfl rfl k8 (by first|rfl|(simp;done)|(simp;omega)) (by first|decide|exact of_decide_eq_true rfl|(simp;done)|(simp;omega)) (ms1)) ?_;rintro _ h9 ⟨rfl,k9,x9,z9⟩;have k9:bu h9 h7.size 27 (sy s2 _ _ _ _):=k9;have eF:aD h5 h9:=aD.only ((e6.trans e7).trans e8) x9 (e6.trans e7).size;have F:=F.av eF;have l1:=F.ms.ring.open_slice.len;have l2:=hT.ring.open_slice.len;have hkr:=hK.ring;refine xd [0,1,5,6,10,35] rfl ?_;refine au rfl ?_;refine G.tj (fun(u:Unit) (h':ay)=>aD h9 h') (fun(u:Unit)=>[(4,.bool true)]) [(0,_),(1,_),(5,_),(6,_),(10,_),(35,_)] ⟨rfl,rfl,rfl,rfl,rfl,rfl,trivial⟩ func5 rfl ?_ ?_
       · refine xp rfl (aa (off:=0) underlying27 rfl rfl H.cu rfl) ?_;refine xp rfl (af H.cV rfl (F.blk.cell (i:=0) rfl)) ?_;refine xp rfl (ak.fq rfl rfl) ?_;refine aV 1 rfl ?_;refine aH (d:=77) rfl (fun d1=>?_) (fun d1=>?_)
         · refine aV 10 rfl ?_;refine RW.fL (d:=87) (b':=true) rfl ((rfl)) ?_;refine xo rfl (aj (vs:=[]) func7 rfl H.K7 rfl (ah.aX (happ (hg.av F.ext)))) ?_;rintro _ h10 ⟨rfl,e10⟩;refine aV 2 rfl ?_;refine aC rfl ?_;exact⟨(),e10,rfl,rfl,rfl,rfl,rfl,rfl,rfl,trivial⟩
         · have d1:=of_decide_eq_false d1;have hne:s.text≠[]:=fun q=>d1 (by rw[q];rfl)
           have hal:=hal hne;refine xp rfl (aa (off:=4) underlying27 rfl rfl H.dF rfl) ?_;refine xp rfl (af H.fC rfl (k9.cell (i:=4) rfl)) ?_;refine xp rfl (ak.aM underlying24 rfl) ?_;refine xp rfl (aa (off:=4) underlying27 rfl rfl H.dF rfl) ?_;refine xp rfl (af H.fC rfl (F.blk.cell (i:=4) rfl)) ?_;refine xp rfl (ak.aM underlying24 rfl) ?_;refine xp rfl (ak.bL rfl rfl ⟨by omega,by omega⟩) ?_;refine aV 3 rfl ?_;refine RW.fL (d:=87) (b':=true) rfl (decide_eq_true (by omega)) ?_;refine xo rfl (aj (vs:=[]) func7 rfl H.K7 rfl (ah.aX (happ (hg.av F.ext)))) ?_;rintro _ h10 ⟨rfl,e10⟩;refine aV 2 rfl ?_;refine aC rfl ?_;exact⟨(),e10,rfl,rfl,rfl,rfl,rfl,rfl,rfl,trivial⟩
       · rintro u h10 e10;refine aJ func5 rfl rfl ?_;exact⟨_,rfl,rfl,F.ext.trans e10⟩
def iI:List Cm:=[⟨2,0,2,[97,98],false⟩,⟨3,0,2,[],false⟩,⟨5,3,1,[],false⟩,⟨9,0,1,[],false⟩,⟨14,0,0,[],false⟩,⟨17,0,0,[],false⟩]
def FU:List Cm:=[⟨2,0,1,[40],false⟩,⟨14,0,0,[],false⟩]
theorem Ec:(fu (iI.take 1)).text=[97,98,97,98]/\(fu (iI.take 1)).cur=4/\(fu (iI.take 2)).cur=2/\(fu (iI.take 3)).text=[97,98]/\(fu (iI.take 3)).ring=[[97,98]]/\(fu (iI.take 4)).text=[97,98,97,98] /\
 (fu (iI.take 5)).text=[]/\(fu (iI.take 5)).lines=[[97,98,97,98]]/\(fu (iI.take 5)).flags=[false]/\(fu iI).text=[97,98,97,98]/\(fu FU).text=[40,10,32,32]/\(fu FU).cur=4:=by
 decide +kernel
noncomputable abbrev DA:Array Oper:=opsOf (sub (aI f7) [0,1,1])
def KN (k:Nat):Nat:=[2,5,8,11,14,16].getD k 0
def Ji (k:Nat):Nat:=[19,22,25,28,31,33].getD k 0
def KP (a:Nat):Nat:=17+a
def KE (a:Nat):Nat:=2+a
def LH (k m:Nat):Nat:=46811+[0,4,36,292,2340,18724,84260].getD k 0+131072*m
theorem Jn:yX DA=[0,1,2,0,8,20,0,64,160,0,512,1280,0,4096,10240,0,49152,0,0,0,0,0,0,8323079,16646207,33423871,66981887,134119423,268435455]:=by kernel_rfl
theorem Kz:∀k,k<=6->IW [0,1,2,0,8,20,0,64,160,0,512,1280,0,4096,10240,0,49152,0,0,0,0,0,0,8323079,16646207,33423871,66981887,134119423,268435455] 6 6 KN KP LH k=true:=by decide +kernel
noncomputable def LG:Oper:=⟨none,.move (.tmp 0),0, "",#[],none⟩
noncomputable def KM (k:Nat):Oper:=(nth DA.toList (KN k)).getD LG
noncomputable def KO (a:Nat):Oper:=(nth DA.toList (KP a)).getD LG
theorem vQ {ops:Array Oper}{o:Oper}(h:o.guard=none) (ρ:Env):bH ops ρ o=some true:=by unfold bH;rw[h]
theorem yz:∀k,k<6->nth DA.toList (KN k)=some (KM k)/\(KM k).dst=some (Ji k)/\(KM k).guard=none/\gU Tryz.f7.ntmps (some (Ji k))=true
 | 0,_=>⟨by kernel_rfl,by kernel_rfl,by kernel_rfl,by kernel_rfl⟩
 | 1,_=>⟨by kernel_rfl,by kernel_rfl,by kernel_rfl,by kernel_rfl⟩
 | 2,_=>⟨by kernel_rfl,by kernel_rfl,by kernel_rfl,by kernel_rfl⟩
 | 3,_=>⟨by kernel_rfl,by kernel_rfl,by kernel_rfl,by kernel_rfl⟩
 | 4,_=>⟨by kernel_rfl,by kernel_rfl,by kernel_rfl,by kernel_rfl⟩
 | 5,_=>⟨by kernel_rfl,by kernel_rfl,by kernel_rfl,by kernel_rfl⟩
 |k+6,h=>by omega
theorem yG:∀k,k<6->nth DA.toList (KP k)=some (KO k)/\(KO k).dst=some (KE k)/\(KO k).guard=none/\gU Tryz.f7.ntmps (some (KE k))=true
 | 0,_=>⟨by kernel_rfl,by kernel_rfl,by kernel_rfl,by kernel_rfl⟩
 | 1,_=>⟨by kernel_rfl,by kernel_rfl,by kernel_rfl,by kernel_rfl⟩
 | 2,_=>⟨by kernel_rfl,by kernel_rfl,by kernel_rfl,by kernel_rfl⟩
 | 3,_=>⟨by kernel_rfl,by kernel_rfl,by kernel_rfl,by kernel_rfl⟩
 | 4,_=>⟨by kernel_rfl,by kernel_rfl,by kernel_rfl,by kernel_rfl⟩
 | 5,_=>⟨by kernel_rfl,by kernel_rfl,by kernel_rfl,by kernel_rfl⟩
 |k+6,h=>by omega
theorem bE.less {O O':Nat->Prop}{v:Value}(k:bE O h v s) (ho:∀y,O' y->O y):bE O' h v s:=by
 obtain⟨rv,hv,lv,fv,rfl,hS⟩:=k;exact⟨rv,hv,lv,fv,rfl,hS.mv (Mv.eG (Ext.refl (fun _=>False) h) fun y _ q=>⟨fun k=>k,fun k=>q (ho y k)⟩)⟩
theorem o7.other {O:Nat->Prop}{h':ay}{rv hv lv fv:Value}{b:Nat}(k:o7 O h s rv hv lv fv) (x:Ext (fun y=>y=b) h h') (hb:O b):o7 O h' s rv hv lv fv :=
 k.mv (Mv.eG x fun y _ q=>⟨fun e=>q (e▸hb),q⟩)
theorem kK {b:Nat}(hv:cq Jh h (fun _=>False) (.slice (some ⟨b,0,none⟩) 6 6) iI) (j:Nat) (hj:j<=6):cq Jh h (fun _=>False) (.slice (cL (some ⟨b,0,none⟩) 0 5 6) j 6) (iI.take j):=by
 have:=(hv.open_slice.part (i:=0) (j:=j) (Nat.zero_le _) hj).shut
 rwa [Nat.sub_zero,Nat.sub_zero,List.drop_zero] at this
theorem CT:∀k,k<6->(iI.take (k+1)).length<=100/\∀x∈iI.take (k+1),x.text.length<=100000000:=by decide
theorem vK (hg:iW h):ah Tryz.prog 7 #[] h (bX fun r h'=>r= .bool true/\aD h h'):=by
 obtain⟨c1,c2,c3,c4,c5,c6,c7,c8,c9,c10,c11,c12⟩:=Ec;refine ah.of func7 rfl rfl ?_;refine aY func7 1 [0] rfl ?_;refine xr func7 rfl ?_;refine xp rfl (aO (H.uT _ _ _) rfl) ?_;refine xp rfl (aO (H.jw _ _ _) rfl) ?_;refine xp rfl (aO (H.jw _ _ _) rfl) ?_;refine xp rfl (aO (H.AH _ _) rfl) ?_;refine xp rfl (aO (H.Ca _) rfl) ?_;refine xp rfl (aO (H.Ca _) rfl) ?_;refine xo rfl (ax.wU underlying22 H.Kn ([D9 ⟨2,0,2,[97,98],false⟩,D9 ⟨3,0,2,[],false⟩,D9 ⟨5,3,1,[],false⟩,D9 ⟨9,0,1,[],false⟩,D9 ⟨14,0,0,[],false⟩,D9 ⟨17,0,0,[],false⟩]) rfl rfl (by decide) (by simp<;>repeat' (first|rfl|constructor))) ?_;rintro _ h1 ⟨rfl,hh1⟩;have hv:cq Jh h1 (fun _=>False) (.slice (some ⟨h.size,0,none⟩) 6 6) iI:=by rw[hh1];exact wo h iI 31 6 rfl (by decide) rfl
 have e1:aD h h1:=by rw[hh1];exact Ext.push _ _ _
 refine aS 1 [0,1] rfl ?_;refine au rfl ?_;refine G.qf (fun(bl:Nat->Nat) (h':ay)=>(∀j,j<6->∃rv hv lv fv,bu h' (bl j) 27 (sy (fu (iI.take (j+1))) rv hv lv fv)/\o7 (fun _=>False) h' (fu (iI.take (j+1))) rv hv lv fv)/\aD h1 h') (fun(bl:Nat->Nat)=>[(2,.pointer (some ⟨bl 0,0,none⟩)),(3,.pointer (some ⟨bl 1,0,none⟩)),(4,.pointer (some ⟨bl 2,0,none⟩)),(5,.pointer (some ⟨bl 3,0,none⟩)),(6,.pointer (some ⟨bl 4,0,none⟩)),(7,.pointer (some ⟨bl 5,0,none⟩))]) [(0,_),(1,_)] ⟨rfl,rfl,trivial⟩ (fun b=>Array.size h1<=b) (fun i=>Nat.blt i 23) (sz:=29) (listed:= #[false,false,false,false,false,false,false,false,false,false,false,false,false,false,false,false,false,false,false,false,false,false,false,false,false,false,false,false,false]) func7 H.mixed rfl rfl rfl ?_ ?_
 · refine Ja 0 1 (by kernel_rfl) rfl ?_;refine Jb 1 3 (by kernel_rfl) rfl (fun h' e=>ak.dU underlying22 H.iY rfl rfl 1 rfl (by decide)) ?_;refine Ja 3 11 (by kernel_rfl) rfl ?_;refine Jb 4 27 (by kernel_rfl) rfl (fun h' e=>ak.dU underlying22 H.iY rfl rfl 2 rfl (by decide)) ?_;refine Ja 6 91 (by kernel_rfl) rfl ?_;refine Jb 7 219 (by kernel_rfl) rfl (fun h' e=>ak.dU underlying22 H.iY rfl rfl 3 rfl (by decide)) ?_;refine Ja 9 731 (by kernel_rfl) rfl ?_;refine Jb 10 1755 (by kernel_rfl) rfl (fun h' e=>ak.dU underlying22 H.iY rfl rfl 4 rfl (by decide)) ?_;refine Ja 12 5851 (by kernel_rfl) rfl ?_;refine Jb 13 14043 (by kernel_rfl) rfl (fun h' e=>ak.dU underlying22 H.iY rfl rfl 5 rfl (by decide)) ?_;refine Ja 15 46811 (by kernel_rfl) rfl ?_
   refine Ep (nc:=6) (na:=6) (ci:=KN) (cd:=Ji) (ai:=KP) (ad:=KE) (co:=KM) (ao:=KO) (lst:=fun k m=>la DA.size (LH k m)) (fuel:=6) (h0:=h1) (ρ0:=[(32,.slice (some ⟨h.size,0,none⟩) 6 6),(30,.slice (cL (some ⟨h.size,0,none⟩) 0 5 6) 5 6),(27,.slice (cL (some ⟨h.size,0,none⟩) 0 5 6) 4 6),(24,.slice (cL (some ⟨h.size,0,none⟩) 0 5 6) 3 6),(21,.slice (cL (some ⟨h.size,0,none⟩) 0 5 6) 2 6),(18,.slice (cL (some ⟨h.size,0,none⟩) 0 5 6) 1 6),(0,.bool false),(1,.slice (some ⟨h.size,0,none⟩) 6 6)]) (R:=fun j O h v=>bE O h v (fu (iI.take (j+1)))) (Z:=fun h b=>bu h b 27 zC)
    (fun k m hk hm h0=>(CW Jn Kz k m hk hm h0).1) (fun k m hk hm h0=>(CW Jn Kz k m hk hm h0).2)
    (fun k hk=>⟨fA (yz k hk).1,(yz k hk).2.1,vQ (yz k hk).2.2.1,(yz k hk).2.2.2,?_⟩) (fun k hk=>⟨fA (yG k hk).1,(yG k hk).2.1,vQ (yG k hk).2.2.1,(yG k hk).2.2.2,?_⟩)
    (fun j k hj hk=>(by decide:∀j,j<6->∀k,k<6->Ji j=Ji k->j=k) j hj k hk) (fun j k _ _ e=>by unfold KE at e;omega) (fun j k hj hk=>(by decide:∀j,j<6->∀k,k<6->Ji j≠KE k) j hj k hk)
    (fun k hk ρ g O hs he hO=>?_) (fun a ha ρ g=>?_) (fun _ _ _ _ _ k e=>k.av e) (fun _ _ _ _ _ _ k e hb=>k.new e hb) (fun _ _ _ _ _ ho k=>k.less ho) (fun _ _ _ k e=>k.av e) (fun m bl ρ g hm hlt I=>?_) 12 0 0 (fun _=>none) _ h1 (by decide) (by decide) (by decide) ⟨⟨rfl,rfl,rfl,rfl,rfl,rfl,rfl,rfl,trivial⟩,Ext.refl _ _,fun j hj=>absurd hj (Nat.not_lt_zero j),fun a _ hb=>absurd hb (by simp),fun a b hb=>(nomatch hb),fun a a' b hb=>(nomatch hb)⟩
   · exact(by match k,hk with
      | 0,_=>rfl
      | 1,_=>rfl
      | 2,_=>rfl
      | 3,_=>rfl
      | 4,_=>rfl
      | 5,_=>rfl
      |k+6,h=>omega)
   · exact(by match k,hk with
      | 0,_=>rfl
      | 1,_=>rfl
      | 2,_=>rfl
      | 3,_=>rfl
      | 4,_=>rfl
      | 5,_=>rfl
      |k+6,h=>omega)
   · have eg:=e1.trans he;have hd:=fun {v:Value}(j:Nat) (hj:j<6) (w:cq Jh h1 (fun _=>False) v (iI.take (j+1)))=>uK (hg.av eg) hO (w.mv (Mv.av he)) (CT j hj).1 (CT j hj).2
     match k,hk with
     | 0,_=>exact aj (vs:=[_]) func14 rfl H.Bp (by show [ρ.at 18]=_;rw[hs.at 18 _ rfl];rfl) (ah.aX (hd 0 (by decide) (kK hv 1 (by decide))))
     | 1,_=>exact aj (vs:=[_]) func14 rfl H.Bp (by show [ρ.at 21]=_;rw[hs.at 21 _ rfl];rfl) (ah.aX (hd 1 (by decide) (kK hv 2 (by decide))))
     | 2,_=>exact aj (vs:=[_]) func14 rfl H.Bp (by show [ρ.at 24]=_;rw[hs.at 24 _ rfl];rfl) (ah.aX (hd 2 (by decide) (kK hv 3 (by decide))))
     | 3,_=>exact aj (vs:=[_]) func14 rfl H.Bp (by show [ρ.at 27]=_;rw[hs.at 27 _ rfl];rfl) (ah.aX (hd 3 (by decide) (kK hv 4 (by decide))))
     | 4,_=>exact aj (vs:=[_]) func14 rfl H.Bp (by show [ρ.at 30]=_;rw[hs.at 30 _ rfl];rfl) (ah.aX (hd 4 (by decide) (kK hv 5 (by decide))))
     | 5,_=>exact aj (vs:=[_]) func14 rfl H.Bp (by show [ρ.at 32]=_;rw[hs.at 32 _ rfl];rfl) (ah.aX (hd 5 (by decide) hv))
     |k+6,h=>omega
   · match a,ha with
     | 0,_=>exact ax.aW H.dB
     | 1,_=>exact ax.aW H.dB
     | 2,_=>exact ax.aW H.dB
     | 3,_=>exact ax.aW H.dB
     | 4,_=>exact ax.aW H.dB
     | 5,_=>exact ax.aW H.dB
     |k+6,h=>omega
   obtain rfl:m=63:=(by decide:∀m,m<64->(∀a,a<6->m.testBit a=true)->m=63) m hlt hm;obtain⟨v0,p0,q0⟩:=I.res 0 (by decide);obtain⟨v1,p1,q1⟩:=I.res 1 (by decide);obtain⟨v2,p2,q2⟩:=I.res 2 (by decide);obtain⟨v3,p3,q3⟩:=I.res 3 (by decide);obtain⟨v4,p4,q4⟩:=I.res 4 (by decide);obtain⟨v5,p5,q5⟩:=I.res 5 (by decide);obtain⟨b0,x0,y0,k0⟩:=I.blk 0 (by decide) (by decide);obtain⟨b1,x1,y1,k1⟩:=I.blk 1 (by decide) (by decide);obtain⟨b2,x2,y2,k2⟩:=I.blk 2 (by decide) (by decide);obtain⟨b3,x3,y3,k3⟩:=I.blk 3 (by decide) (by decide);obtain⟨b4,x4,y4,k4⟩:=I.blk 4 (by decide) (by decide);obtain⟨b5,x5,y5,k5⟩:=I.blk 5 (by decide) (by decide);have hne:∀a a' b b',bl a=some b->bl a'=some b'->a≠a'->b≠b':=fun a a' b b' h h' n e=>n (I.inj a a' b h (e▸h'))
   have hm0:∀y,(y=b0\/y=b1\/y=b2\/y=b3\/y=b4\/y=b5)->Fe bl y:=by
    rintro y (rfl|rfl|rfl|rfl|rfl|rfl)
    · exact⟨_,x0⟩
    · exact⟨_,x1⟩
    · exact⟨_,x2⟩
    · exact⟨_,x3⟩
    · exact⟨_,x4⟩
    · exact⟨_,x5⟩
   have eg:=I.ext;have hs:=I.sub;obtain⟨_,_,_,_,_,_,_,_,_,_,_,_,rfl,t0⟩:=bE.get (q0.less hm0);obtain⟨_,_,_,_,_,_,_,_,_,_,_,_,rfl,t1⟩:=bE.get (q1.less hm0);obtain⟨_,_,_,_,_,_,_,_,_,_,_,_,rfl,t2⟩:=bE.get (q2.less hm0);obtain⟨_,_,_,_,_,_,_,_,_,_,_,_,rfl,t3⟩:=bE.get (q3.less hm0);obtain⟨_,_,_,_,_,_,_,_,_,_,_,_,rfl,t4⟩:=bE.get (q4.less hm0);obtain⟨_,_,_,_,_,_,_,_,_,_,_,_,rfl,t5⟩:=bE.get (q5.less hm0)
   refine RD.sub (ρ':=[(19,_),(22,_),(25,_),(28,_),(31,_),(33,_),(2,.pointer (some ⟨b0,0,none⟩)),(3,.pointer (some ⟨b1,0,none⟩)),(4,.pointer (some ⟨b2,0,none⟩)),(5,.pointer (some ⟨b3,0,none⟩)),(6,.pointer (some ⟨b4,0,none⟩)),(7,.pointer (some ⟨b5,0,none⟩)),(0,.bool false),(1,.slice (some ⟨h.size,0,none⟩) 6 6)])
    ⟨p0,p1,p2,p3,p4,p5,y0,y1,y2,y3,y4,y5,hs.at 0 _ rfl,hs.at 1 _ rfl,trivial⟩ ?_
   show RD _ _ _ _ _ _ (la _ 8388607) _ _ _ _
   have n01:=hne _ _ _ _ x0 x1 (by decide);have n02:=hne _ _ _ _ x0 x2 (by decide);have n03:=hne _ _ _ _ x0 x3 (by decide);have n04:=hne _ _ _ _ x0 x4 (by decide);have n05:=hne _ _ _ _ x0 x5 (by decide);have n12:=hne _ _ _ _ x1 x2 (by decide);have n13:=hne _ _ _ _ x1 x3 (by decide);have n14:=hne _ _ _ _ x1 x4 (by decide);have n15:=hne _ _ _ _ x1 x5 (by decide);have n23:=hne _ _ _ _ x2 x3 (by decide);have n24:=hne _ _ _ _ x2 x4 (by decide);have n25:=hne _ _ _ _ x2 x5 (by decide);have n34:=hne _ _ _ _ x3 x4 (by decide);have n35:=hne _ _ _ _ x3 x5 (by decide);have n45:=hne _ _ _ _ x4 x5 (by decide);clear hne hm0;have z0:=(I.out _ _ x0).1;have z1:=(I.out _ _ x1).1;have z2:=(I.out _ _ x2).1;have z3:=(I.out _ _ x3).1;have z4:=(I.out _ _ x4).1;have z5:=(I.out _ _ x5).1;refine iN 23 16777215 (by kernel_rfl) rfl (ax.an H.aB rfl rfl k0 (by first|rfl|(simp;done)|(simp;omega)) (by first|decide|exact of_decide_eq_true rfl|(simp;done)|(simp;omega)) (ms1)) ?_;rintro _ g0 ⟨rfl,w0,u0,_⟩;refine⟨fun hk=>(nomatch hk),?_⟩;have k1:=k1.ext u0 (Ne.symm n01);have k2:=k2.ext u0 (Ne.symm n02);have k3:=k3.ext u0 (Ne.symm n03);have k4:=k4.ext u0 (Ne.symm n04);have k5:=k5.ext u0 (Ne.symm n05);refine iN 24 33554431 (by kernel_rfl) rfl (ax.an H.aB rfl rfl k1 (by first|rfl|(simp;done)|(simp;omega)) (by first|decide|exact of_decide_eq_true rfl|(simp;done)|(simp;omega)) (ms1)) ?_;rintro _ g1 ⟨rfl,w1,u1,_⟩;refine⟨fun hk=>(nomatch hk),?_⟩;have w0:=w0.ext u1 n01;have k2:=k2.ext u1 (Ne.symm n12);have k3:=k3.ext u1 (Ne.symm n13);have k4:=k4.ext u1 (Ne.symm n14);have k5:=k5.ext u1 (Ne.symm n15);refine iN 25 67108863 (by kernel_rfl) rfl (ax.an H.aB rfl rfl k2 (by first|rfl|(simp;done)|(simp;omega)) (by first|decide|exact of_decide_eq_true rfl|(simp;done)|(simp;omega)) (ms1)) ?_;rintro _ g2 ⟨rfl,w2,u2,_⟩;refine⟨fun hk=>(nomatch hk),?_⟩;have w0:=w0.ext u2 n02;have w1:=w1.ext u2 n12;have k3:=k3.ext u2 (Ne.symm n23);have k4:=k4.ext u2 (Ne.symm n24);have k5:=k5.ext u2 (Ne.symm n25);refine iN 26 134217727 (by kernel_rfl) rfl (ax.an H.aB rfl rfl k3 (by first|rfl|(simp;done)|(simp;omega)) (by first|decide|exact of_decide_eq_true rfl|(simp;done)|(simp;omega)) (ms1)) ?_;rintro _ g3 ⟨rfl,w3,u3,_⟩;refine⟨fun hk=>(nomatch hk),?_⟩;have w0:=w0.ext u3 n03;have w1:=w1.ext u3 n13;have w2:=w2.ext u3 n23;have k4:=k4.ext u3 (Ne.symm n34);have k5:=k5.ext u3 (Ne.symm n35);refine iN 27 268435455 (by kernel_rfl) rfl (ax.an H.aB rfl rfl k4 (by first|rfl|(simp;done)|(simp;omega)) (by first|decide|exact of_decide_eq_true rfl|(simp;done)|(simp;omega)) (ms1)) ?_;rintro _ g4 ⟨rfl,w4,u4,_⟩;refine⟨fun hk=>(nomatch hk),?_⟩;have w0:=w0.ext u4 n04;have w1:=w1.ext u4 n14;have w2:=w2.ext u4 n24;have w3:=w3.ext u4 n34;have k5:=k5.ext u4 (Ne.symm n45);refine iN 28 536870911 (by kernel_rfl) rfl (ax.an H.aB rfl rfl k5 (by first|rfl|(simp;done)|(simp;omega)) (by first|decide|exact of_decide_eq_true rfl|(simp;done)|(simp;omega)) (ms1)) ?_;rintro _ g5 ⟨rfl,w5,u5,_⟩;refine⟨fun hk=>(nomatch hk),?_⟩;have w0:=w0.ext u5 n05;have w1:=w1.ext u5 n15;have w2:=w2.ext u5 n25;have w3:=w3.ext u5 n35;have w4:=w4.ext u5 n45
   have fin:∀{s:MS}{a b c d:Value},o7 (fun y=>y=b0\/y=b1\/y=b2\/y=b3\/y=b4\/y=b5) g s a b c d->o7 (fun _=>False) g5 s a b c d:=fun {s a b c d} k =>
    ((((((k.other u0 (by simp)).other u1 (by simp)).other u2 (by simp)).other u3 (by simp)).other u4 (by simp)).other u5 (by simp)).mv (Mv.eG (Ext.refl (fun _=>False) g5) fun y _ q=>⟨fun k=>k,fun k=>k.elim⟩)
   have ee:=aD.only (aD.only (aD.only (aD.only (aD.only (aD.only eg u0 z0) u1 z1) u2 z2) u3 z3) u4 z4) u5 z5;refine aR (by kernel_rfl) ?_;exact⟨(fun j=>[b0,b1,b2,b3,b4,b5].getD j 0),⟨fun j hj=>by match j,hj with| 0,_=>exact⟨_,_,_,_,w0,fin t0⟩| 1,_=>exact⟨_,_,_,_,w1,fin t1⟩| 2,_=>exact⟨_,_,_,_,w2,fin t2⟩| 3,_=>exact⟨_,_,_,_,w3,fin t3⟩| 4,_=>exact⟨_,_,_,_,w4,fin t4⟩| 5,_=>exact⟨_,_,_,_,w5,fin t5⟩|k+6,h=>omega,ee⟩,rfl,rfl,rfl,rfl,rfl,rfl,rfl,rfl,trivial⟩
 · rintro bl g ⟨hbl,eg⟩;obtain⟨_,_,_,_,k0,_⟩:=hbl 0 (by decide);obtain⟨_,_,_,_,k1,_⟩:=hbl 1 (by decide);obtain⟨_,_,_,_,k2,m2⟩:=hbl 2 (by decide);obtain⟨_,_,_,_,k3,_⟩:=hbl 3 (by decide);obtain⟨_,_,_,_,k4,m4⟩:=hbl 4 (by decide);obtain⟨_,_,_,_,k5,_⟩:=hbl 5 (by decide);obtain⟨ra,rn,rc,rfl,hr⟩:=m2.ring.open;obtain⟨la',ln,lc,rfl,hl⟩:=m4.lines.open;obtain⟨fa,fn,fc,rfl,hf⟩:=m4.flags.open;rw[show List.take (2+1) iI=iI.take 3 from rfl,c5] at hr;rw[show List.take (4+1) iI=iI.take 5 from rfl,c8] at hl;rw[show List.take (4+1) iI=iI.take 5 from rfl,c9] at hf;have hrn:=hr.len;have hln:=hl.len;have hfn:=hf.len;obtain⟨_,_,_,ha1,_,hx1,hc1⟩:=hr.at (i:=0) (by rw[<-hrn];decide);cases hx1;obtain⟨_,_,_,ha2,_,hx2,hc2⟩:=hl.at (i:=0) (by rw[<-hln];decide);cases hx2;obtain⟨_,_,_,ha3,_,hx3,hc3⟩:=hf.at (i:=0) (by rw[<-hfn];decide);cases hx3;have e2:=e1.trans eg;refine xr func7 rfl ?_;refine xp rfl (aO (H.uT _ _ _) rfl) ?_;refine xp rfl (aO (H.Ca _) rfl) ?_;refine xo rfl (ax.wU underlying22 H.Kn ([D9 ⟨2,0,1,[40],false⟩,D9 ⟨14,0,0,[],false⟩]) rfl rfl (by decide) (by simp<;>repeat' (first|rfl|constructor))) ?_;rintro _ g1 ⟨rfl,hh2⟩;have hv2:cq Jh g1 (fun _=>False) (.slice (some ⟨g.size,0,none⟩) 2 2) FU:=by rw[hh2];exact wo g FU 31 2 rfl (by decide) rfl
   have e3:aD g g1:=by rw[hh2];exact Ext.push _ _ _
   refine xo rfl (aj (vs:=[_]) func14 rfl H.Bp rfl (ah.aX ((uK (O:=fun _=>False) (hg.av (e2.trans e3)) (fun _ q=>q.elim) hv2 (by decide) (by decide))))) ?_;rintro v8 g2 ⟨kv,e4⟩;refine xo rfl (ax.aW H.dB) ?_;rintro _ g3 ⟨rfl,k8,e5,_⟩;obtain⟨_,_,_,_,_,_,_,_,_,_,_,_,rfl,_⟩:=bE.get kv;refine RW.bk rfl rfl rfl (ax.an H.aB rfl rfl k8 (by first|rfl|(simp;done)|(simp;omega)) (by first|decide|exact of_decide_eq_true rfl|(simp;done)|(simp;omega)) (ms1)) ?_;rintro _ g4 ⟨rfl,w8,u8,_⟩;have ee:aD g g4:=aD.only ((e3.trans e4).trans e5) u8 (by have:=e3.size;have:=e4.size;omega);have k0:=k0.av ee;have k1:=k1.av ee;have k2:=k2.av ee;have k3:=k3.av ee;have k4:=k4.av ee;have k5:=k5.av ee;have hc1:=ee.cell (fun k=>k) hc1;have hc2:=ee.cell (fun k=>k) hc2;have hc3:=ee.cell (fun k=>k) hc3;have w8:bu g4 g2.size 27 (sy (fu FU) _ _ _ _):=w8;have hrn:rn=1:=hrn.symm;have hln:ln=1:=hln.symm;have hfn:fn=1:=hfn.symm;refine xd [0,1,2,3,4,5,6,7,8] rfl ?_;refine au rfl ?_;refine G.bz [(9,.bool true)] [(0,_),(1,_),(2,_),(3,_),(4,_),(5,_),(6,_),(7,_),(8,_)] ⟨rfl,rfl,rfl,rfl,rfl,rfl,rfl,rfl,rfl,trivial⟩ func7 rfl ?_ ?_
   · refine xp rfl (aa (off:=0) underlying27 rfl rfl H.cu rfl) ?_;refine xp rfl (af H.cV rfl (k0.cell (i:=0) rfl)) ?_;refine xp rfl (ak.fq rfl rfl) ?_;refine aV 1 rfl ?_;refine RW.fL (d:=41) (b':=true) rfl (decide_eq_true (by exact congrArg bs c1)) ?_;refine xp rfl (aa (off:=1) underlying27 rfl rfl H.aQ rfl) ?_;refine xp rfl (af H.bG rfl (k0.cell (i:=1) rfl)) ?_;refine aV 3 rfl ?_;refine RW.fL (d:=46) (b':=true) rfl (decide_eq_true (by exact c2)) ?_;refine xp rfl (aa (off:=1) underlying27 rfl rfl H.aQ rfl) ?_;refine xp rfl (af H.bG rfl (k1.cell (i:=1) rfl)) ?_;refine aV 3 rfl ?_;refine RW.fL (d:=51) (b':=true) rfl (decide_eq_true (by exact c3)) ?_;refine xp rfl (aa (off:=0) underlying27 rfl rfl H.cu rfl) ?_;refine xp rfl (af H.cV rfl (k2.cell (i:=0) rfl)) ?_;refine xp rfl (ak.fq rfl rfl) ?_;refine aV 2 rfl ?_;refine RW.fL (d:=56) (b':=true) rfl (decide_eq_true (by exact congrArg bs c4)) ?_;refine xp rfl (aa (off:=4) underlying27 rfl rfl H.dF rfl) ?_;refine xp rfl (af H.fC rfl (k2.cell (i:=4) rfl)) ?_;refine xp rfl (ak.aM underlying24 rfl) ?_;refine aV 3 rfl ?_;refine RW.fL (d:=62) (b':=true) rfl (decide_eq_true (by omega)) ?_;refine xp rfl (aa (off:=4) underlying27 rfl rfl H.dF rfl) ?_;refine xp rfl (af H.fC rfl (k2.cell (i:=4) rfl)) ?_;refine xp rfl (ak.aF underlying24 H.cu rfl rfl 0 rfl ha1 (by omega)) ?_;refine xp rfl (af H.cV rfl hc1) ?_;refine xp rfl (ak.fq rfl rfl) ?_;refine aV 2 rfl ?_;refine RW.fL (d:=69) (b':=true) rfl (decide_eq_true (by rfl)) ?_;refine xp rfl (aa (off:=0) underlying27 rfl rfl H.cu rfl) ?_;refine xp rfl (af H.cV rfl (k3.cell (i:=0) rfl)) ?_;refine xp rfl (ak.fq rfl rfl) ?_;refine aV 2 rfl ?_;refine aC rfl ?_;exact⟨rfl,az rfl (by exact decide_eq_true (congrArg bs c6)),rfl,rfl,rfl,rfl,rfl,rfl,rfl,rfl,rfl,trivial⟩
   · refine au rfl ?_;refine G.bz [(0,.bool true)] [(1,_),(2,_),(3,_),(4,_),(5,_),(6,_),(7,_),(8,_),(9,_)] ⟨rfl,rfl,rfl,rfl,rfl,rfl,rfl,rfl,rfl,trivial⟩ func7 rfl ?_ ?_
     · refine aV 2 rfl ?_;refine RW.fL (d:=75) (b':=true) rfl ((rfl)) ?_;refine xp rfl (aa (off:=0) underlying27 rfl rfl H.cu rfl) ?_;refine xp rfl (af H.cV rfl (k4.cell (i:=0) rfl)) ?_;refine xp rfl (ak.fq rfl rfl) ?_;refine aV 2 rfl ?_;refine RW.fL (d:=80) (b':=true) rfl (decide_eq_true (by exact congrArg bs c7)) ?_;refine xp rfl (aa (off:=16) underlying27 rfl rfl H.dF rfl) ?_;refine xp rfl (af H.fC rfl (k4.cell (i:=16) rfl)) ?_;refine xp rfl (ak.aM underlying24 rfl) ?_;refine aV 3 rfl ?_;refine RW.fL (d:=86) (b':=true) rfl (decide_eq_true (by omega)) ?_;refine xp rfl (aa (off:=16) underlying27 rfl rfl H.dF rfl) ?_;refine xp rfl (af H.fC rfl (k4.cell (i:=16) rfl)) ?_;refine xp rfl (ak.aF underlying24 H.cu rfl rfl 0 rfl ha2 (by omega)) ?_;refine xp rfl (af H.cV rfl hc2) ?_;refine xp rfl (ak.fq rfl rfl) ?_;refine aV 2 rfl ?_;refine RW.fL (d:=93) (b':=true) rfl (decide_eq_true (by rfl)) ?_;refine xp rfl (aa (off:=17) underlying27 rfl rfl H.EL rfl) ?_;refine xp rfl (af H.I5 rfl (k4.cell (i:=17) rfl)) ?_;refine xp rfl (ak.aM underlying25 rfl) ?_;refine aV 3 rfl ?_;refine RW.fL (d:=99) (b':=true) rfl (decide_eq_true (by omega)) ?_;refine xp rfl (aa (off:=17) underlying27 rfl rfl H.EL rfl) ?_;refine xp rfl (af H.I5 rfl (k4.cell (i:=17) rfl)) ?_;refine xp rfl (ak.aF underlying25 H.vU rfl rfl 0 rfl ha3 (by omega)) ?_;refine xp rfl (af H.Gn rfl hc3) ?_;refine aV 3 rfl ?_;refine RW.fL (d:=106) (b':=true) rfl (rfl) ?_;refine xp rfl (aa (off:=0) underlying27 rfl rfl H.cu rfl) ?_;refine xp rfl (af H.cV rfl (k5.cell (i:=0) rfl)) ?_;refine xp rfl (ak.fq rfl rfl) ?_;refine aV 2 rfl ?_;refine RW.fL (d:=111) (b':=true) rfl (decide_eq_true (by exact congrArg bs c10)) ?_;refine xp rfl (aa (off:=0) underlying27 rfl rfl H.cu rfl) ?_;refine xp rfl (af H.cV rfl (w8.cell (i:=0) rfl)) ?_;refine xp rfl (ak.fq rfl rfl) ?_;refine aV 2 rfl ?_;refine RW.fL (d:=116) (b':=true) rfl (decide_eq_true (by exact congrArg bs c11)) ?_;refine xp rfl (aa (off:=1) underlying27 rfl rfl H.aQ rfl) ?_;refine xp rfl (af H.bG rfl (w8.cell (i:=1) rfl)) ?_;refine aV 3 rfl ?_;refine aC rfl ?_;exact⟨rfl,az rfl (by exact decide_eq_true c12),rfl,rfl,rfl,rfl,rfl,rfl,rfl,rfl,rfl,trivial⟩
     · refine aJ func7 rfl rfl ?_;exact⟨_,rfl,rfl,e2.trans ee⟩
end
end Go.Proofs.YtiigijehmmcfgaaGreatDoor

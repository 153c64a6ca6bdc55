/- What the proof of the statement leans on (part 27). -/
import Derived.Shelf.Strings.Builder1
import Derived.Shelf.Strings.Builder2
import Derived.Shelf.Small.Utf8
import Derived.Shelf.Small.Strs
import Derived.Shelf.Strings.BuilderF
import Derived.Shelf.Strconv.Itoa0
import Derived.Shelf.Strconv.Itoa1
import Derived.Shelf.LaysM
import Derived.Shelf.Strconv.Itoa2
import Derived.Shelf.Strconv.Itoa3
import Derived.Shelf.Strings.Search1
import Derived.Shelf.Strings.Search2
import Derived.Shelf.Strings.Search3
import Derived.Shelf.Strings.Shaped
import Derived.Shelf.Strings.LastIndex
import Derived.Shelf.Strings.LastIndexAll
import Derived.Shelf.Strings.Prefix
import Derived.Shelf.Bits.Mul64
import Derived.Shelf.Strings.Repeat
import Derived.Shelf.Unicode.DecodeSlow
import Derived.Shelf.Unicode.DecodeAny
import Derived.Shelf.Unicode.DecodeLast
import Derived.Test.YtiigijehmmcfgaaGreatDoorProg
import Derived.Deep.Fields
import Derived.Test.YtiigijehmmcfgaaGreatDoorQz

namespace Go.Proofs
open Go.Shelf
def Tryz.zI:Go.Shelf.Ren:=⟨fun| 149=>41| 222=>75|n=>n,fun| 9=>9| 5=>5| 3=>3| 4=>4|n=>n,fun|n=>n⟩
theorem Tryz.Gs:Go.Proofs.Lays.n149 Tryz.prog Tryz.zI:= {
  mixed:=by kernel_rfl
  f149:=Tryz.func41.trans (congrArg some (by kernel_rfl))
  f222:=Tryz.func75.trans (congrArg some (by kernel_rfl))
  t3:=Tryz.underlying3
  a3:=Tryz.isAgg3
  z3:=Tryz.sizeOf3
  v3:=Tryz.zeroValue3
  t4:=Tryz.underlying4
  a4:=Tryz.isAgg4
  z4:=Tryz.sizeOf4
  v4:=Tryz.zeroValue4
  t5:=Tryz.underlying5
  a5:=Tryz.isAgg5
  z5:=Tryz.sizeOf5
  v5:=Tryz.zeroValue5
  t9:=Tryz.underlying9
  a9:=Tryz.isAgg9
  z9:=Tryz.sizeOf9
  v9:=Tryz.zeroValue9 }
def Tryz.zG:Go.Shelf.Ren:=⟨fun| 212=>95| 263=>108| 264=>109|n=>n,fun| 46=>61| 51=>130| 146=>131| 53=>81| 148=>134|n=>n,fun|n=>n⟩
theorem Tryz.Gq:Go.Proofs.Lays.n212 Tryz.prog Tryz.zG:= {
  mixed:=by kernel_rfl
  f212:=Tryz.func95.trans (congrArg some (by kernel_rfl))
  f263:=Tryz.func108.trans (congrArg some (by kernel_rfl))
  f264:=Tryz.func109.trans (congrArg some (by kernel_rfl))
  t46:=Tryz.underlying61
  a46:=Tryz.isAgg61
  z46:=Tryz.sizeOf61
  v46:=Tryz.zeroValue61
  t51:=Tryz.underlying130
  a51:=Tryz.isAgg130
  z51:=Tryz.sizeOf130
  v51:=Tryz.zeroValue130
  t53:=Tryz.underlying81
  a53:=Tryz.isAgg81
  z53:=Tryz.sizeOf81
  v53:=Tryz.zeroValue81
  t146:=Tryz.underlying131
  a146:=Tryz.isAgg131
  z146:=Tryz.sizeOf131
  v146:=Tryz.zeroValue131
  t148:=Tryz.underlying134
  a148:=Tryz.isAgg134
  z148:=Tryz.sizeOf134
  v148:=Tryz.zeroValue134 }
def Tryz.rm:Go.Shelf.Ren:=⟨fun| 105=>84| 212=>95| 99=>96| 165=>97| 166=>98| 170=>99| 169=>100| 263=>108| 264=>109| 206=>110| 240=>111| 241=>112| 276=>131| 277=>132|n=>n,fun| 9=>9| 3=>3| 4=>4| 20=>20| 0=>0| 46=>61| 109=>96| 5=>5| 72=>101| 76=>105| 51=>130| 146=>131| 53=>81| 148=>134| 70=>99| 37=>34| 75=>104| 127=>136| 164=>175| 80=>108|n=>n,fun|n=>n⟩
theorem Tryz.kU:Go.Proofs.Lays.n105 Tryz.prog Tryz.rm:= {
  mixed:=by kernel_rfl
  f99:=Tryz.func96.trans (congrArg some (by kernel_rfl))
  f105:=Tryz.func84.trans (congrArg some (by kernel_rfl))
  f165:=Tryz.func97.trans (congrArg some (by kernel_rfl))
  f166:=Tryz.func98.trans (congrArg some (by kernel_rfl))
  f169:=Tryz.func100.trans (congrArg some (by kernel_rfl))
  f170:=Tryz.func99.trans (congrArg some (by kernel_rfl))
  f206:=Tryz.func110.trans (congrArg some (by kernel_rfl))
  f212:=Tryz.func95.trans (congrArg some (by kernel_rfl))
  f240:=Tryz.func111.trans (congrArg some (by kernel_rfl))
  f241:=Tryz.func112.trans (congrArg some (by kernel_rfl))
  f263:=Tryz.func108.trans (congrArg some (by kernel_rfl))
  f264:=Tryz.func109.trans (congrArg some (by kernel_rfl))
  f276:=Tryz.func131.trans (congrArg some (by kernel_rfl))
  f277:=Tryz.func132.trans (congrArg some (by kernel_rfl))
  t0:=Tryz.underlying0
  a0:=Tryz.isAgg0
  z0:=Tryz.sizeOf0
  v0:=Tryz.zeroValue0
  t3:=Tryz.underlying3
  a3:=Tryz.isAgg3
  z3:=Tryz.sizeOf3
  v3:=Tryz.zeroValue3
  t4:=Tryz.underlying4
  a4:=Tryz.isAgg4
  z4:=Tryz.sizeOf4
  v4:=Tryz.zeroValue4
  t5:=Tryz.underlying5
  a5:=Tryz.isAgg5
  z5:=Tryz.sizeOf5
  v5:=Tryz.zeroValue5
  t9:=Tryz.underlying9
  a9:=Tryz.isAgg9
  z9:=Tryz.sizeOf9
  v9:=Tryz.zeroValue9
  t20:=Tryz.underlying20
  a20:=Tryz.isAgg20
  z20:=Tryz.sizeOf20
  v20:=Tryz.zeroValue20
  t37:=Tryz.underlying34
  a37:=Tryz.isAgg34
  z37:=Tryz.sizeOf34
  v37:=Tryz.zeroValue34
  t46:=Tryz.underlying61
  a46:=Tryz.isAgg61
  z46:=Tryz.sizeOf61
  v46:=Tryz.zeroValue61
  t51:=Tryz.underlying130
  a51:=Tryz.isAgg130
  z51:=Tryz.sizeOf130
  v51:=Tryz.zeroValue130
  t53:=Tryz.underlying81
  a53:=Tryz.isAgg81
  z53:=Tryz.sizeOf81
  v53:=Tryz.zeroValue81
  t70:=Tryz.underlying99
  a70:=Tryz.isAgg99
  z70:=Tryz.sizeOf99
  v70:=Tryz.zeroValue99
  t72:=Tryz.underlying101
  a72:=Tryz.isAgg101
  z72:=Tryz.sizeOf101
  v72:=Tryz.zeroValue101
  t75:=Tryz.underlying104
  a75:=Tryz.isAgg104
  z75:=Tryz.sizeOf104
  v75:=Tryz.zeroValue104
  t76:=Tryz.underlying105
  a76:=Tryz.isAgg105
  z76:=Tryz.sizeOf105
  v76:=Tryz.zeroValue105
  t109:=Tryz.underlying96
  a109:=Tryz.isAgg96
  z109:=Tryz.sizeOf96
  v109:=Tryz.zeroValue96
  t127:=Tryz.underlying136
  a127:=Tryz.isAgg136
  z127:=Tryz.sizeOf136
  v127:=Tryz.zeroValue136
  t146:=Tryz.underlying131
  a146:=Tryz.isAgg131
  z146:=Tryz.sizeOf131
  v146:=Tryz.zeroValue131
  t148:=Tryz.underlying134
  a148:=Tryz.isAgg134
  z148:=Tryz.sizeOf134
  v148:=Tryz.zeroValue134
  t164:=Tryz.underlying175
  a164:=Tryz.isAgg175
  z164:=Tryz.sizeOf175
  v164:=Tryz.zeroValue175 }
def Tryz.zF:Go.Shelf.Ren:=⟨fun| 271=>56| 120=>82| 197=>83| 260=>94|n=>n,fun| 9=>9| 21=>21| 3=>3| 4=>4| 5=>5| 105=>67| 119=>57| 0=>0| 46=>61| 139=>60| 138=>59|n=>n,fun| 3=>0| 4=>1|n=>n⟩
theorem Tryz.Gp:Go.Proofs.Lays.n271 Tryz.prog Tryz.zF:= {
  mixed:=by kernel_rfl
  f120:=Tryz.func82.trans (congrArg some (by kernel_rfl))
  f197:=Tryz.func83.trans (congrArg some (by kernel_rfl))
  f260:=Tryz.func94.trans (congrArg some (by kernel_rfl))
  f271:=Tryz.func56.trans (congrArg some (by kernel_rfl))
  t0:=Tryz.underlying0
  a0:=Tryz.isAgg0
  z0:=Tryz.sizeOf0
  v0:=Tryz.zeroValue0
  t3:=Tryz.underlying3
  a3:=Tryz.isAgg3
  z3:=Tryz.sizeOf3
  v3:=Tryz.zeroValue3
  t4:=Tryz.underlying4
  a4:=Tryz.isAgg4
  z4:=Tryz.sizeOf4
  v4:=Tryz.zeroValue4
  t5:=Tryz.underlying5
  a5:=Tryz.isAgg5
  z5:=Tryz.sizeOf5
  v5:=Tryz.zeroValue5
  t9:=Tryz.underlying9
  a9:=Tryz.isAgg9
  z9:=Tryz.sizeOf9
  v9:=Tryz.zeroValue9
  t21:=Tryz.underlying21
  a21:=Tryz.isAgg21
  z21:=Tryz.sizeOf21
  v21:=Tryz.zeroValue21
  t46:=Tryz.underlying61
  a46:=Tryz.isAgg61
  z46:=Tryz.sizeOf61
  v46:=Tryz.zeroValue61
  t105:=Tryz.underlying67
  a105:=Tryz.isAgg67
  z105:=Tryz.sizeOf67
  v105:=Tryz.zeroValue67
  t119:=Tryz.underlying57
  a119:=Tryz.isAgg57
  z119:=Tryz.sizeOf57
  t138:=Tryz.underlying59
  a138:=Tryz.isAgg59
  z138:=Tryz.sizeOf59
  v138:=Tryz.zeroValue59
  t139:=Tryz.underlying60
  a139:=Tryz.isAgg60
  z139:=Tryz.sizeOf60
  v139:=Tryz.zeroValue60
  g3:=by kernel_rfl
  g4:=by kernel_rfl }
open Go.RowKit Go.Lib in
theorem Tryz.strings_LastIndexByte (s:ByteArray) (c:Int) (hs:s.size<4611686018427387904) (w:World) :
    Calls Tryz.prog 41 #[.string s,.int .u8 c] w fun e w'=>e= .returned (.int .i64 (Lib.lastIndexByte s c))/\w'=w:=Any.strings_LastIndexByte Tryz.Gs s c hs w
open Go.RowKit Go.Lib in
theorem Tryz.bits_Mul (x y:Nat) (hx:x<18446744073709551616) (hy:y<18446744073709551616) (w:World) :
    Calls Tryz.prog 95 #[.int .u64 x,.int .u64 y] w fun e w'=>e= .returned (.tuple #[.int .u64 ((x*y / 18446744073709551616:Nat):Int),.int .u64 ((x*y%18446744073709551616:Nat):Int)])/\w'=w:=Any.bits_Mul Tryz.Gq x y hx hy w
open Go.RowKit Go.Lib in
theorem Tryz.strings_Repeat_zero (s:ByteArray) (w:World) :
    Calls Tryz.prog 84 #[.string s,.int .i64 0] w fun e w'=>e= .returned (.string ⟨#[]⟩)/\w'=w:=Any.strings_Repeat_zero Tryz.kU s w
open Go.RowKit Go.Lib in
theorem Tryz.strings_Repeat_one (s:ByteArray) (w:World) :
    Calls Tryz.prog 84 #[.string s,.int .i64 1] w fun e w'=>e= .returned (.string s)/\w'=w:=Any.strings_Repeat_one Tryz.kU s w
open Go.RowKit Go.Lib in
theorem Tryz.utf8_DecodeLastRuneInString (s:ByteArray) (w:World) (hs:s.size<=9223372036854775807) (hT:Lib.Utf8Tabs 0 1 w) :
    Calls Tryz.prog 56 #[.string s] w fun e w'=>e= .returned (.tuple #[.int .i32 (Lib.decodeLastL s.data.toList).1,.int .i64 (Lib.decodeLastL s.data.toList).2])/\Below w.heap.size w w':=Any.utf8_DecodeLastRuneInString Tryz.Gp s w hs hT
end Go.Proofs
namespace Go.Proofs.YtiigijehmmcfgaaGreatDoor
open Go.Proofs.Tryz
open Go Go.Lw
set_option maxRecDepth 20000
section
variable {s:MS}{h:ay}{fv v:Value}{O:Nat->Prop}{B:Nat}{l:List By}
theorem Fy (l:By) (p:Nat):Utf8.decode (bs l) p=(nF (l.drop p),bw (l.drop p)):=by
 have e:∀i,(bs l).get! i=l.getD i 0:=fun i=>by
  show (l.toArray)[i]! =_
  rw[getElem!_def,List.getElem?_toArray,List.getD_eq_getElem?_getD];cases l[i]? <;>rfl
 rw[Lib.decode_at];unfold nF bw;rw[e,e,e,e,aZ,gq,gq,gq,gq,List.length_drop];rfl
theorem pn:∀(n k:Nat) (l:By) (a:Nat),l.length<=n->l.length<=k->bH n l a=bH k l a
 | 0,0,_,_,_,_=>rfl
 | 0,k+1,l,a,h,_=>by
  have:l=[]:=List.length_eq_zero_iff.1 (by omega);rw[bH,bH,if_pos this]
 |n+1,0,l,a,_,h=>by
  have:l=[]:=List.length_eq_zero_iff.1 (by omega);rw[bH,bH,if_pos this]
 |n+1,k+1,l,a,h1,h2=>by
  rw[bH,bH]
  by_cases hl:l=[]
  · rw[if_pos hl,if_pos hl]
  · have:=dm hl;rw[if_neg hl,if_neg hl,pn n k _ _ (by rw[List.length_drop];omega) (by rw[List.length_drop];omega)]
def rE (s:By) (p:Nat):List Nat:=bH s.length (s.drop p) p
theorem wz {s:By}{p:Nat}(h:s.length<=p):rE s p=[]:=by
 unfold rE;rw[List.drop_of_length_le h];cases s.length<;>rfl
theorem tV {s:By}{p:Nat}(h:p<s.length):rE s p=p::rE s (p+bw (s.drop p))/\1<=bw (s.drop p)/\p+bw (s.drop p)<=s.length:=by
 have hne:s.drop p≠[]:=by intro e;have:=congrArg List.length e;rw[List.length_drop,List.length_nil] at this;omega
 have hr:=dm hne;have hd:(s.drop p).length=s.length-p:=List.length_drop;refine⟨?_,hr.1,by omega⟩;unfold rE;obtain⟨n,hn⟩:∃n,s.length=n+1:=⟨s.length-1,by omega⟩
 conv=>lhs;rw[hn,bH,if_neg hne,List.drop_drop]
 rw[pn n s.length _ _ (by rw[List.length_drop];omega) (by rw[List.length_drop];omega)]
theorem o9 (s:By) (hs:s.length<=1000000):ah Tryz.prog 19 #[.string (bs s)] h (bX fun r h'=>cN cZ h' h.size 3 r (cq s)/\aD h h'):=by
 have hbs:=aZ s;refine ah.of func19 rfl rfl ?_;refine aY func19 1 [0,2] rfl ?_;refine aY func19 1 [0,2,3] rfl ?_;refine au rfl ?_;refine bB func19 1 rfl ?_;refine xo rfl (av.yY underlying9 rfl) ?_;rintro _ h1 ⟨rfl,i1,e1,z1⟩;refine xd [0,2,3,6] rfl ?_;refine G.block rfl rfl ?_;refine bT (σ:=Nat×Value×List Nat) (fun w=>[(0,.string (bs s)),(3,w.2.1),(6,.pointer (some ⟨h.size,0,none⟩))]) (fun w g=>gZ g h.size (bs s) w.1/\cN cZ g (h.size+1) 3 w.2.1 w.2.2/\Ext (fun b=>b=h.size) h1 g/\w.2.2++rE s w.1=cq s/\w.1<=s.length/\w.2.2.length<=w.1) (fun w=>s.length-w.1) ((0,.slice none 0 0,[])) rfl ⟨rfl,rfl,rfl,trivial⟩ ⟨i1,cN.nil cZ h1 (h.size+1) 3,Ext.refl _ _,rfl,Nat.zero_le _,Nat.le_refl _⟩ ?_;rintro⟨p,v,xs⟩ g ⟨hI,hw,hx,hf,hp,hl⟩ ih
 try dsimp only
 dsimp only at hI hw hx hf hp hl;have hgz:=hx.size
 by_cases hlt:p<s.length
 · obtain⟨f1,f2,f3⟩:=tV hlt;have hz:p<(bs s).size:=by omega
   refine xr func19 rfl ?_;refine xo rfl (av.Ch rfl (hI) (hz)) ?_;rintro _ g1 ⟨rfl,i2,x2,z2⟩;rw[Fy] at *;refine aS 1 [0,3,6,7,8] rfl ?_;refine au rfl ?_;refine aO rfl rfl (fun _=>?_) (fun hc=>absurd hc (by simp));have hw1:cN cZ g1 (h.size+1) 3 v xs:=aM.ext x2 hw (fun b hb k=>by have:=aM.lt hw hb;omega);refine aA rfl ?_;refine G.block rfl rfl ?_;refine aY func19 2 [0,3,4,6,7,8] rfl ?_;refine G.bV func19 rfl ?_;refine aV 2 rfl ?_;refine xo rfl (av.bC (us:=[_]) underlying44 H.nH rfl rfl (by decide) (by simp[Value.oneCell'])) ?_;rintro _ _ ⟨rfl,rfl⟩;refine xo rfl (av.cH underlying44 H.nH rfl rfl (hw1) rfl rfl (by first|decide|simp[Value.oneCell']) (by omega) (by decide) (by omega)) ?_;rintro v2 g2 ⟨ho2,hx2,hx2',hv2⟩;refine aS 1 [0,3,4,6,7,8] rfl ?_;refine G.aT ?_;have i3:=i2.ext hx2 (fun k=>by have:=aM.lt hw1 (b:=h.size) k.symm;omega);have ho2:cN cZ g2 (h.size+1) 3 v2 (xs++[p]):=cN.of ho2 rfl rfl rfl;exact ih (p+bw (s.drop p),v2,xs++[p]) _ _ ⟨rfl,rfl,rfl,trivial⟩ ⟨i3,ho2,(hx.trans x2).La hx2 (fun b hb k=>by have:=aM.lt hw1 (b:=b) k.symm;omega),by rw[List.append_assoc,List.singleton_append,<-f1];exact hf,f3,by rw[List.length_append];simp only[List.length_cons,List.length_nil];omega⟩ (by show s.length-(p+bw (s.drop p))<s.length-p;omega)
 · refine xr func19 rfl ?_;refine xo rfl (av.Ci rfl (hI) ((by omega))) ?_;rintro _ g1 ⟨rfl,rfl⟩;refine aS 1 [0,3,6,7,8] rfl ?_;refine au rfl ?_;refine aO rfl rfl (fun hc=>absurd hc (by simp)) (fun _=>?_);refine bN rfl rfl ?_;refine aY func19 2 [0,2,3,6,7,8] rfl ?_;refine aK func19 rfl rfl ?_;rw[wz (by omega),List.append_nil] at hf;subst hf;exact⟨_,rfl,hw.lower (by omega),aD.only e1 hx (Nat.le_refl _)⟩
theorem BC (hg:jb h) (l:By) (hl:l≠[]):ah Tryz.prog 83 #[.string (bs l)] h (bX fun r h'=>r= .tuple #[.int .i32 (nF l:Nat),.int .i64 (bw l:Nat)]/\aD h h'):=by
 refine ah.nr fun w hw=>?_
 subst hw;have hT:Lib.Utf8Tabs 0 1 w:=⟨fun c hc=>by rw[cU];exact hg.utf.1 c hc,fun i hi=>⟨by rw[cU];exact(hg.utf.2 i hi).1,by rw[cU];exact(hg.utf.2 i hi).2⟩⟩
 refine(Tryz.utf8_DecodeRuneInString (bs l) w hT).mono ?_;rintro e w' ⟨rfl,hb⟩
 have hn:Lib.decodeGo (bs l)=(nF l,bw l):=by
  have h0:¬(bs l).size=0:=by rw[aZ];have:=List.length_pos_iff.2 hl;omega
  unfold Lib.decodeGo;rw[if_neg h0,Lib.decode_N,ir];rfl
 rw[hn];exact⟨_,rfl,⟨rfl,⟨hb.size,fun b hlt _=>hb.block b hlt⟩⟩,hb.os,hb.tape,hb.output⟩
theorem BD (hg:jb h) (l:By) (hl:l.length<=1000000):ah Tryz.prog 56 #[.string (bs l)] h (bX fun r h'=>r= .tuple #[.int .i32 ((Lib.decodeLastL l).1:Nat),.int .i64 ((Lib.decodeLastL l).2:Nat)]/\aD h h'):=by
 refine ah.nr fun w hw=>?_
 subst hw;have hT:Lib.Utf8Tabs 0 1 w:=⟨fun c hc=>by rw[cU];exact hg.utf.1 c hc,fun i hi=>⟨by rw[cU];exact(hg.utf.2 i hi).1,by rw[cU];exact(hg.utf.2 i hi).2⟩⟩
 refine(Tryz.utf8_DecodeLastRuneInString (bs l) w (by rw[aZ];omega) hT).mono ?_;rintro e w' ⟨rfl,hb⟩;rw[ir];exact⟨_,rfl,⟨rfl,⟨hb.size,fun b hlt _=>hb.block b hlt⟩⟩,hb.os,hb.tape,hb.output⟩
def mo (s:By) (a:Nat) (b:Bool):Value:=if a=s.length then .tuple #[.int .i32 0,.int .i64 0,.bool false] else .tuple #[.int .i32 (nF (s.drop a):Nat),.int .i64 (bw (s.drop a):Nat),.bool b]
def jI (s:By) (a:Nat) (b:Bool):Value:=if a=0 then .tuple #[.int .i32 0,.int .i64 0,.bool false] else .tuple #[.int .i32 ((Lib.decodeLastL (s.take a)).1:Nat),.int .i64 ((Lib.decodeLastL (s.take a)).2:Nat),.bool b]
theorem vV (hg:jb h) (s:By) (a:Nat) (ha:a<=s.length):ah Tryz.prog 76 #[.string (bs s),.int .i64 (a:Nat)] h (bX fun r h'=>(∃b,r=mo s a b)/\aD h h'):=by
 have hbs:=aZ s;refine ah.of func76 rfl rfl ?_;refine aY func76 3 [0,1,4,5,6] rfl ?_;refine au rfl ?_;refine au rfl ?_;refine G.bu [(14,.bool (decide (a=s.length)))] [(0,_),(1,_),(4,_),(5,_),(6,_)] ⟨rfl,rfl,rfl,rfl,rfl,trivial⟩ func76 rfl ?_ ?_
 · refine aV 3 rfl ?_;refine RW.dZ (d:=9) (b':=false) rfl (by rw[decide_eq_false];omega) ?_;refine cx 2 rfl rfl (ak.bp underlying9 rfl) ?_;refine aV 2 rfl ?_;refine aC rfl ?_;exact⟨rfl,az rfl (by rw[decide_eq_decide];omega),rfl,rfl,rfl,rfl,rfl,trivial⟩
 · refine aG rfl rfl (fun hc=>?_) (fun hc=>?_)
   · refine aY func76 3 [0,1,4,5,6,14] rfl ?_;refine aK func76 rfl rfl ?_;exact⟨_,rfl,⟨false,by unfold mo;rw[if_pos hc];rfl⟩,Ext.refl _ _⟩
   · have hne:s.drop a≠[]:=by intro e;have:=congrArg List.length e;rw[List.length_drop,List.length_nil] at this;omega
     refine aA rfl ?_;refine bB func76 2 rfl ?_;refine xp rfl (ak.fe underlying9 rfl rfl a (by omega) (by omega)) ?_;rw[jH s a];refine xo rfl (aj (vs:=[_]) func83 rfl H.Ja rfl (ah.aX (BC hg (s.drop a) hne))) ?_;rintro _ h1 ⟨rfl,e1⟩;refine aS 5 [0,1,4,5,6,14] rfl ?_;refine au rfl ?_;refine G.bu [(4,.int .i32 (nF (s.drop a):Nat)),(5,.int .i64 (bw (s.drop a):Nat)),(6,.bool (decide (¬((nF (s.drop a):Nat):Int)=65533\/(1:Int)<((bw (s.drop a):Nat):Int))))] [(0,_),(1,_),(14,_)] ⟨rfl,rfl,rfl,trivial⟩ func76 rfl ?_ ?_
     · refine aV 5 rfl ?_;refine aH (d:=26) rfl (fun c1=>?_) (fun c1=>?_)
       · have c1:=of_decide_eq_true c1;refine aV 6 rfl ?_;refine aC rfl ?_;exact⟨rfl,rfl,rfl,az rfl (by rw[decide_eq_true (Or.inl c1)]),rfl,rfl,rfl,trivial⟩
       · have c1:=of_decide_eq_false c1;refine aV 6 rfl ?_;refine aC rfl ?_;exact⟨rfl,rfl,rfl,az rfl (by simp only[decide_eq_decide];exact⟨fun q=>.inr q,fun q=>q.resolve_left c1⟩),rfl,rfl,rfl,trivial⟩
     · refine aK func76 rfl rfl ?_;exact⟨_,rfl,⟨_,by unfold mo;rw[if_neg hc];rfl⟩,e1⟩
theorem qH (hg:jb h) (s:By) (a:Nat) (ha:a<=s.length) (hs:s.length<=1000000):ah Tryz.prog 24 #[.string (bs s),.int .i64 (a:Nat)] h (bX fun r h'=>(∃b,r=jI s a b)/\aD h h'):=by
 have hbs:=aZ s;refine ah.of func24 rfl rfl ?_;refine aY func24 3 [0,1,4,5,6] rfl ?_;refine au rfl ?_;refine au rfl ?_;refine G.bu [(14,.bool (decide (a=0)))] [(0,_),(1,_),(4,_),(5,_),(6,_)] ⟨rfl,rfl,rfl,rfl,rfl,trivial⟩ func24 rfl ?_ ?_
 · refine aV 3 rfl ?_;refine aH (d:=9) rfl (fun c1=>?_) (fun c1=>?_)
   · have c1:=of_decide_eq_true c1;refine aV 5 rfl ?_;refine aC rfl ?_;exact⟨rfl,az rfl (by rw[decide_eq_true];omega),rfl,rfl,rfl,rfl,rfl,trivial⟩
   · have c1:=of_decide_eq_false c1;refine cx 2 rfl rfl (ak.bp underlying9 rfl) ?_;refine aV 2 rfl ?_;refine aC rfl ?_;exact⟨rfl,az rfl (by rw[decide_eq_decide];omega),rfl,rfl,rfl,rfl,rfl,trivial⟩
 · refine aG rfl rfl (fun hc=>?_) (fun hc=>?_)
   · refine aY func24 3 [0,1,4,5,6,14] rfl ?_;refine aK func24 rfl rfl ?_;exact⟨_,rfl,⟨false,by unfold jI;rw[if_pos hc];rfl⟩,Ext.refl _ _⟩
   · refine aA rfl ?_;refine bB func24 2 rfl ?_;refine xp rfl (ak.gR underlying9 rfl rfl a (by omega) (by omega)) ?_;rw[fO s 0 a (Nat.zero_le _),List.drop_zero];refine xo rfl (aj (vs:=[_]) func56 rfl H.KQ rfl (ah.aX (BD hg (s.take a) (by rw[List.length_take];omega)))) ?_;rintro _ h1 ⟨rfl,e1⟩;refine aS 5 [0,1,4,5,6,14] rfl ?_;refine au rfl ?_;refine G.bu [(4,.int .i32 ((Lib.decodeLastL (s.take a)).1:Nat)),(5,.int .i64 ((Lib.decodeLastL (s.take a)).2:Nat)),(6,.bool (decide (¬(((Lib.decodeLastL (s.take a)).1:Nat):Int)=65533\/(1:Int)<(((Lib.decodeLastL (s.take a)).2:Nat):Int))))] [(0,_),(1,_),(14,_)] ⟨rfl,rfl,rfl,trivial⟩ func24 rfl ?_ ?_
     · refine aV 5 rfl ?_;refine aH (d:=26) rfl (fun c1=>?_) (fun c1=>?_)
       · have c1:=of_decide_eq_true c1;refine aV 6 rfl ?_;refine aC rfl ?_;exact⟨rfl,rfl,rfl,az rfl (by rw[decide_eq_true (Or.inl c1)]),rfl,rfl,rfl,trivial⟩
       · have c1:=of_decide_eq_false c1;refine aV 6 rfl ?_;refine aC rfl ?_;exact⟨rfl,rfl,rfl,az rfl (by simp only[decide_eq_decide];exact⟨fun q=>.inr q,fun q=>q.resolve_left c1⟩),rfl,rfl,rfl,trivial⟩
     · refine aK func24 rfl rfl ?_;exact⟨_,rfl,⟨_,by unfold jI;rw[if_neg hc];rfl⟩,e1⟩
theorem DC (l:List Nat) (a:Int) (i x:Nat) (h:l[i]? =some x):(l.take (i+1)).foldl (fun(o k:Nat)=>if (k:Int)<=a then k else o) 0=if (x:Int)<=a then x else (l.take i).foldl (fun(o k:Nat)=>if (k:Int)<=a then k else o) 0:=by
 rw[List.take_add_one,h,Option.toList_some,List.foldl_append];rfl
theorem ja (s:By) (a:Int) (hs:s.length<=1000000):ah Tryz.prog 11 #[.string (bs s),.int .i64 a] h (bX fun r h'=>r= .int .i64 (eC s a:Nat)/\aD h h'):=by
 have hbs:=aZ s;refine ah.of func11 rfl rfl ?_;refine aY func11 1 [0,1,4] rfl ?_;refine au rfl ?_;refine bB func11 2 rfl ?_;refine xp rfl (ak.bp underlying9 rfl) ?_;refine aS 1 [0,1,4,11] rfl ?_;refine aG rfl rfl (fun c=>?_) (fun c=>?_)
 · refine bB func11 1 rfl ?_;refine xp rfl (ak.bp underlying9 rfl) ?_;refine aS 1 [0,1,4,11] rfl ?_;refine aK func11 rfl rfl ?_;have e:eC s a=s.length:=by unfold eC;rw[if_pos (by omega)]
   exact⟨_,rfl,congrArg (Value.int .i64) (by rw[e,hbs]),Ext.refl _ _⟩
 · refine aA rfl ?_;refine aY func11 1 [0,1,4,5,11] rfl ?_;refine au rfl ?_;refine bB func11 1 rfl ?_;refine xo rfl (aj (vs:=[_]) func19 rfl H.Jp rfl (ah.aX (o9 s hs))) ?_;rintro v g ⟨hw,e1⟩;have hr:cn gI g (fun _=>False) v (cq s):=hw.read (fun _ _ k=>k);obtain⟨oa,n,cp,rfl,hsl⟩:=hr.open;have hn:=hsl.len;subst hn;have hcap:=hsl.cap;have hle:=hsl.le;unfold maxLen at hcap;refine xp rfl (ak.aN underlying44 rfl) ?_;refine aS 1 [0,1,4,5,11,15,16,17] rfl ?_;refine G.block rfl rfl ?_;refine bT (σ:=Nat) (fun i=>[(0,.string (bs s)),(1,.int .i64 a),(5,.int .i64 (((cq s).take i).foldl (fun(o k:Nat)=>if (k:Int)<=a then k else o) 0:Nat)),(15,.slice oa (cq s).length cp),(16,.int .i64 ((cq s).length:Nat)),(17,.int .i64 (i:Nat))]) (fun i g'=>g'=g/\i<=(cq s).length) (fun i=>(cq s).length-i) (0) rfl ⟨rfl,rfl,rfl,rfl,rfl,rfl,trivial⟩ ⟨rfl,Nat.zero_le _⟩ ?_;rintro i g' ⟨rfl,hi⟩ ih;refine aY func11 1 [0,1,5,15,16,17,18] rfl ?_;refine au rfl ?_;refine aG rfl rfl (fun hlt=>?_) (fun hlt=>?_)
   · have hil:i<(cq s).length:=by omega
     obtain⟨b,o,x,ha,_,hx,hc⟩:=hsl.at hil;have hst:=DC (cq s) a i x hx;refine aA rfl ?_;refine au rfl ?_;refine G.block rfl rfl ?_;refine xr func11 rfl ?_;refine xp rfl (ak.aF underlying44 H.aQ rfl rfl i rfl ha (by omega)) ?_;refine xp rfl (af H.bD rfl hc) ?_;refine aS 1 [0,1,5,7,15,16,17,18] rfl ?_;refine aY func11 3 [0,1,5,7,15,16,17,18,23] rfl ?_;refine aG rfl rfl (fun hk=>?_) (fun hk=>?_)
     · refine G.bV func11 rfl ?_;refine aS 2 [0,1,5,7,15,16,17,18,23] rfl ?_;refine G.aT ?_;refine G.bV func11 rfl ?_;refine xp rfl (ak.bL rfl rfl ⟨by omega,by omega⟩) ?_;refine aS 1 [0,1,5,7,15,16,17,18,23] rfl ?_;rw[if_pos hk] at hst;rw[<-hst];exact ih (i+1) _ _ ⟨rfl,rfl,rfl,rfl,rfl,rfl,trivial⟩ ⟨rfl,by omega⟩ (by omega)
     · refine aA rfl ?_;refine G.aT ?_;refine G.bV func11 rfl ?_;refine xp rfl (ak.bL rfl rfl ⟨by omega,by omega⟩) ?_;refine aS 1 [0,1,5,7,15,16,17,18,23] rfl ?_;rw[if_neg hk] at hst;rw[<-hst];exact ih (i+1) _ _ ⟨rfl,rfl,rfl,rfl,rfl,rfl,trivial⟩ ⟨rfl,by omega⟩ (by omega)
   · refine bN rfl rfl ?_;refine aY func11 2 [0,1,4,5,15,16,17,18] rfl ?_;refine aK func11 rfl rfl ?_;have hil:i=(cq s).length:=by omega
     have e:eC s a=(cq s).foldl (fun(o k:Nat)=>if (k:Int)<=a then k else o) 0:=by unfold eC;rw[if_neg (by omega)]
     exact⟨_,rfl,congrArg (Value.int .i64) (by rw[e,hil,List.take_length]),e1⟩
theorem s9 (s:By) (a:Nat) (ha:a<=s.length):ah Tryz.prog 39 #[.string (bs s),.int .i64 (a:Nat)] h (bX fun r h'=>r= .int .i64 (a:Nat)/\h'=h):=by
 have hbs:=aZ s;refine ah.of func39 rfl rfl ?_;refine aY func39 1 [0,1,4] rfl ?_;refine bB func39 1 rfl ?_;refine xp rfl (ak.max2 rfl rfl) ?_;refine cx 1 rfl rfl (ak.bp underlying9 rfl) ?_;refine xp rfl (ak.min2 rfl rfl) ?_;refine aS 1 [0,1,4] rfl ?_;refine aK func39 rfl rfl ?_;exact⟨_,rfl,congrArg (Value.int .i64) (by rw[hbs];(repeat' split)<;>omega),rfl⟩
theorem tL (l:By):∀n,n<=l.length->Lib.lastIdx (bs l) 10 n+1=(iG (l.take n) 0 0:Nat)
 | 0,_=>by simp[Lib.lastIdx,iG]
 |n+1,h=>by
  have key:∀(x:By) (c:UInt8) (k o:Nat),iG (x++[c]) k o=if c=10 then k+x.length+1 else iG x k o:=by
   intro x
   induction x with
   |nil=>intro c k o;simp[iG]
   |cons b x ih=>intro c k o;rw[List.cons_append,iG,ih,iG,List.length_cons];split;(omega);(rfl)
  have hx:l[n]? =some l[n]:=List.getElem?_eq_getElem (by omega);rw[Lib.lastIdx,List.take_add_one,hx,Option.toList_some,key,List.length_take,Nat.min_eq_left (by omega)]
  have hb:(bs l).data[n]! =l[n]:=by
   show (l.toArray)[n]! =_
   rw[getElem!_pos _ _ (by rw[List.size_toArray];omega)];simp
  rw[hb];have e10:((l[n].toNat:Int)=10)↔l[n]=10:=⟨fun e=>UInt8.toNat_inj.1 (by show _=10;omega),fun e=>by rw[e];rfl⟩
  by_cases hc:l[n]=10
  · rw[if_pos (e10.2 hc),if_pos hc];omega
  · rw[if_neg (fun e=>hc (e10.1 e)),if_neg hc];exact tL l n (by omega)
theorem zN (l:By) (hl:l.length<=1000000):ah Tryz.prog 41 #[.string (bs l),.int .u8 10] h (bX fun r h'=>r= .int .i64 (Lib.lastIndexByte (bs l) 10)/\h'=h) :=
 ah.sr fun w=>Tryz.strings_LastIndexByte (bs l) 10 (by rw[aZ];omega) w
theorem cz (s:By) (a:Nat) (ha:a<=s.length) (hs:s.length<=1000000):ah Tryz.prog 18 #[.string (bs s),.int .i64 (a:Nat)] h (bX fun r h'=>r= .int .i64 (bk s a:Nat)/\h'=h):=by
 have hbs:=aZ s;have hsl:=eO s a;have hl:=tL (s.take a) (s.take a).length (Nat.le_refl _);rw[List.take_length] at hl;have hd:Lib.lastIndexByte (bs (s.take a)) 10=Lib.lastIdx (bs (s.take a)) 10 (s.take a).length:=by unfold Lib.lastIndexByte;rw[aZ]
 have he:Lib.lastIndexByte (bs (s.take a)) 10+1=(bk s a:Nat):=by rw[hd];exact hl
 refine ah.of func18 rfl rfl ?_;refine aY func18 1 [0,1,4] rfl ?_;refine bB func18 3 rfl ?_;refine xo rfl (aj (vs:=[_,_]) func39 rfl H.Jj rfl (ah.aX (s9 s a ha))) ?_;rintro _ h ⟨rfl,rfl⟩;refine xp rfl (ak.gR underlying9 rfl rfl a (by omega) (by omega)) ?_;rw[fO s 0 a (Nat.zero_le _),List.drop_zero];refine xo rfl (aj (vs:=[_,_]) func41 rfl H.KU rfl (ah.aX (zN (s.take a) (by rw[List.length_take];omega)))) ?_;rintro _ h ⟨rfl,rfl⟩;refine xp rfl (ak.bL rfl rfl ⟨by omega,by omega⟩) ?_;refine aS 1 [0,1,4] rfl ?_;refine aK func18 rfl rfl ?_;exact⟨_,rfl,congrArg (Value.int .i64) he,rfl⟩
theorem wq:∀l:By,Lib.indexByte l 10=if (l.takeWhile (fun c=>decide (c≠10))).length=l.length then -1 else ((l.takeWhile (fun c=>decide (c≠10))).length:Int)
 | []=>rfl
 |b::l=>by
  have ih:=wq l;have hle:=List.Sublist.length_le (List.takeWhile_sublist (fun c:UInt8=>decide (c≠10)) (l:=l));rw[Lib.indexByte]
  by_cases hb:b=10
  · subst hb;simp
  · have hbeq:(b ==10)=false:=by simpa using hb
    rw[hbeq,List.takeWhile_cons,if_pos (decide_eq_true hb),List.length_cons,List.length_cons,ih];simp only[Bool.false_eq_true,if_false];generalize (l.takeWhile (fun c=>decide (c≠10))).length=k at hle ⊢
    by_cases hq:k=l.length
    · rw[if_pos hq,if_pos (show ((-1:Int) == -1)=true from rfl),if_pos (by omega)]
    · have hne:((k:Int) == -1)=false:=by rw[beq_eq_false_iff_ne];omega
      rw[if_neg hq,hne];simp only[Bool.false_eq_true,if_false];rw[if_neg (by omega)];omega
theorem cP (s:By) (a:Nat) (ha:a<=s.length) (hs:s.length<=1000000):ah Tryz.prog 17 #[.string (bs s),.int .i64 (a:Nat)] h (bX fun r h'=>r= .int .i64 (cY s a:Nat)/\h'=h):=by
 have hbs:=aZ s;have hel:=ig ha;have hi:=wq (s.drop a);have hd:(s.drop a).length=s.length-a:=List.length_drop;have hle:=List.Sublist.length_le (List.takeWhile_sublist (fun c:UInt8=>decide (c≠10)) (l:=s.drop a));have hc:=iH (h:=h) (bs (s.drop a)) 10;rw[ir,show (10:Int).toNat.toUInt8=10 from rfl,hi] at hc;have hee:cY s a=a+((s.drop a).takeWhile (fun c=>decide (c≠10))).length:=rfl;generalize ((s.drop a).takeWhile (fun c=>decide (c≠10))).length=k at *;refine ah.of func17 rfl rfl ?_;refine aY func17 1 [0,1,4] rfl ?_;refine bB func17 2 rfl ?_;refine xo rfl (aj (vs:=[_,_]) func39 rfl H.Jj rfl (ah.aX (s9 s a ha))) ?_;rintro _ h ⟨rfl,rfl⟩;refine aS 1 [0,1,4] rfl ?_;refine au rfl ?_;refine bB func17 2 rfl ?_;refine xp rfl (ak.fe underlying9 rfl rfl a (by omega) (by omega)) ?_;rw[jH s a];refine xo rfl (aj (vs:=[_,_]) func40 rfl H.Gg rfl (ah.aX (hc))) ?_;rintro _ h ⟨rfl,rfl⟩;refine aS 1 [0,1,4,5] rfl ?_;refine aY func17 2 [0,1,4,5,14] rfl ?_;refine aG rfl rfl (fun hq=>?_) (fun hq=>?_)
 · have hk:¬k=(s.drop a).length:=fun e=>by rw[if_pos e] at hq;omega
   refine bB func17 2 rfl ?_;refine xp rfl (ak.bL rfl rfl ⟨by rw[if_neg hk];omega,by rw[if_neg hk];omega⟩) ?_;refine aS 1 [0,1,4,5,14] rfl ?_;refine aK func17 rfl rfl ?_;exact⟨_,rfl,congrArg (Value.int .i64) (by rw[hee,if_neg hk];omega),rfl⟩
 · have hk:k=(s.drop a).length:=by
    by_cases e:k=(s.drop a).length
    · exact e
    · rw[if_neg e] at hq;omega
   refine aA rfl ?_;refine bB func17 1 rfl ?_;refine xp rfl (ak.bp underlying9 rfl) ?_;refine aS 1 [0,1,4,5,14] rfl ?_;refine aK func17 rfl rfl ?_;exact⟨_,rfl,congrArg (Value.int .i64) (by rw[hbs,hee];omega),rfl⟩
theorem kO (s:By) (a:Nat) (hs:s.length<=1000000) (ha:a<=s.length):ah Tryz.prog 77 #[.string (bs s),.int .i64 (a:Nat)] h (bX fun r h'=>r= .int .i64 (dG s a:Nat)/\aD h h'):=by
 have hbs:=aZ s;refine ah.of func77 rfl rfl ?_;refine aY func77 1 [0,1,4] rfl ?_;refine aY func77 1 [0,1,4,5] rfl ?_;refine au rfl ?_;refine bB func77 1 rfl ?_;refine xo rfl (av.yY underlying9 rfl) ?_;rintro _ h1 ⟨rfl,i1,e1,z1⟩;refine xd [0,1,4,5,8] rfl ?_;refine G.block rfl rfl ?_;refine bT (σ:=Nat×Nat) (fun w=>[(0,.string (bs s)),(1,.int .i64 (a:Nat)),(5,.int .i64 (w.2:Nat)),(8,.pointer (some ⟨h.size,0,none⟩))]) (fun w g=>gZ g h.size (bs s) w.1/\Ext (fun b=>b=h.size) h1 g/\w.2+((rE s w.1).takeWhile (fun k=>decide (k<a))).length=dG s a/\w.1<=s.length/\w.2<=w.1) (fun w=>s.length-w.1) ((0,0)) rfl ⟨rfl,rfl,rfl,rfl,trivial⟩ ⟨i1,Ext.refl _ _,by rw[Nat.zero_add];rfl,Nat.zero_le _,Nat.le_refl _⟩ ?_;rintro⟨p,n⟩ g ⟨hI,hx,hf,hp,hl⟩ ih
 try dsimp only
 dsimp only at hI hx hf hp hl;have hgz:=hx.size
 by_cases hlt:p<s.length
 · obtain⟨f1,f2,f3⟩:=tV hlt;have hz:p<(bs s).size:=by omega
   refine xr func77 rfl ?_;refine xo rfl (av.Ch rfl (hI) (hz)) ?_;rintro _ g1 ⟨rfl,i2,x2,z2⟩;rw[Fy] at *;refine aS 1 [0,1,5,8,9,10] rfl ?_;refine au rfl ?_;refine aO rfl rfl (fun _=>?_) (fun hc=>absurd hc (by simp));refine aA rfl ?_;refine G.block rfl rfl ?_;refine aY func77 2 [0,1,5,6,8,9,10] rfl ?_;refine au rfl ?_;refine aY func77 3 [0,1,5,6,8,9,10,14] rfl ?_;rw[f1,List.takeWhile_cons] at hf;refine aG rfl rfl (fun hpa=>?_) (fun hpa=>?_)
   · refine bN rfl rfl ?_;refine aY func77 2 [0,1,4,5,6,8,9,10,14] rfl ?_;refine aK func77 rfl rfl ?_;rw[if_neg (by rw[decide_eq_true_eq];omega)] at hf;exact⟨_,rfl,congrArg (Value.int .i64) (by rw[<-hf];rfl),aD.only e1 (hx.trans x2) (Nat.le_refl _)⟩
   · refine aA rfl ?_;refine G.bV func77 rfl ?_;refine cx 1 rfl rfl (ak.bL rfl rfl ⟨by omega,by omega⟩) ?_;refine aS 1 [0,1,5,6,8,9,10,14] rfl ?_;refine G.aT ?_;rw[if_pos (by rw[decide_eq_true_eq];omega),List.length_cons] at hf;exact ih (p+bw (s.drop p),n+1) _ _ ⟨rfl,rfl,rfl,rfl,trivial⟩ ⟨i2,hx.trans x2,by show n+1+(List.takeWhile (fun k=>decide (k<a)) (rE s (p+bw (s.drop p)))).length=dG s a;omega,f3,by show n+1<=p+bw (s.drop p);omega⟩ (by show s.length-(p+bw (s.drop p))<s.length-p;omega)
 · refine xr func77 rfl ?_;refine xo rfl (av.Ci rfl (hI) ((by omega))) ?_;rintro _ g1 ⟨rfl,rfl⟩;refine aS 1 [0,1,5,8,9,10] rfl ?_;refine au rfl ?_;refine aO rfl rfl (fun hc=>absurd hc (by simp)) (fun _=>?_);refine bN rfl rfl ?_;refine aY func77 2 [0,1,4,5,8,9,10] rfl ?_;refine aK func77 rfl rfl ?_;rw[wz (by omega)] at hf;exact⟨_,rfl,congrArg (Value.int .i64) (by rw[<-hf];rfl),aD.only e1 hx (Nat.le_refl _)⟩
theorem sS (s:By) (n:Int) (hs:s.length<=1000000):ah Tryz.prog 78 #[.string (bs s),.int .i64 n] h (bX fun r h'=>r= .int .i64 (jL s n:Nat)/\aD h h'):=by
 have hbs:=aZ s;refine ah.of func78 rfl rfl ?_;refine aY func78 1 [0,1,4] rfl ?_;refine bB func78 1 rfl ?_;refine xo rfl (aj (vs:=[_]) func19 rfl H.Jp rfl (ah.aX (o9 s hs))) ?_;rintro v g ⟨hw,e1⟩;have hr:cn gI g (fun _=>False) v (cq s):=hw.read (fun _ _ k=>k);obtain⟨oa,k,cp,rfl,hsl⟩:=hr.open;have hn:=hsl.len;subst hn;have hcap:=hsl.cap;have hle:=hsl.le;unfold maxLen at hcap;refine aS 1 [0,1,4,5] rfl ?_;refine au rfl ?_;refine G.block rfl rfl ?_;refine aY func78 3 [0,1,4,5,8] rfl ?_;refine aG rfl rfl (fun c1=>?_) (fun c1=>?_)
 · refine aY func78 1 [0,1,4,5,8] rfl ?_;refine aK func78 rfl rfl ?_;exact⟨_,rfl,congrArg (Value.int .i64) (by unfold jL;rw[if_pos c1];rfl),e1⟩
 · refine bB func78 2 rfl ?_;refine xp rfl (ak.aN underlying44 rfl) ?_;refine aS 2 [0,1,4,5,8,11] rfl ?_;refine aG rfl rfl (fun c2=>?_) (fun c2=>?_)
   · refine bB func78 1 rfl ?_;refine xp rfl (ak.bp underlying9 rfl) ?_;refine aS 1 [0,1,4,5,8,11] rfl ?_;refine aK func78 rfl rfl ?_;exact⟨_,rfl,congrArg (Value.int .i64) (by unfold jL;rw[if_neg c1,List.getD_eq_getElem?_getD,List.getElem?_eq_none (by omega),hbs];rfl),e1⟩
   · obtain⟨m,rfl⟩:∃m:Nat,n=m:=⟨n.toNat,by omega⟩
     have hm:m<(cq s).length:=by omega
     obtain⟨b,o,x,ha,_,hx,hc⟩:=hsl.at hm;refine aA rfl ?_;refine G.aT ?_;refine bB func78 2 rfl ?_;refine xp rfl (ak.aF underlying44 H.aQ rfl rfl m rfl ha (by omega)) ?_;refine xp rfl (af H.bD rfl hc) ?_;refine aS 1 [0,1,4,5,8,11] rfl ?_;refine aK func78 rfl rfl ?_;exact⟨_,rfl,congrArg (Value.int .i64) (by unfold jL;rw[if_neg c1,List.getD_eq_getElem?_getD,Int.toNat_natCast,hx];rfl),e1⟩
theorem rN (r:Nat):ah Tryz.prog 80 #[.int .i32 (r:Nat)] h (bX fun v h'=>v= .int .i64 (vf r)/\h'=h):=by
 refine ah.of func80 rfl rfl ?_;refine aY func80 1 [0,2] rfl ?_;refine au rfl ?_;refine G.block rfl rfl ?_;refine au rfl ?_;refine G.bu [(3,.bool (decide (r=32\/r=9\/r=10\/r=13)))] [(0,_),(2,_)] ⟨rfl,rfl,trivial⟩ func80 rfl ?_ ?_
 · refine aV 3 rfl ?_;refine aH (d:=6) rfl (fun c1=>?_) (fun c1=>?_)
   · have c1:=of_decide_eq_true c1;refine aV 12 rfl ?_;refine aC rfl ?_;exact⟨rfl,az rfl (by rw[decide_eq_true (by omega)]),rfl,rfl,trivial⟩
   · have c1:=of_decide_eq_false c1;refine aV 4 rfl ?_;refine aH (d:=10) rfl (fun c2=>?_) (fun c2=>?_)
     · have c2:=of_decide_eq_true c2;refine aV 8 rfl ?_;refine aC rfl ?_;exact⟨rfl,az rfl (by rw[decide_eq_true (by omega)]),rfl,rfl,trivial⟩
     · have c2:=of_decide_eq_false c2;refine aV 4 rfl ?_;refine aH (d:=14) rfl (fun c3=>?_) (fun c3=>?_)
       · have c3:=of_decide_eq_true c3;refine aV 4 rfl ?_;refine aC rfl ?_;exact⟨rfl,az rfl (by rw[decide_eq_true (by omega)]),rfl,rfl,trivial⟩
       · have c3:=of_decide_eq_false c3;refine aV 4 rfl ?_;refine aC rfl ?_;exact⟨rfl,az rfl (by rw[decide_eq_decide];omega),rfl,rfl,trivial⟩
 · refine aG rfl rfl (fun d0=>?_) (fun d0=>?_)
   · refine aY func80 1 [0,2,3] rfl ?_;refine aK func80 rfl rfl ?_;exact⟨_,rfl,congrArg (Value.int .i64) (by unfold vf;rw[if_pos d0]),rfl⟩
   · refine au rfl ?_;refine au rfl ?_;refine G.bu [(18,.bool (decide (48<=r/\r<=57)))] [(0,_),(2,_),(3,_)] ⟨rfl,rfl,rfl,trivial⟩ func80 rfl ?_ ?_
     · refine aV 3 rfl ?_;refine aH (d:=21) rfl (fun c=>?_) (fun c=>?_)
       · have c:=of_decide_eq_true c;refine aV 4 rfl ?_;refine aC rfl ?_;exact⟨rfl,az rfl (by rw[decide_eq_decide];omega),rfl,rfl,rfl,trivial⟩
       · have c:=of_decide_eq_false c;refine aV 4 rfl ?_;refine aC rfl ?_;exact⟨rfl,az rfl (by rw[decide_eq_false (by omega)]),rfl,rfl,rfl,trivial⟩
     · refine aG rfl rfl (fun d1=>?_) (fun d1=>?_)
       · refine aA rfl ?_;refine aO rfl rfl (fun _=>?_) (fun hc=>absurd hc (by simp;omega));refine aY func80 1 [0,2,3,18] rfl ?_;refine aK func80 rfl rfl ?_;exact⟨_,rfl,congrArg (Value.int .i64) (by unfold vf;rw[if_neg d0,if_pos (by omega)]),rfl⟩
       · refine au rfl ?_;refine G.bu [(18,.bool (decide (65<=r/\r<=90)))] [(0,_),(2,_),(3,_)] ⟨rfl,rfl,rfl,trivial⟩ func80 rfl ?_ ?_
         · refine aV 3 rfl ?_;refine aH (d:=27) rfl (fun c=>?_) (fun c=>?_)
           · have c:=of_decide_eq_true c;refine aV 4 rfl ?_;refine aC rfl ?_;exact⟨rfl,az rfl (by rw[decide_eq_decide];omega),rfl,rfl,rfl,trivial⟩
           · have c:=of_decide_eq_false c;refine aV 4 rfl ?_;refine aC rfl ?_;exact⟨rfl,az rfl (by rw[decide_eq_false (by omega)]),rfl,rfl,rfl,trivial⟩
         · refine aG rfl rfl (fun d2=>?_) (fun d2=>?_)
           · refine aA rfl ?_;refine aO rfl rfl (fun _=>?_) (fun hc=>absurd hc (by simp;omega));refine aY func80 1 [0,2,3,18] rfl ?_;refine aK func80 rfl rfl ?_;exact⟨_,rfl,congrArg (Value.int .i64) (by unfold vf;rw[if_neg d0,if_pos (by omega)]),rfl⟩
           · refine au rfl ?_;refine G.bu [(18,.bool (decide (97<=r/\r<=122)))] [(0,_),(2,_),(3,_)] ⟨rfl,rfl,rfl,trivial⟩ func80 rfl ?_ ?_
             · refine aV 3 rfl ?_;refine aH (d:=33) rfl (fun c=>?_) (fun c=>?_)
               · have c:=of_decide_eq_true c;refine aV 4 rfl ?_;refine aC rfl ?_;exact⟨rfl,az rfl (by rw[decide_eq_decide];omega),rfl,rfl,rfl,trivial⟩
               · have c:=of_decide_eq_false c;refine aV 4 rfl ?_;refine aC rfl ?_;exact⟨rfl,az rfl (by rw[decide_eq_false (by omega)]),rfl,rfl,rfl,trivial⟩
             · refine aG rfl rfl (fun d3=>?_) (fun d3=>?_)
               · refine aA rfl ?_;refine aO rfl rfl (fun _=>?_) (fun hc=>absurd hc (by simp;omega));refine aY func80 1 [0,2,3,18] rfl ?_;refine aK func80 rfl rfl ?_;exact⟨_,rfl,congrArg (Value.int .i64) (by unfold vf;rw[if_neg d0,if_pos (by omega)]),rfl⟩
               · refine aY func80 3 [0,2,3,18] rfl ?_;refine aG rfl rfl (fun d4=>?_) (fun d4=>?_)
                 · refine aA rfl ?_;refine aO rfl rfl (fun _=>?_) (fun hc=>absurd hc (by simp;omega));refine aY func80 1 [0,2,3,18] rfl ?_;refine aK func80 rfl rfl ?_;exact⟨_,rfl,congrArg (Value.int .i64) (by unfold vf;rw[if_neg d0,if_pos (by omega)]),rfl⟩
                 · refine G.bV func80 rfl ?_;refine aS 3 [0,2,3,18] rfl ?_;refine aG rfl rfl (fun d5=>?_) (fun d5=>?_)
                   · refine aY func80 1 [0,2,3,18] rfl ?_;refine aK func80 rfl rfl ?_;exact⟨_,rfl,congrArg (Value.int .i64) (by unfold vf;rw[if_neg d0,if_pos (by omega)]),rfl⟩
                   · refine aA rfl ?_;refine G.aT ?_;refine aY func80 1 [0,2,3,18] rfl ?_;refine aK func80 rfl rfl ?_;exact⟨_,rfl,congrArg (Value.int .i64) (by unfold vf;rw[if_neg d0,if_neg (by omega)]),rfl⟩
theorem oy (hg:jb h) (s:By) (a:Nat) (ha:a<=s.length) (hs:s.length<=1000000):ah Tryz.prog 43 #[.string (bs s),.int .i64 (a:Nat)] h (bX fun r h'=>r= .int .i64 (fA s a:Nat)/\aD h h'):=by
 have hc:=qH hg s a ha hs;refine ah.of func43 rfl rfl ?_;refine aY func43 1 [0,1,4] rfl ?_;refine bB func43 2 rfl ?_;refine xo rfl (aj (vs:=[_,_]) func24 rfl H.Ij rfl (ah.aX (hc))) ?_;rintro v h1 ⟨⟨b,rfl⟩,e1⟩
 rcases Nat.eq_zero_or_pos a with h0|h0
 · subst h0;have hv:jI s 0 b= .tuple #[.int .i32 0,.int .i64 0,.bool false]:=by unfold jI;rw[if_pos rfl]
   rw[hv];refine aS 7 [0,1,4,6] rfl ?_;refine bB func43 2 rfl ?_;refine xp rfl (ak.en rfl rfl ⟨by omega,by omega⟩) ?_;refine aS 1 [0,1,4,6] rfl ?_;refine aK func43 rfl rfl ?_;exact⟨_,rfl,rfl,e1⟩
 · have hv:jI s a b= .tuple #[.int .i32 ((Lib.decodeLastL (s.take a)).1:Nat),.int .i64 ((Lib.decodeLastL (s.take a)).2:Nat),.bool b]:=by unfold jI;rw[if_neg (by omega)]
   have hl:=pU (s.take a) (by intro e;have:=congrArg List.length e;rw[List.length_take,List.length_nil] at this;omega);rw[List.length_take] at hl;rw[hv];refine aS 7 [0,1,4,6] rfl ?_;refine bB func43 2 rfl ?_;refine xp rfl (ak.en rfl rfl ⟨by omega,by omega⟩) ?_;refine aS 1 [0,1,4,6] rfl ?_;refine aK func43 rfl rfl ?_;exact⟨_,rfl,congrArg (Value.int .i64) (by unfold fA;rw[if_neg (by omega)];omega),e1⟩
theorem mc (hg:jb h) (s:By) (a:Nat) (ha:a<=s.length) (hs:s.length<=1000000):ah Tryz.prog 44 #[.string (bs s),.int .i64 (a:Nat)] h (bX fun r h'=>r= .int .i64 (cQ s a:Nat)/\aD h h'):=by
 have hc:=vV hg s a ha;refine ah.of func44 rfl rfl ?_;refine aY func44 1 [0,1,4] rfl ?_;refine bB func44 2 rfl ?_;refine xo rfl (aj (vs:=[_,_]) func76 rfl H.H7 rfl (ah.aX (hc))) ?_;rintro v h1 ⟨⟨b,rfl⟩,e1⟩
 rcases Nat.lt_or_ge a s.length with h0|h0
 · have hv:mo s a b= .tuple #[.int .i32 (nF (s.drop a):Nat),.int .i64 (bw (s.drop a):Nat),.bool b]:=by unfold mo;rw[if_neg (by omega)]
   have hl:=nj (s.drop a);rw[hv];refine aS 7 [0,1,4,6] rfl ?_;refine bB func44 2 rfl ?_;refine xp rfl (ak.bL rfl rfl ⟨by omega,by omega⟩) ?_;refine aS 1 [0,1,4,6] rfl ?_;refine aK func44 rfl rfl ?_;exact⟨_,rfl,congrArg (Value.int .i64) (by unfold cQ;rw[if_neg (by omega)];omega),e1⟩
 · have hv:mo s a b= .tuple #[.int .i32 0,.int .i64 0,.bool false]:=by unfold mo;rw[if_pos (by omega)]
   rw[hv];refine aS 7 [0,1,4,6] rfl ?_;refine bB func44 2 rfl ?_;refine xp rfl (ak.bL rfl rfl ⟨by omega,by omega⟩) ?_;refine aS 1 [0,1,4,6] rfl ?_;refine aK func44 rfl rfl ?_;exact⟨_,rfl,congrArg (Value.int .i64) (by unfold cQ;rw[if_pos h0];omega),e1⟩
theorem kZ (hg:jb h) (s:By) (a:Nat) (ha:a<=s.length) (hs:s.length<=1000000):ah Tryz.prog 51 #[.string (bs s),.int .i64 (a:Nat)] h (bX fun r h'=>r= .int .i64 (eJ s a)/\aD h h'):=by
 have hc:=vV hg s a ha;refine ah.of func51 rfl rfl ?_;refine aY func51 1 [0,1,4] rfl ?_;refine bB func51 2 rfl ?_;refine xo rfl (aj (vs:=[_,_]) func76 rfl H.H7 rfl (ah.aX (hc))) ?_;rintro v h1 ⟨⟨b,rfl⟩,e1⟩
 rcases Nat.lt_or_ge a s.length with h0|h0
 · have hv:mo s a b= .tuple #[.int .i32 (nF (s.drop a):Nat),.int .i64 (bw (s.drop a):Nat),.bool b]:=by unfold mo;rw[if_neg (by omega)]
   have hl:=dm (l:=s.drop a) (by intro e;have:=congrArg List.length e;rw[List.length_drop,List.length_nil] at this;omega);rw[hv];refine aS 7 [0,1,4,5,6] rfl ?_;refine au rfl ?_;refine aY func51 2 [0,1,4,5,6,16] rfl ?_;refine aO rfl rfl (fun hc=>absurd hc (by simp;omega)) (fun _=>?_);refine aA rfl ?_;refine bB func51 1 rfl ?_;refine xo rfl (aj (vs:=[_]) func80 rfl H.Jb rfl (ah.aX (rN (nF (s.drop a))))) ?_;rintro _ h1 ⟨rfl,rfl⟩;refine aS 1 [0,1,4,5,6,16] rfl ?_;refine aK func51 rfl rfl ?_;exact⟨_,rfl,congrArg (Value.int .i64) (by unfold eJ;rw[if_neg (by omega)]),e1⟩
 · have hv:mo s a b= .tuple #[.int .i32 0,.int .i64 0,.bool false]:=by unfold mo;rw[if_pos (by omega)]
   rw[hv];refine aS 7 [0,1,4,5,6] rfl ?_;refine au rfl ?_;refine aY func51 2 [0,1,4,5,6,16] rfl ?_;refine aO rfl rfl (fun _=>?_) (fun hc=>absurd hc (by simp));refine aY func51 1 [0,1,4,5,6,16] rfl ?_;refine aK func51 rfl rfl ?_;exact⟨_,rfl,congrArg (Value.int .i64) (by unfold eJ;rw[if_pos h0]),e1⟩
theorem mR (hg:jb h) (s:By) (a:Nat) (ha:a<=s.length) (hs:s.length<=1000000):ah Tryz.prog 53 #[.string (bs s),.int .i64 (a:Nat)] h (bX fun r h'=>r= .int .i64 (fI s a)/\aD h h'):=by
 have hc:=qH hg s a ha hs;refine ah.of func53 rfl rfl ?_;refine aY func53 1 [0,1,4] rfl ?_;refine bB func53 2 rfl ?_;refine xo rfl (aj (vs:=[_,_]) func24 rfl H.Ij rfl (ah.aX (hc))) ?_;rintro v h1 ⟨⟨b,rfl⟩,e1⟩
 rcases Nat.eq_zero_or_pos a with h0|h0
 · have hv:jI s a b= .tuple #[.int .i32 0,.int .i64 0,.bool false]:=by unfold jI;rw[if_pos h0]
   rw[hv];refine aS 7 [0,1,4,5,6] rfl ?_;refine au rfl ?_;refine aY func53 2 [0,1,4,5,6,16] rfl ?_;refine aO rfl rfl (fun _=>?_) (fun hc=>absurd hc (by simp));refine aY func53 1 [0,1,4,5,6,16] rfl ?_;refine aK func53 rfl rfl ?_;exact⟨_,rfl,congrArg (Value.int .i64) (by unfold fI;rw[if_pos (.inl h0)]),e1⟩
 · have hv:jI s a b= .tuple #[.int .i32 ((Lib.decodeLastL (s.take a)).1:Nat),.int .i64 ((Lib.decodeLastL (s.take a)).2:Nat),.bool b]:=by unfold jI;rw[if_neg (by omega)]
   have hl:=pU (s.take a) (by intro e;have:=congrArg List.length e;rw[List.length_take,List.length_nil] at this;omega);rw[hv];refine aS 7 [0,1,4,5,6] rfl ?_;refine au rfl ?_;refine aY func53 2 [0,1,4,5,6,16] rfl ?_;refine aO rfl rfl (fun hc=>absurd hc (by simp;omega)) (fun _=>?_);refine aA rfl ?_;refine bB func53 1 rfl ?_;refine xo rfl (aj (vs:=[_]) func80 rfl H.Jb rfl (ah.aX (rN ((Lib.decodeLastL (s.take a)).1)))) ?_;rintro _ h1 ⟨rfl,rfl⟩;refine aS 1 [0,1,4,5,6,16] rfl ?_;refine aK func53 rfl rfl ?_;exact⟨_,rfl,congrArg (Value.int .i64) (by unfold fI;rw[if_neg (by omega)]),e1⟩
def BP (h:ay) (fv:Value) (so:Int->Bool):Prop:=∃g caps,fv= .func (.func g) #[] caps.toArray/\Km Tryz.prog g/\∀(c:Int) (h':ay),aD h h'->ah Tryz.prog g ([.int .i64 c]++caps).toArray h' (bX fun r h''=>r= .bool (so c)/\aD h' h'')
theorem fh (hg:jb h) (s:By) (a:Nat) (ha:a<=s.length) (hs:s.length<=1000000){so:Int->Bool}(hf:BP h fv so):ah Tryz.prog 46 #[.string (bs s),.int .i64 (a:Nat),fv] h (bX fun r h'=>r= .int .i64 (cX so s a:Nat)/\aD h h'):=by
 obtain⟨g0,caps,rfl,hok,hcal⟩:=hf;refine ah.of func46 rfl rfl ?_;refine aY func46 1 [0,1,2,6] rfl ?_;refine au rfl ?_;refine G.block rfl rfl ?_;refine bT (σ:=Nat) (fun p=>[(0,.string (bs s)),(1,.int .i64 (p:Nat)),(2,.func (.func g0) #[] caps.toArray)]) (fun p g=>aD h g/\p<=s.length/\cX so s p=cX so s a) (fun p=>s.length-p) (a) rfl ⟨rfl,rfl,rfl,trivial⟩ ⟨Ext.refl _ _,ha,rfl⟩ ?_;rintro p g ⟨e0,hp,hsk⟩ ih;refine au rfl ?_;refine au rfl ?_;refine G.AX (fun(_u:Unit) (h':ay)=>aD g h') (fun(_u:Unit)=>[(17,.bool (decide (0<=eJ s p/\so (eJ s p)=true)))]) [(0,_),(1,_),(2,_)] ⟨rfl,rfl,rfl,trivial⟩ func46 rfl ?_ ?_
 · refine aV 2 rfl ?_;refine xo rfl (aj (vs:=[_,_]) func51 rfl H.Ge rfl (ah.aX (kZ (hg.ax e0) s p hp hs))) ?_;rintro _ g1 ⟨rfl,e1⟩;refine aV 2 rfl ?_;refine aH (d:=11) rfl (fun c=>?_) (fun c=>?_)
   · have c:=of_decide_eq_true c;refine aV 3 rfl ?_;refine xo rfl (aj (vs:=[_,_]) func51 rfl H.Ge rfl (ah.aX (kZ (hg.ax (e0.trans e1)) s p hp hs))) ?_;rintro _ g2 ⟨rfl,e2⟩;refine xo rfl (av.HH (vs:=[_]) rfl hok rfl (ah.aX (hcal (eJ s p) g2 ((e0.trans e1).trans e2)))) ?_;rintro _ g3 ⟨rfl,e3⟩;refine aV 1 rfl ?_;refine aC rfl ?_;exact⟨(),(e1.trans e2).trans e3,az rfl (by simp[c]),rfl,rfl,rfl,trivial⟩
   · have c:=of_decide_eq_false c;refine aV 6 rfl ?_;refine aC rfl ?_;exact⟨(),e1,az rfl (by rw[decide_eq_false (fun q=>c q.1)]),rfl,rfl,rfl,trivial⟩
 · rintro _ g4 e4;have e04:=e0.trans e4;refine aG rfl rfl (fun hc=>?_) (fun hc=>?_)
   · have hlt:=xR hc.1;have hr:=And.intro (sQ hlt) (dO hp).2;refine aA rfl ?_;refine G.block rfl rfl ?_;refine G.bV func46 rfl ?_;refine aV 2 rfl ?_;refine xo rfl (aj (vs:=[_,_]) func44 rfl H.Ic rfl (ah.aX (mc (hg.ax e04) s p hp hs))) ?_;rintro _ g5 ⟨rfl,e5⟩;refine aS 1 [0,1,2,17] rfl ?_;refine G.aT ?_;exact ih (cQ s p) _ _ ⟨rfl,rfl,rfl,trivial⟩ ⟨e04.trans e5,by omega,by rw[<-hsk];exact(C0 hc.1 hc.2).symm⟩ (by omega)
   · refine bN rfl rfl ?_;refine aY func46 2 [0,1,2,6,17] rfl ?_;refine aK func46 rfl rfl ?_;exact⟨_,rfl,congrArg (fun n:Nat=>Value.int .i64 (n:Nat)) (by rw[<-hsk];exact(CZ hc).symm),e04⟩
theorem jC (hg:jb h) (s:By) (a:Nat) (ha:a<=s.length) (hs:s.length<=1000000){so:Int->Bool}(hf:BP h fv so):ah Tryz.prog 49 #[.string (bs s),.int .i64 (a:Nat),fv] h (bX fun r h'=>r= .int .i64 (gF so s a:Nat)/\aD h h'):=by
 obtain⟨g0,caps,rfl,hok,hcal⟩:=hf;refine ah.of func49 rfl rfl ?_;refine aY func49 1 [0,1,2,6] rfl ?_;refine au rfl ?_;refine G.block rfl rfl ?_;refine bT (σ:=Nat) (fun p=>[(0,.string (bs s)),(1,.int .i64 (p:Nat)),(2,.func (.func g0) #[] caps.toArray)]) (fun p g=>aD h g/\p<=s.length/\gF so s p=gF so s a) (fun p=>p) (a) rfl ⟨rfl,rfl,rfl,trivial⟩ ⟨Ext.refl _ _,ha,rfl⟩ ?_;rintro p g ⟨e0,hp,hsk⟩ ih;refine au rfl ?_;refine au rfl ?_;refine G.AX (fun(_u:Unit) (h':ay)=>aD g h') (fun(_u:Unit)=>[(17,.bool (decide (0<=fI s p/\so (fI s p)=true)))]) [(0,_),(1,_),(2,_)] ⟨rfl,rfl,rfl,trivial⟩ func49 rfl ?_ ?_
 · refine aV 2 rfl ?_;refine xo rfl (aj (vs:=[_,_]) func53 rfl H.Ia rfl (ah.aX (mR (hg.ax e0) s p hp hs))) ?_;rintro _ g1 ⟨rfl,e1⟩;refine aV 2 rfl ?_;refine aH (d:=11) rfl (fun c=>?_) (fun c=>?_)
   · have c:=of_decide_eq_true c;refine aV 3 rfl ?_;refine xo rfl (aj (vs:=[_,_]) func53 rfl H.Ia rfl (ah.aX (mR (hg.ax (e0.trans e1)) s p hp hs))) ?_;rintro _ g2 ⟨rfl,e2⟩;refine xo rfl (av.HH (vs:=[_]) rfl hok rfl (ah.aX (hcal (fI s p) g2 ((e0.trans e1).trans e2)))) ?_;rintro _ g3 ⟨rfl,e3⟩;refine aV 1 rfl ?_;refine aC rfl ?_;exact⟨(),(e1.trans e2).trans e3,az rfl (by simp[c]),rfl,rfl,rfl,trivial⟩
   · have c:=of_decide_eq_false c;refine aV 6 rfl ?_;refine aC rfl ?_;exact⟨(),e1,az rfl (by rw[decide_eq_false (fun q=>c q.1)]),rfl,rfl,rfl,trivial⟩
 · rintro _ g4 e4;have e04:=e0.trans e4;refine aG rfl rfl (fun hc=>?_) (fun hc=>?_)
   · have hlt:=qh hc.1;have hr:=xE hlt.1 hlt.2;refine aA rfl ?_;refine G.block rfl rfl ?_;refine G.bV func49 rfl ?_;refine aV 2 rfl ?_;refine xo rfl (aj (vs:=[_,_]) func43 rfl H.Ie rfl (ah.aX (oy (hg.ax e04) s p hp hs))) ?_;rintro _ g5 ⟨rfl,e5⟩;refine aS 1 [0,1,2,17] rfl ?_;refine G.aT ?_;exact ih (fA s p) _ _ ⟨rfl,rfl,rfl,trivial⟩ ⟨e04.trans e5,by omega,by rw[<-hsk];exact(DU hc.1 hc.2).symm⟩ (by omega)
   · refine bN rfl rfl ?_;refine aY func49 2 [0,1,2,6,17] rfl ?_;refine aK func49 rfl rfl ?_;exact⟨_,rfl,congrArg (fun n:Nat=>Value.int .i64 (n:Nat)) (by rw[<-hsk];exact(DT hc).symm),e04⟩
theorem Am (c:Int):ah Tryz.prog 52 #[.int .i64 c] h (bX fun r h'=>r= .bool (ey c)/\h'=h):=by
 refine ah.of func52 rfl rfl ?_;refine aY func52 1 [0,2] rfl ?_;refine aY func52 3 [0,2] rfl ?_;refine aK func52 rfl rfl ?_;exact⟨_,rfl,rfl,rfl⟩
theorem qg (h:ay):BP h (.func (.func 52) #[] #[]) ey:=⟨_,[],rfl,⟨_,func52,rfl,by kernel_rfl⟩,fun c h' e=>(Am c).ret fun _ _ ⟨h1,h2⟩=>⟨h1,by subst h2;exact Ext.refl _ _⟩⟩
theorem Az (c:Int):ah Tryz.prog 48 #[.int .i64 c] h (bX fun r h'=>r= .bool (CK c)/\h'=h):=by
 refine ah.of func48 rfl rfl ?_;refine aY func48 1 [0,2] rfl ?_;refine aY func48 3 [0,2] rfl ?_;refine aK func48 rfl rfl ?_;exact⟨_,rfl,rfl,rfl⟩
theorem BY (h:ay):BP h (.func (.func 48) #[] #[]) CK:=⟨_,[],rfl,⟨_,func48,rfl,by kernel_rfl⟩,fun c h' e=>(Az c).ret fun _ _ ⟨h1,h2⟩=>⟨h1,by subst h2;exact Ext.refl _ _⟩⟩
theorem BJ (c:Int):ah Tryz.prog 47 #[.int .i64 c] h (bX fun r h'=>r= .bool (rR c)/\h'=h):=by
 refine ah.of func47 rfl rfl ?_;refine aY func47 1 [0,2] rfl ?_;refine aY func47 3 [0,2] rfl ?_;refine aK func47 rfl rfl ?_;exact⟨_,rfl,rfl,rfl⟩
theorem Cx (h:ay):BP h (.func (.func 47) #[] #[]) rR:=⟨_,[],rfl,⟨_,func47,rfl,by kernel_rfl⟩,fun c h' e=>(BJ c).ret fun _ _ ⟨h1,h2⟩=>⟨h1,by subst h2;exact Ext.refl _ _⟩⟩
theorem zf {b:Nat}{k c:Int}(kb:br h b 3 [.int .i64 k]):ah Tryz.prog 79 #[.int .i64 c,.pointer (some ⟨b,0,none⟩)] h (bX fun r h'=>r= .bool (fW k c)/\aD h h'):=by
 refine ah.of func79 rfl rfl ?_;refine aY func79 1 [0,1,3] rfl ?_;refine au rfl ?_;refine G.bu [(3,.bool (fW k c))] [(0,_),(1,_)] ⟨rfl,rfl,trivial⟩ func79 rfl ?_ ?_
 · refine cx 1 rfl rfl (af H.bD rfl (kb.cell (i:=0) rfl)) ?_;refine aV 2 rfl ?_;refine aH (d:=7) rfl (fun c1=>?_) (fun c1=>?_)
   · have c1:=of_decide_eq_true c1;refine aV 4 rfl ?_;refine aC rfl ?_;exact⟨rfl,az rfl (by unfold fW;rw[decide_eq_true c1,Bool.true_and]),rfl,rfl,trivial⟩
   · have c1:=of_decide_eq_false c1;refine aV 4 rfl ?_;refine aC rfl ?_;exact⟨rfl,az rfl (by unfold fW;rw[decide_eq_false c1,Bool.false_and]),rfl,rfl,trivial⟩
 · refine aK func79 rfl rfl ?_;exact⟨_,rfl,rfl,Ext.refl _ _⟩
theorem mh (k:Int):ah Tryz.prog 50 #[.int .i64 k] h (bX fun r h'=>BP h' r (fW k)/\aD h h'):=by
 refine ah.of func50 rfl rfl ?_;refine xr func50 rfl ?_;refine xo rfl (av.cR rfl) ?_;rintro _ h1 ⟨rfl,k1,e1,z1⟩;refine aS 1 [0,1,2] rfl ?_;refine xr func50 rfl ?_;refine xp rfl (ak.makeFunc (vs:=[_]) rfl) ?_;refine aS 1 [0,1,2] rfl ?_;refine aK func50 rfl rfl ?_;exact⟨_,rfl,⟨_,[.pointer (some ⟨h.size,0,none⟩)],rfl,⟨_,func79,rfl,by kernel_rfl⟩,fun c h' e=>zf (k1.ax e)⟩,e1⟩
theorem sj (s:By) (a:Nat):dG s a<=s.length:=by
 have h1:=List.Sublist.length_le (List.takeWhile_sublist (fun k=>decide (k<a)) (l:=cq s))
 have h2:∀(n:Nat) (l:By) (b:Nat),l.length<=n->(bH n l b).length<=l.length:=by
  intro n
  induction n with
  |zero=>intro l b _;simp[bH]
  |succ n ih =>
   intro l b hl;rw[bH];split
   · simp
   · rename_i hne;have hr:=dm hne;have:=ih (l.drop (bw l)) (b+bw l) (by rw[List.length_drop];omega);rw[List.length_drop] at this;rw[List.length_cons];omega
 have h3:=h2 s.length s 0 (Nat.le_refl _);unfold dG;unfold cq at *;omega
theorem tC (s:By) (a:Nat) (ha:a<=s.length) (hs:s.length<=1000000) (up:Bool):ah Tryz.prog 45 #[.string (bs s),.int .i64 (a:Nat),.int .i64 (if up=true then -1 else 1)] h (bX fun r h'=>r= .int .i64 (mz s a up:Nat)/\aD h h'):=by
 have hbs:=aZ s;have hst:=eO s a;have hen:=ig ha;have r1:=sj s a;have r2:=sj s (bk s a);refine ah.of func45 rfl rfl ?_;refine aY func45 1 [0,1,2,6] rfl ?_;refine bB func45 2 rfl ?_;refine xo rfl (aj (vs:=[_,_]) func18 rfl H.pM rfl (ah.aX (cz s a ha hs))) ?_;rintro _ h ⟨rfl,rfl⟩;refine aS 1 [0,1,2,6,7] rfl ?_;refine bB func45 2 rfl ?_;refine xo rfl (aj (vs:=[_,_]) func77 rfl H.Gd rfl (ah.aX (kO s a hs ha))) ?_;rintro _ g1 ⟨rfl,e1⟩;refine aV 2 rfl ?_;refine xo rfl (aj (vs:=[_,_]) func77 rfl H.Gd rfl (ah.aX (kO s (bk s a) hs hst.2))) ?_;rintro _ g2 ⟨rfl,e2⟩;refine xp rfl (ak.en rfl rfl ⟨by omega,by omega⟩) ?_;refine aS 1 [0,1,2,6,7,8] rfl ?_;refine bB func45 1 rfl ?_;refine xp rfl (ak.en rfl rfl ⟨by omega,by omega⟩) ?_;refine aS 1 [0,1,2,6,7,8,9] rfl ?_;refine au rfl ?_;refine aY func45 2 [0,1,2,6,7,8,9,23] rfl ?_;cases up
 · refine aO rfl rfl (fun _=>?_) (fun hc=>absurd hc (by simp));refine G.bV func45 rfl ?_;refine aV 2 rfl ?_;refine xo rfl (aj (vs:=[_,_]) func17 rfl H.oq rfl (ah.aX (cP s a ha hs))) ?_;rintro _ g2 ⟨rfl,rfl⟩;refine xp rfl (ak.bL rfl rfl ⟨by omega,by omega⟩) ?_;refine aS 1 [0,1,2,6,7,8,9,23] rfl ?_;refine au rfl ?_;refine au rfl ?_;refine G.bu [(35,.bool (decide (s.length<cY s a+1)))] [(0,_),(1,_),(2,_),(6,_),(7,_),(8,_),(9,_),(23,_)] ⟨rfl,rfl,rfl,rfl,rfl,rfl,rfl,rfl,trivial⟩ func45 rfl ?_ ?_
   · refine aV 3 rfl ?_;refine RW.dZ (d:=30) (b':=false) rfl (by rw[decide_eq_false];omega) ?_;refine cx 2 rfl rfl (ak.bp underlying9 rfl) ?_;refine aV 2 rfl ?_;refine aC rfl ?_;exact⟨rfl,az rfl (by rw[decide_eq_decide];omega),rfl,rfl,rfl,rfl,rfl,rfl,rfl,rfl,trivial⟩
   · refine aG rfl rfl (fun hc=>?_) (fun hc=>?_)
     · refine aY func45 2 [0,1,2,6,7,8,9,23,35] rfl ?_;refine aK func45 rfl rfl ?_;exact⟨_,rfl,congrArg (fun n:Nat=>Value.int .i64 (n:Nat)) (by unfold mz;rw[if_neg (by simp),if_pos hc]),e1.trans e2⟩
     · have hL:mz s a false=min (jL s ((dG s (bk s (cY s a+1)):Int)+((dG s a:Int)-(dG s (bk s a):Nat)))) (cY s (bk s (cY s a+1))):=by unfold mz;rw[if_neg (by simp),if_neg hc]
       refine aA rfl ?_;refine bB func45 2 rfl ?_;refine xo rfl (aj (vs:=[_,_]) func18 rfl H.pM rfl (ah.aX (cz s (cY s a+1) (by omega) hs))) ?_;rintro _ h3 ⟨rfl,rfl⟩;have ht:=eO s (cY s a+1);have r3:=sj s (bk s (cY s a+1));refine aS 1 [0,1,2,6,7,8,9,23,35] rfl ?_;refine bB func45 3 rfl ?_;refine xo rfl (aj (vs:=[_,_]) func77 rfl H.Gd rfl (ah.aX (kO s (bk s (cY s a+1)) hs ht.2))) ?_;rintro _ g4 ⟨rfl,e4⟩;refine cx 1 rfl rfl (ak.bL rfl rfl ⟨by omega,by omega⟩) ?_;refine xo rfl (aj (vs:=[_,_]) func78 rfl H.Jc rfl (ah.aX (sS s ((dG s (bk s (cY s a+1)):Int)+((dG s a:Int)-(dG s (bk s a):Nat))) hs))) ?_;rintro _ g5 ⟨rfl,e5⟩;refine aV 2 rfl ?_;refine xo rfl (aj (vs:=[_,_]) func17 rfl H.oq rfl (ah.aX (cP s (bk s (cY s a+1)) ht.2 hs))) ?_;rintro _ h6 ⟨rfl,rfl⟩;refine xp rfl (ak.min2 rfl rfl) ?_;refine aS 1 [0,1,2,6,7,8,9,23,35] rfl ?_;refine aK func45 rfl rfl ?_;exact⟨_,rfl,congrArg (Value.int .i64) (by rw[hL];(repeat' split)<;>omega),((e1.trans e2).trans e4).trans e5⟩
 · refine aO rfl rfl (fun hc=>absurd hc (by simp)) (fun _=>?_);refine aA rfl ?_;refine au rfl ?_;refine au rfl ?_;refine G.bu [(35,.bool (decide (bk s a=0)))] [(0,_),(1,_),(2,_),(6,_),(7,_),(8,_),(9,_),(23,_)] ⟨rfl,rfl,rfl,rfl,rfl,rfl,rfl,rfl,trivial⟩ func45 rfl ?_ ?_
   · refine aV 3 rfl ?_;refine aH (d:=30) rfl (fun c1=>?_) (fun c1=>?_)
     · have c1:=of_decide_eq_true c1;refine aV 5 rfl ?_;refine aC rfl ?_;exact⟨rfl,az rfl (by rw[decide_eq_true (by omega)]),rfl,rfl,rfl,rfl,rfl,rfl,rfl,rfl,trivial⟩
     · have c1:=of_decide_eq_false c1;refine cx 2 rfl rfl (ak.bp underlying9 rfl) ?_;refine aV 2 rfl ?_;refine aC rfl ?_;exact⟨rfl,az rfl (by rw[decide_eq_decide];omega),rfl,rfl,rfl,rfl,rfl,rfl,rfl,rfl,trivial⟩
   · refine aG rfl rfl (fun hc=>?_) (fun hc=>?_)
     · refine aY func45 2 [0,1,2,6,7,8,9,23,35] rfl ?_;refine aK func45 rfl rfl ?_;exact⟨_,rfl,congrArg (fun n:Nat=>Value.int .i64 (n:Nat)) (by unfold mz;rw[if_pos rfl,if_pos hc]),e1.trans e2⟩
     · have hL:mz s a true=min (jL s ((dG s (bk s (bk s a-1)):Int)+((dG s a:Int)-(dG s (bk s a):Nat)))) (cY s (bk s (bk s a-1))):=by unfold mz;rw[if_pos rfl,if_neg hc]
       rw[show ((bk s a:Nat):Int)-1=((bk s a-1:Nat):Int) by omega];refine aA rfl ?_;refine bB func45 2 rfl ?_;refine xo rfl (aj (vs:=[_,_]) func18 rfl H.pM rfl (ah.aX (cz s (bk s a-1) (by omega) hs))) ?_;rintro _ h3 ⟨rfl,rfl⟩;have ht:=eO s (bk s a-1);have r3:=sj s (bk s (bk s a-1));refine aS 1 [0,1,2,6,7,8,9,23,35] rfl ?_;refine bB func45 3 rfl ?_;refine xo rfl (aj (vs:=[_,_]) func77 rfl H.Gd rfl (ah.aX (kO s (bk s (bk s a-1)) hs ht.2))) ?_;rintro _ g4 ⟨rfl,e4⟩;refine cx 1 rfl rfl (ak.bL rfl rfl ⟨by omega,by omega⟩) ?_;refine xo rfl (aj (vs:=[_,_]) func78 rfl H.Jc rfl (ah.aX (sS s ((dG s (bk s (bk s a-1)):Int)+((dG s a:Int)-(dG s (bk s a):Nat))) hs))) ?_;rintro _ g5 ⟨rfl,e5⟩;refine aV 2 rfl ?_;refine xo rfl (aj (vs:=[_,_]) func17 rfl H.oq rfl (ah.aX (cP s (bk s (bk s a-1)) ht.2 hs))) ?_;rintro _ h6 ⟨rfl,rfl⟩;refine xp rfl (ak.min2 rfl rfl) ?_;refine aS 1 [0,1,2,6,7,8,9,23,35] rfl ?_;refine aK func45 rfl rfl ?_;exact⟨_,rfl,congrArg (Value.int .i64) (by rw[hL];(repeat' split)<;>omega),((e1.trans e2).trans e4).trans e5⟩
theorem AI (hg:jb h) (s:By) (a:Nat) (ha:a<=s.length) (hs:s.length<=1000000):ah Tryz.prog 54 #[.string (bs s),.int .i64 (a:Nat)] h (bX fun r h'=>r= .int .i64 (BZ s a:Nat)/\aD h h'):=by
 have h1:=dO ha;have h2:=fK (so:=ey) h1.2;have h3:=fK (so:=fW (eJ s (cX ey s (cQ s a)))) h2.2;have hT:BZ s a=if cX ey s (cQ s a)<cX (fW (eJ s (cX ey s (cQ s a)))) s (cX ey s (cQ s a)) then fA s (cX (fW (eJ s (cX ey s (cQ s a)))) s (cX ey s (cQ s a))) else cX ey s (cQ s a):=rfl
 rw[hT];have hm1:∀g,aD h g->_:=fun g e=>fh (hg.ax e) s (cQ s a) h1.2 hs (qg g)
 generalize cX ey s (cQ s a)=b at *;have hm2:∀g (fv:Value),aD h g->BP g fv (fW (eJ s b))->_:=fun g fv e hf=>fh (hg.ax e) s b h2.2 hs hf
 generalize ht:cX (fW (eJ s b)) s b=t at *;refine ah.of func54 rfl rfl ?_;refine aY func54 1 [0,1,4] rfl ?_;refine bB func54 3 rfl ?_;refine xo rfl (aj (vs:=[_,_]) func44 rfl H.Ic rfl (ah.aX (mc hg s a ha hs))) ?_;rintro _ g1 ⟨rfl,e1⟩;refine xo rfl (aj (vs:=[_,_,_]) func46 rfl H.A5 rfl (ah.aX (hm1 _ e1))) ?_;rintro _ g2 ⟨rfl,e2⟩;refine aS 1 [0,1,4] rfl ?_;refine bB func54 4 rfl ?_;refine xo rfl (aj (vs:=[_,_]) func51 rfl H.Ge rfl (ah.aX (kZ (hg.ax (e1.trans e2)) s b h2.2 hs))) ?_;rintro _ g3 ⟨rfl,e3⟩;refine xo rfl (aj (vs:=[_]) func50 rfl H.Ib rfl (ah.aX (mh (eJ s b)))) ?_;rintro fv g4 ⟨hf,e4⟩;refine xo rfl (aj (vs:=[_,_,_]) func46 rfl H.A5 rfl (ah.aX (hm2 _ fv (((e1.trans e2).trans e3).trans e4) hf))) ?_;rintro _ g5 ⟨rfl,e5⟩;refine aS 1 [0,1,4,5] rfl ?_;refine au rfl ?_;refine aY func54 3 [0,1,4,5,20] rfl ?_;have e05:=(((e1.trans e2).trans e3).trans e4).trans e5;refine aG rfl rfl (fun hc=>?_) (fun hc=>?_)
 · have hc:b<t:=by omega
   refine bB func54 2 rfl ?_;refine xo rfl (aj (vs:=[_,_]) func43 rfl H.Ie rfl (ah.aX (oy (hg.ax e05) s t h3.2 hs))) ?_;rintro _ g6 ⟨rfl,e6⟩;refine aS 1 [0,1,4,5,20] rfl ?_;refine aK func54 rfl rfl ?_;exact⟨_,rfl,by rw[if_pos hc];rfl,e05.trans e6⟩
 · refine aA rfl ?_;refine aY func54 2 [0,1,4,5,20] rfl ?_;refine aK func54 rfl rfl ?_;exact⟨_,rfl,by rw[if_neg (by omega)];rfl,e05⟩
theorem A0 (hg:jb h) (s:By) (a:Nat) (w:Int) (ha:a<=s.length) (hs:s.length<=1000000):ah Tryz.prog 21 #[.string (bs s),.int .i64 (a:Nat),.int .i64 w] h (bX fun r h'=>r= .int .i64 (ko s a w:Nat)/\aD h h'):=by
 have hbs:=aZ s;obtain⟨O,hO⟩:∃O,ko s a w=O:=⟨_,rfl⟩
 rw[hO];unfold ko at hO;refine ah.of func21 rfl rfl ?_;refine aY func21 1 [0,1,2,6] rfl ?_;refine au rfl ?_;refine aY func21 1 [0,1,2,6,7] rfl ?_;refine G.block rfl rfl ?_;refine aY func21 2 [0,1,2,6,7,8] rfl ?_;refine aG rfl rfl (fun c0=>?_) (fun c0=>?_)
 · rw[if_pos c0] at hO;refine bB func21 2 rfl ?_;refine xo rfl (aj (vs:=[_,_]) func43 rfl H.Ie rfl (ah.aX (oy hg s a ha hs))) ?_;rintro _ g1 ⟨rfl,e1⟩;refine aS 1 [0,1,2,6,7,8] rfl ?_;refine aK func21 rfl rfl ?_;exact⟨_,rfl,congrArg (fun n:Nat=>Value.int .i64 (n:Nat)) hO,e1⟩
 · rw[if_neg c0] at hO;refine aY func21 2 [0,1,2,6,7,8,13] rfl ?_;refine aG rfl rfl (fun c1=>?_) (fun c1=>?_)
   · rw[if_pos c1] at hO;refine bB func21 2 rfl ?_;refine xo rfl (aj (vs:=[_,_]) func44 rfl H.Ic rfl (ah.aX (mc hg s a ha hs))) ?_;rintro _ g1 ⟨rfl,e1⟩;refine aS 1 [0,1,2,6,7,8,13] rfl ?_;refine aK func21 rfl rfl ?_;exact⟨_,rfl,congrArg (fun n:Nat=>Value.int .i64 (n:Nat)) hO,e1⟩
   · rw[if_neg c1] at hO;refine aY func21 2 [0,1,2,6,7,8,13,18] rfl ?_;refine aG rfl rfl (fun c2=>?_) (fun c2=>?_)
     · rw[if_pos c2] at hO;refine bB func21 2 rfl ?_;refine xo rfl (aj (vs:=[_,_]) func18 rfl H.pM rfl (ah.aX (cz s a ha hs))) ?_;rintro _ h ⟨rfl,rfl⟩;refine aS 1 [0,1,2,6,7,8,13,18] rfl ?_;refine aK func21 rfl rfl ?_;exact⟨_,rfl,congrArg (fun n:Nat=>Value.int .i64 (n:Nat)) hO,Ext.refl _ _⟩
     · rw[if_neg c2] at hO;refine aY func21 2 [0,1,2,6,7,8,13,18,23] rfl ?_;refine aG rfl rfl (fun c3=>?_) (fun c3=>?_)
       · rw[if_pos c3] at hO;refine bB func21 2 rfl ?_;refine xo rfl (aj (vs:=[_,_]) func17 rfl H.oq rfl (ah.aX (cP s a ha hs))) ?_;rintro _ h ⟨rfl,rfl⟩;refine aS 1 [0,1,2,6,7,8,13,18,23] rfl ?_;refine aK func21 rfl rfl ?_;exact⟨_,rfl,congrArg (fun n:Nat=>Value.int .i64 (n:Nat)) hO,Ext.refl _ _⟩
       · rw[if_neg c3] at hO;refine aY func21 2 [0,1,2,6,7,8,13,18,23,28] rfl ?_;refine aG rfl rfl (fun c4=>?_) (fun c4=>?_)
         · rw[if_pos c4] at hO;refine bB func21 2 rfl ?_;refine xo rfl (aj (vs:=[_,_,_]) func45 rfl H.Ji rfl (ah.aX (tC s a ha hs true))) ?_;rintro _ g1 ⟨rfl,e1⟩;refine aS 1 [0,1,2,6,7,8,13,18,23,28] rfl ?_;refine aK func21 rfl rfl ?_;exact⟨_,rfl,congrArg (fun n:Nat=>Value.int .i64 (n:Nat)) hO,e1⟩
         · rw[if_neg c4] at hO;refine aY func21 2 [0,1,2,6,7,8,13,18,23,28,33] rfl ?_;refine aG rfl rfl (fun c5=>?_) (fun c5=>?_)
           · rw[if_pos c5] at hO;refine bB func21 2 rfl ?_;refine xo rfl (aj (vs:=[_,_,_]) func45 rfl H.Ji rfl (ah.aX (tC s a ha hs false))) ?_;rintro _ g1 ⟨rfl,e1⟩;refine aS 1 [0,1,2,6,7,8,13,18,23,28,33] rfl ?_;refine aK func21 rfl rfl ?_;exact⟨_,rfl,congrArg (fun n:Nat=>Value.int .i64 (n:Nat)) hO,e1⟩
           · rw[if_neg c5] at hO;refine aY func21 2 [0,1,2,6,7,8,13,18,23,28,33,38] rfl ?_;refine aG rfl rfl (fun c6=>?_) (fun c6=>?_)
             · rw[if_pos c6] at hO;refine bB func21 3 rfl ?_;refine xo rfl (aj (vs:=[_,_,_]) func46 rfl H.A5 rfl (ah.aX (fh hg s a ha hs (Cx h)))) ?_;rintro _ g1 ⟨rfl,e1⟩;refine xo rfl (aj (vs:=[_,_,_]) func46 rfl H.A5 rfl (ah.aX (fh (hg.ax e1) s (cX rR s a) (fK ha).2 hs (BY g1)))) ?_;rintro _ g2 ⟨rfl,e2⟩;refine aS 1 [0,1,2,6,7,8,13,18,23,28,33,38] rfl ?_;refine aK func21 rfl rfl ?_;exact⟨_,rfl,congrArg (fun n:Nat=>Value.int .i64 (n:Nat)) hO,e1.trans e2⟩
             · rw[if_neg c6] at hO;refine aY func21 2 [0,1,2,6,7,8,13,18,23,28,33,38,45] rfl ?_;refine aG rfl rfl (fun c7=>?_) (fun c7=>?_)
               · rw[if_pos c7] at hO;refine bB func21 3 rfl ?_;refine xo rfl (aj (vs:=[_,_,_]) func49 rfl H.Gf rfl (ah.aX (jC hg s a ha hs (Cx h)))) ?_;rintro _ g1 ⟨rfl,e1⟩;refine xo rfl (aj (vs:=[_,_,_]) func49 rfl H.Gf rfl (ah.aX (jC (hg.ax e1) s (gF rR s a) (Nat.le_trans mP ha) hs (BY g1)))) ?_;rintro _ g2 ⟨rfl,e2⟩;refine aS 1 [0,1,2,6,7,8,13,18,23,28,33,38,45] rfl ?_;refine aK func21 rfl rfl ?_;exact⟨_,rfl,congrArg (fun n:Nat=>Value.int .i64 (n:Nat)) hO,e1.trans e2⟩
               · rw[if_neg c7] at hO;refine aY func21 2 [0,1,2,6,7,8,13,18,23,28,33,38,45,52] rfl ?_;refine aG rfl rfl (fun c8=>?_) (fun c8=>?_)
                 · rw[if_pos c8] at hO;refine bB func21 5 rfl ?_;refine xo rfl (aj (vs:=[_,_]) func51 rfl H.Ge rfl (ah.aX (kZ hg s a ha hs))) ?_;rintro _ g1 ⟨rfl,e1⟩;refine xo rfl (aj (vs:=[_]) func50 rfl H.Ib rfl (ah.aX (mh (eJ s a)))) ?_;rintro fv g2 ⟨hf,e2⟩;refine xo rfl (aj (vs:=[_,_,_]) func46 rfl H.A5 rfl (ah.aX (fh (hg.ax (e1.trans e2)) s a ha hs hf))) ?_;rintro _ g3 ⟨rfl,e3⟩;refine xo rfl (aj (vs:=[_,_,_]) func46 rfl H.A5 rfl (ah.aX (fh (hg.ax ((e1.trans e2).trans e3)) s (cX (fW (eJ s a)) s a) (fK ha).2 hs (qg g3)))) ?_;rintro _ g4 ⟨rfl,e4⟩;refine aS 1 [0,1,2,6,7,8,13,18,23,28,33,38,45,52] rfl ?_;refine aK func21 rfl rfl ?_;exact⟨_,rfl,congrArg (fun n:Nat=>Value.int .i64 (n:Nat)) hO,((e1.trans e2).trans e3).trans e4⟩
                 · rw[if_neg c8] at hO;refine aY func21 2 [0,1,2,6,7,8,13,18,23,28,33,38,45,52,63] rfl ?_;refine aG rfl rfl (fun c9=>?_) (fun c9=>?_)
                   · rw[if_pos c9] at hO;refine bB func21 2 rfl ?_;refine xo rfl (aj (vs:=[_,_,_]) func49 rfl H.Gf rfl (ah.aX (jC hg s a ha hs (qg h)))) ?_;rintro _ g1 ⟨rfl,e1⟩;refine aS 1 [0,1,2,6,7,8,13,18,23,28,33,38,45,52,63] rfl ?_;refine bB func21 4 rfl ?_;refine xo rfl (aj (vs:=[_,_]) func53 rfl H.Ia rfl (ah.aX (mR (hg.ax e1) s (gF ey s a) (Nat.le_trans mP ha) hs))) ?_;rintro _ g2 ⟨rfl,e2⟩;refine xo rfl (aj (vs:=[_]) func50 rfl H.Ib rfl (ah.aX (mh (fI s (gF ey s a))))) ?_;rintro fv g3 ⟨hf,e3⟩;refine xo rfl (aj (vs:=[_,_,_]) func49 rfl H.Gf rfl (ah.aX (jC (hg.ax ((e1.trans e2).trans e3)) s (gF ey s a) (Nat.le_trans mP ha) hs hf))) ?_;rintro _ g4 ⟨rfl,e4⟩;refine aS 1 [0,1,2,6,7,8,13,18,23,28,33,38,45,52,63] rfl ?_;refine aK func21 rfl rfl ?_;exact⟨_,rfl,congrArg (fun n:Nat=>Value.int .i64 (n:Nat)) hO,((e1.trans e2).trans e3).trans e4⟩
                   · rw[if_neg c9] at hO;refine aY func21 2 [0,1,2,6,7,8,13,18,23,28,33,38,45,52,63,75] rfl ?_;refine aG rfl rfl (fun c10=>?_) (fun c10=>?_)
                     · rw[if_pos c10] at hO;refine bB func21 2 rfl ?_;refine xo rfl (aj (vs:=[_,_]) func54 rfl H.KT rfl (ah.aX (AI hg s a ha hs))) ?_;rintro _ g1 ⟨rfl,e1⟩;refine aS 1 [0,1,2,6,7,8,13,18,23,28,33,38,45,52,63,75] rfl ?_;refine aK func21 rfl rfl ?_;exact⟨_,rfl,congrArg (fun n:Nat=>Value.int .i64 (n:Nat)) hO,e1⟩
                     · rw[if_neg c10] at hO;refine aY func21 2 [0,1,2,6,7,8,13,18,23,28,33,38,45,52,63,75,80] rfl ?_;refine aG rfl rfl (fun c11=>?_) (fun c11=>?_)
                       · rw[if_pos c11] at hO;refine bB func21 3 rfl ?_;refine xo rfl (aj (vs:=[_,_]) func18 rfl H.pM rfl (ah.aX (cz s a ha hs))) ?_;rintro _ h ⟨rfl,rfl⟩;refine xo rfl (aj (vs:=[_,_,_]) func46 rfl H.A5 rfl (ah.aX (fh hg s (bk s a) (eO s a).2 hs (qg h)))) ?_;rintro _ g1 ⟨rfl,e1⟩;refine aV 2 rfl ?_;refine xo rfl (aj (vs:=[_,_]) func17 rfl H.oq rfl (ah.aX (cP s a ha hs))) ?_;rintro _ g1 ⟨rfl,rfl⟩;refine xp rfl (ak.min2 rfl rfl) ?_;refine aS 1 [0,1,2,6,7,8,13,18,23,28,33,38,45,52,63,75,80] rfl ?_;refine aK func21 rfl rfl ?_;exact⟨_,rfl,congrArg (Value.int .i64) (by rw[<-hO];(repeat' split)<;>omega),e1⟩
                       · rw[if_neg c11] at hO;refine aY func21 2 [0,1,2,6,7,8,13,18,23,28,33,38,45,52,63,75,80,91] rfl ?_;refine aG rfl rfl (fun c12=>?_) (fun c12=>?_)
                         · rw[if_pos c12] at hO;refine aY func21 1 [0,1,2,6,7,8,13,18,23,28,33,38,45,52,63,75,80,91] rfl ?_;refine aK func21 rfl rfl ?_;exact⟨_,rfl,congrArg (Value.int .i64) (by rw[<-hO];rfl),Ext.refl _ _⟩
                         · rw[if_neg c12] at hO;refine aY func21 2 [0,1,2,6,7,8,13,18,23,28,33,38,45,52,63,75,80,91,93] rfl ?_;refine aG rfl rfl (fun c13=>?_) (fun c13=>?_)
                           · rw[if_pos c13] at hO;refine bB func21 1 rfl ?_;refine xp rfl (ak.bp underlying9 rfl) ?_;refine aS 1 [0,1,2,6,7,8,13,18,23,28,33,38,45,52,63,75,80,91,93] rfl ?_;refine aK func21 rfl rfl ?_;exact⟨_,rfl,congrArg (Value.int .i64) (by rw[<-hO,hbs]),Ext.refl _ _⟩
                           · rw[if_neg c13] at hO;refine aA rfl ?_;refine G.aT ?_;refine aY func21 2 [0,1,2,6,7,8,13,18,23,28,33,38,45,52,63,75,80,91,93] rfl ?_;refine aK func21 rfl rfl ?_;exact⟨_,rfl,congrArg (fun n:Nat=>Value.int .i64 (n:Nat)) hO,Ext.refl _ _⟩
theorem dP (hg:jb h) (s:By) (a w n:Int) (hs:s.length<=1000000):ah Tryz.prog 12 #[.string (bs s),.int .i64 a,.int .i64 w,.int .i64 n] h (bX fun r h'=>r= .int .i64 (gK s a w n:Nat)/\aD h h'):=by
 obtain⟨N,hN⟩:∃N:Nat,(min (max n 0) 1000).toNat=N:=⟨_,rfl⟩
 have hf:=jE s a;have hT:gK s a w n=Ek s w N (eC s a):=by unfold gK;rw[hN]
 rw[hT];refine ah.of func12 rfl rfl ?_;refine aY func12 1 [0,1,2,3,8] rfl ?_;refine bB func12 2 rfl ?_;refine xo rfl (aj (vs:=[_,_]) func11 rfl H.Di rfl (ah.aX (ja s a hs))) ?_;rintro _ g1 ⟨rfl,e1⟩
 have hmm:(if (1000:Int)<(if n<0 then 0 else n) then 1000 else (if n<0 then 0 else n))=(N:Nat):=by
  (repeat' split)<;>omega
 refine aS 1 [0,1,2,3,8] rfl ?_;refine au rfl ?_;refine bB func12 1 rfl ?_;refine xp rfl (ak.max2 rfl rfl) ?_;refine xp rfl (ak.min2 rfl rfl) ?_;refine aS 1 [0,1,2,3,8,15,16] rfl ?_;refine G.block rfl rfl ?_;rw[hmm];refine bT (σ:=Nat×Nat) (fun w2=>[(0,.string (bs s)),(1,.int .i64 (w2.2:Nat)),(2,.int .i64 w),(15,.int .i64 (N:Nat)),(16,.int .i64 (w2.1:Nat))]) (fun w2 g=>aD h g/\w2.1<=N/\w2.2<=s.length/\Ek s w (N-w2.1) w2.2=Ek s w N (eC s a)) (fun w2=>N-w2.1) ((0,eC s a)) rfl ⟨rfl,rfl,rfl,rfl,rfl,trivial⟩ ⟨e1,Nat.zero_le _,hf,rfl⟩ ?_;rintro⟨i,p⟩ g ⟨e0,hi,hp,ht⟩ ih
 try dsimp only
 dsimp only at e0 hi hp ht;have hN2:N<=1000:=by omega
 refine aY func12 1 [0,1,2,15,16,17] rfl ?_;refine au rfl ?_;refine aG rfl rfl (fun hlt=>?_) (fun hlt=>?_)
 · obtain⟨m,hm⟩:∃m,N-i=m+1:=⟨N-i-1,by omega⟩
   rw[hm,Ek] at ht;refine aA rfl ?_;refine au rfl ?_;refine G.block rfl rfl ?_;refine bB func12 3 rfl ?_;refine xo rfl (aj (vs:=[_,_,_]) func21 rfl H.K0 rfl (ah.aX (A0 (hg.ax e0) s p w hp hs))) ?_;rintro _ g2 ⟨rfl,e2⟩;refine aS 1 [0,1,2,9,15,16,17] rfl ?_;refine au rfl ?_;refine aY func12 3 [0,1,2,9,15,16,17,24] rfl ?_;refine aG rfl rfl (fun he=>?_) (fun he=>?_)
   · refine bN rfl rfl ?_;refine aY func12 2 [0,1,2,8,9,15,16,17,24] rfl ?_;refine aK func12 rfl rfl ?_;rw[if_pos (by omega)] at ht;exact⟨_,rfl,congrArg (fun n:Nat=>Value.int .i64 (n:Nat)) ht,e0.trans e2⟩
   · refine aA rfl ?_;refine G.bV func12 rfl ?_;refine aS 2 [0,1,2,9,15,16,17,24] rfl ?_;refine G.aT ?_;refine G.bV func12 rfl ?_;refine xp rfl (ak.bL rfl rfl ⟨by omega,by omega⟩) ?_;refine aS 1 [0,1,2,9,15,16,17,24] rfl ?_;rw[if_neg (by omega),show m=N-(i+1) by omega] at ht;exact ih (i+1,ko s p w) _ _ ⟨rfl,rfl,rfl,rfl,rfl,trivial⟩ ⟨e0.trans e2,by show i+1<=N;omega,zh hp w,ht⟩ (by show N-(i+1)<N-i;omega)
 · refine bN rfl rfl ?_;refine aY func12 2 [0,1,2,8,15,16,17] rfl ?_;refine aK func12 rfl rfl ?_;rw[show N-i=0 by omega,Ek] at ht;exact⟨_,rfl,congrArg (fun n:Nat=>Value.int .i64 (n:Nat)) ht,e0⟩
def Li:iM Bool:=.flat Value.bool fun _=>rfl
def nw (s:MS) (rv hv lv fv:Value):List Value:=[.string (bs s.text),.int .i64 s.cur,.int .i64 s.mode,.int .i64 s.mark,rv,hv,.int .i64 s.at_,.string (bs s.draft),.int .i64 s.last,.int .i64 s.from_,.int .i64 s.to_,.string (bs s.query),.int .i64 s.found,.string (bs s.saved),.int .i64 s.savedAt,.int .i64 s.was,lv,fv,.int .i64 s.bells]
structure oY (O:Nat->Prop) (h:ay) (s:MS) (rv hv lv fv:Value):Prop where
 ring:cn xU h O rv s.ring
 hist:cn xU h O hv s.hist
 lines:cn xU h O lv s.lines
 flags:cn Li h O fv s.flags
theorem oY.mv {O O':Nat->Prop}{h h':ay}{s:MS}{rv hv lv fv:Value}(k:oY O h s rv hv lv fv) (m:Mv O O' h h'):oY O' h' s rv hv lv fv:=⟨k.ring.mv m,k.hist.mv m,k.lines.mv m,k.flags.mv m⟩
theorem oY.ax {O:Nat->Prop}{h h':ay}{s:MS}{rv hv lv fv:Value}(k:oY O h s rv hv lv fv) (e:aD h h'):oY O h' s rv hv lv fv:=k.mv (Mv.ax e)
theorem oY.of {t:MS}{rv hv lv:Value}(k:oY O h s rv hv lv fv) (h1:t.ring=s.ring) (h2:t.hist=s.hist) (h3:t.lines=s.lines) (h4:t.flags=s.flags):oY O h t rv hv lv fv:=⟨h1▸k.ring,h2▸k.hist,h3▸k.lines,h4▸k.flags⟩
theorem cn.one {α:Type}{e:iM α}{xs:List α}(k:cn e h O v xs):v.oneCell'=true:=by
 obtain⟨oa,n,c,rfl,_⟩:=k.open;rfl
def bE (O:Nat->Prop) (h:ay) (v:Value) (s:MS):Prop:=∃rv hv lv fv,v= .agg (nw s rv hv lv fv).toArray/\oY O h s rv hv lv fv
theorem bE.ax {O:Nat->Prop}{h h':ay}{v:Value}{s:MS}(k:bE O h v s) (e:aD h h'):bE O h' v s:=by
 obtain⟨rv,hv,lv,fv,rfl,hS⟩:=k;exact⟨rv,hv,lv,fv,rfl,hS.ax e⟩
theorem bE.get (k:bE O h v s):∃xa xn xc ya yn yc za zn zc ua un uc,v= .agg (nw s (.slice xa xn xc) (.slice ya yn yc) (.slice za zn zc) (.slice ua un uc)).toArray/\oY O h s (.slice xa xn xc) (.slice ya yn yc) (.slice za zn zc) (.slice ua un uc):=by
 obtain⟨rv,hv,lv,fv,rfl,hS⟩:=k;obtain⟨xa,xn,xc,rfl,_⟩:=hS.ring.open;obtain⟨ya,yn,yc,rfl,_⟩:=hS.hist.open;obtain⟨za,zn,zc,rfl,_⟩:=hS.lines.open;obtain⟨ua,un,uc,rfl,_⟩:=hS.flags.open;exact⟨xa,xn,xc,ya,yn,yc,za,zn,zc,ua,un,uc,rfl,hS⟩
theorem ms1 {xa ya za ua:Option Addr}{xn xc yn yc zn zc un uc:Nat}:∀v∈nw s (.slice xa xn xc) (.slice ya yn yc) (.slice za zn zc) (.slice ua un uc),v.oneCell'=true:=by
 intro v hv;simp only[nw,List.mem_cons,List.not_mem_nil,or_false] at hv
 rcases hv with rfl|rfl|rfl|rfl|rfl|rfl|rfl|rfl|rfl|rfl|rfl|rfl|rfl|rfl|rfl|rfl|rfl|rfl|rfl<;>rfl
def Lm:MS:=⟨[],0,0,0,[],[],0,[],0,0,0,[],0,[],0,0,[],[],0⟩
abbrev zC:List Value:=nw Lm (.slice none 0 0) (.slice none 0 0) (.slice none 0 0) (.slice none 0 0)
abbrev A8 (b r:Nat) (O:Nat->Prop):Nat->Prop:=fun y=>y=b\/y=r\/O y
structure Fr (O:Nat->Prop) (h g:ay) (b r:Nat) (s:MS) (rv hv lv fv:Value):Prop where
 blk:br g b 27 (nw s rv hv lv fv)
 res:br g r 27 zC
 ext:aD h g
 hb:h.size<=b
 hr:h.size<=r
 ne:¬r=b
 old:∀y,O y->y<h.size
 ms:oY (A8 b r O) g s rv hv lv fv
section
variable {O:Nat->Prop}{h g g':ay}{b r:Nat}{s t:MS}{rv hv lv fv rv' hv' lv' fv':Value}
theorem bW (hS:oY O h s rv hv lv fv) (hO:∀y,O y->y<h.size) (e:aD h g) (k1:br g b 27 (nw s rv hv lv fv)) (k2:br g r 27 zC) (hb:h.size<=b) (hr:h.size<=r) (ne:¬r=b):Fr O h g b r s rv hv lv fv :=
 ⟨k1,k2,e,hb,hr,ne,hO,hS.mv (Mv.eE e fun y hy q=>⟨fun k=>k,by rintro(rfl|rfl|k);omega;omega;exact q k⟩)⟩
theorem Fr.ax (F:Fr O h g b r s rv hv lv fv) (e:aD g g'):Fr O h g' b r s rv hv lv fv:=⟨F.blk.ax e,F.res.ax e,F.ext.trans e,F.hb,F.hr,F.ne,F.old,F.ms.ax e⟩
theorem Fr.set (F:Fr O h g b r s rv hv lv fv) (k:br g' b 27 (nw t rv' hv' lv' fv')) (x:Ext (fun y=>y=b) g g') (m:oY (A8 b r O) g t rv' hv' lv' fv'):Fr O h g' b r t rv' hv' lv' fv' :=
 ⟨k,F.res.ext x F.ne,aD.only F.ext x F.hb,F.hb,F.hr,F.ne,F.old,m.mv (Mv.eE x fun y hy q=>⟨fun k=>q (.inl k),q⟩)⟩
theorem Fr.dJ (F:Fr O h g b r s rv hv lv fv):bE (A8 b r O) g (.agg (nw s rv hv lv fv).toArray) s:=⟨_,_,_,_,rfl,F.ms⟩
theorem Fr.hO (F:Fr O h g b r s rv hv lv fv):∀y,A8 b r O y->y<g.size:=by
 have:=F.ext.size;rintro y (rfl|rfl|k)
 · exact F.blk.lt
 · exact F.res.lt
 · have:=F.old y k;omega
theorem Fr.out (F:Fr O h g b r s rv hv lv fv) (x:Ext (fun y=>y=r) g g'):bE O g' (.agg (nw s rv hv lv fv).toArray) s/\aD h g' :=
 ⟨⟨_,_,_,_,rfl,F.ms.mv (Mv.eE x fun y hy q=>⟨fun k=>q (.inr (.inl k)),fun k=>q (.inr (.inr k))⟩)⟩,aD.only F.ext x F.hr⟩
def DN (c:Cm):List Value:=[.int .i64 c.kind,.int .i64 c.way,.int .i64 c.n,.string (bs c.text),.bool c.incl]
def D9 (c:Cm):Value:=.agg #[.int .i64 c.kind,.int .i64 c.way,.int .i64 c.n,.string (bs c.text),.bool c.incl]
structure Ay (O:Nat->Prop) (h g:ay) (b r cb:Nat) (c:Cm) (s:MS) (rv hv lv fv:Value):Prop extends Fr O h g b r s rv hv lv fv where
 cmd:br g cb 31 (DN c)
 cne:¬cb=b
theorem Ay.ax {cb:Nat}{c:Cm}(F:Ay O h g b r cb c s rv hv lv fv) (e:aD g g'):Ay O h g' b r cb c s rv hv lv fv:=⟨F.toFr.ax e,F.cmd.ax e,F.cne⟩
theorem Ay.set {cb:Nat}{c:Cm}(F:Ay O h g b r cb c s rv hv lv fv) (k:br g' b 27 (nw t rv' hv' lv' fv')) (x:Ext (fun y=>y=b) g g') (m:oY (A8 b r O) g t rv' hv' lv' fv'):Ay O h g' b r cb c t rv' hv' lv' fv' :=
 ⟨F.toFr.set k x m,F.cmd.ext x F.cne,F.cne⟩
theorem Fr.cy (F:Fr O h g b r s rv hv lv fv) (m:oY (A8 b r O) g t rv' hv' lv' fv') (x:Ext (fun y=>y=r) g g'):bE O g' (.agg (nw t rv' hv' lv' fv').toArray) t/\aD h g' :=
 ⟨⟨_,_,_,_,rfl,m.mv (Mv.eE x fun y hy q=>⟨fun k=>q (.inr (.inl k)),fun k=>q (.inr (.inr k))⟩)⟩,aD.only F.ext x F.hr⟩
end
theorem bM (k:bE O h v s) (hO:∀y,O y->y<h.size) (hI:MI B s) (hB:B<=100000000):ah Tryz.prog 22 #[v] h (bX fun r h'=>bE O h' r (cE s)/\aD h h'):=by
 have hb0:=hI.bell0;have hb1:=hI.bell1;obtain⟨xa,xn,xc,ya,yn,yc,za,zn,zc,ua,un,uc,rfl,hS⟩:=bE.get k;refine ah.of func22 rfl rfl ?_;refine xr func22 rfl ?_;refine xo rfl (av.cR rfl) ?_;rintro _ h1 ⟨rfl,k1,e1,z1⟩;refine xo rfl (av.aW H.dz) ?_;rintro _ h2 ⟨rfl,k2,e2,z2⟩;have F:Fr O h h2 h.size h1.size s _ _ _ _:=bW hS hO (e1.trans e2) (k1.ax e2) k2 (Nat.le_refl _) (by omega) (by omega);refine xd [0,1,2] rfl ?_;refine xr func22 rfl ?_;refine xp rfl (aa (off:=18) underlying27 rfl rfl H.aQ rfl) ?_;refine xp rfl (af H.bD rfl (F.blk.cell (i:=18) rfl)) ?_;refine xp rfl (ak.bL rfl rfl ⟨by omega,by omega⟩) ?_;refine xp rfl (aa (off:=18) underlying27 rfl rfl H.aQ rfl) ?_;refine RW.bh rfl rfl rfl (av.aE H.aQ rfl rfl F.blk (by first|decide|exact of_decide_eq_true rfl|(simp;done)|(simp;omega)) rfl) ?_;rintro _ h3 ⟨rfl,k3,x3,z3⟩;have F:=F.set (t:= { s with bells:=s.bells+1 }) k3 x3 (F.ms.of rfl rfl rfl rfl);refine xd [0,1,2] rfl ?_;refine xr func22 rfl ?_;refine xp rfl (aa (off:=8) underlying27 rfl rfl H.aQ rfl) ?_;refine RW.bh rfl rfl rfl (av.aE H.aQ rfl rfl F.blk (by first|decide|exact of_decide_eq_true rfl|(simp;done)|(simp;omega)) rfl) ?_;rintro _ h4 ⟨rfl,k4,x4,z4⟩;have F:=F.set (t:=cE s) k4 x4 (F.ms.of rfl rfl rfl rfl);refine xd [0,1,2] rfl ?_;refine xr func22 rfl ?_;refine xp rfl (ak.aq H.aJ H.aB rfl F.blk.row (by first|rfl|(simp;done)|(simp;omega))) ?_;refine RW.bh rfl rfl rfl (av.an H.aB rfl rfl F.res (by first|rfl|(simp;done)|(simp;omega)) (by first|decide|exact of_decide_eq_true rfl|(simp;done)|(simp;omega)) (ms1)) ?_;rintro _ gz ⟨rfl,kz,xz,zz⟩;refine xd [0,1,2] rfl ?_;refine G.bq func22 rfl (.cons (aL.bn H.aJ H.aB rfl (kz.row) (by first|rfl|(simp;done)|(simp;omega))) (.nil)) ?_;exact⟨_,rfl,F.out xz⟩
theorem iu (n:Int):ah Tryz.prog 59 #[.int .i64 n] h (bX fun r h'=>r= .int .i64 (cK n)/\h'=h):=by
 refine ah.of func59 rfl rfl ?_;refine aY func59 1 [0,2] rfl ?_;refine bB func59 1 rfl ?_;refine xp rfl (ak.max2 rfl rfl) ?_;refine xp rfl (ak.min2 rfl rfl) ?_;refine aS 1 [0,2] rfl ?_;refine aK func59 rfl rfl ?_;exact⟨_,rfl,congrArg (Value.int .i64) (by unfold cK;(repeat' split)<;>omega),rfl⟩
theorem kf (k:bE O h v s) (hO:∀y,O y->y<h.size) (hI:MI B s) (hB:B<=100000000) (a:Nat) (ha:a<=s.text.length) (t:By) (ht:t.length<=100000000) :
 ah Tryz.prog 58 #[v,.int .i64 (a:Nat),.string (bs t)] h (bX fun r h'=>(∃w,r= .tuple #[w,.bool (cL s a t).2]/\bE O h' w (cL s a t).1)/\aD h h'):=by
 have hbs:=aZ s.text;have hbt:=aZ t;have htx:=hI.text;have hq1:(bs s.text).extract 0 a=bs (s.text.take a):=by rw[fO s.text 0 a (Nat.zero_le _),List.drop_zero]
 have hq2:=jH s.text a;obtain⟨xa,xn,xc,ya,yn,yc,za,zn,zc,ua,un,uc,rfl,hS⟩:=bE.get k;refine ah.of func58 rfl rfl ?_;refine xr func58 rfl ?_;refine xo rfl (av.cR rfl) ?_;rintro _ h1 ⟨rfl,k1,e1,z1⟩;refine xo rfl (av.aW H.dz) ?_;rintro _ h2 ⟨rfl,k2,e2,z2⟩;have F:Fr O h h2 h.size h1.size s _ _ _ _:=bW hS hO (e1.trans e2) (k1.ax e2) k2 (Nat.le_refl _) (by omega) (by omega);refine aS 1 [0,1,2,3,6,7] rfl ?_;refine au rfl ?_;refine bB func58 1 rfl ?_;refine xp rfl (ak.bp underlying9 rfl) ?_;refine xp rfl (aa (off:=0) underlying27 rfl rfl H.ct rfl) ?_;refine xp rfl (af H.cT rfl (F.blk.cell (i:=0) rfl)) ?_;refine xp rfl (ak.bp underlying9 rfl) ?_;refine xp rfl (ak.en rfl rfl ⟨by omega,by omega⟩) ?_;refine aS 1 [0,1,2,3,6,7,14] rfl ?_;refine aG rfl rfl (fun c=>?_) (fun c=>?_)
 · have hp:cL s a t=(cE s,false):=by unfold cL;rw[if_pos (by omega)]
   refine xr func58 rfl ?_;refine xp rfl (ak.aq H.aJ H.aB rfl F.blk.row (by first|rfl|(simp;done)|(simp;omega))) ?_;refine xo rfl (aj (vs:=[_]) func22 rfl H.iT rfl (ah.aX (bM F.dJ F.hO hI hB))) ?_;rintro v3 h3 ⟨kv,e3⟩;obtain⟨_,_,_,_,_,_,_,_,_,_,_,_,rfl,hT⟩:=bE.get kv;have F:=F.ax e3;refine RW.bh rfl rfl rfl (av.an H.aB rfl rfl F.res (by first|rfl|(simp;done)|(simp;omega)) (by first|decide|exact of_decide_eq_true rfl|(simp;done)|(simp;omega)) (ms1)) ?_;rintro _ gz ⟨rfl,kz,xz,zz⟩;refine aS 1 [0,1,2,3,6,7,14] rfl ?_;refine G.bq func58 rfl (.cons (aL.bn H.aJ H.aB rfl (kz.row) (by first|rfl|(simp;done)|(simp;omega))) (.cons (aL.tmp rfl) (.nil))) ?_;rw[hp];exact⟨_,rfl,⟨_,rfl,(F.cy hT xz).1⟩,(F.cy hT xz).2⟩
 · have hp:cL s a t=({ s with text:=s.text.take a++t++s.text.drop a,cur:=((a+t.length:Nat):Int) },true):=by unfold cL;rw[if_neg (by omega)]
   have hl:(s.text.take a).length=a:=by rw[List.length_take];omega
   have hM:¬Array.size h2<=h.size:=by omega
   have hq3:((bs s.text).extract 0 a++bs t)++(bs s.text).extract a (bs s.text).size=bs (s.text.take a++t++s.text.drop a):=by rw[hq1,hq2,dA,dA]
   refine aA rfl ?_;refine au rfl ?_;refine bU (fun b=>Array.size h2<=b) (fun i=>Nat.blt i 12) (sz:=13) (listed:= #[false,false,false,false,false,false,false,false,false,false,false,false,false]) func58 H.mixed rfl rfl rfl ?_;refine bf 0 1 (by kernel_rfl) rfl (fun h' e=>aa (off:=0) underlying27 rfl rfl H.ct rfl) ?_;refine bf 1 3 (by kernel_rfl) rfl (fun h' e=>af H.cT rfl (e.cell hM (F.blk.cell (i:=0) rfl))) ?_;refine bF 2 7 (by kernel_rfl) rfl ?_;refine bf 3 15 (by kernel_rfl) rfl (fun h' e=>ak.gR underlying9 rfl rfl a (by omega) (by omega)) ?_;refine bF 4 31 (by kernel_rfl) rfl ?_;refine bf 5 63 (by kernel_rfl) rfl (fun h' e=>ak.gj rfl rfl (by rw[hq1,aZ,aZ];omega)) ?_;refine bf 6 127 (by kernel_rfl) rfl (fun h' e=>aa (off:=0) underlying27 rfl rfl H.ct rfl) ?_;refine bf 7 255 (by kernel_rfl) rfl (fun h' e=>af H.cT rfl (e.cell hM (F.blk.cell (i:=0) rfl))) ?_;refine bF 8 511 (by kernel_rfl) rfl ?_;refine bf 9 1023 (by kernel_rfl) rfl (fun h' e=>ak.fe underlying9 rfl rfl a (by omega) (by omega)) ?_;refine bf 10 2047 (by kernel_rfl) rfl (fun h' e=>ak.gj rfl rfl (by rw[hq2,ByteArray.size_append,hq1,aZ,aZ,aZ,List.length_drop];omega)) ?_;refine bf 11 4095 (by kernel_rfl) rfl (fun h' e=>aa (off:=0) underlying27 rfl rfl H.ct rfl) ?_;refine iF 12 8191 (by kernel_rfl) rfl (av.aE H.ct rfl rfl F.blk (by first|decide|exact of_decide_eq_true rfl|(simp;done)|(simp;omega)) (rfl)) ?_;rintro _ h3 ⟨rfl,k3,x3,z3⟩;refine⟨fun hk=>(nomatch hk),?_⟩;rw[hq3] at k3;have F:=F.set (t:= { s with text:=s.text.take a++t++s.text.drop a }) k3 x3 (F.ms.of rfl rfl rfl rfl);refine aR (by kernel_rfl) ?_;refine xu [0,1,2,3,6,7,14] rfl ?_;refine bB func58 2 rfl ?_;refine xp rfl (ak.bp underlying9 rfl) ?_;refine xp rfl (ak.bL rfl rfl ⟨by omega,by omega⟩) ?_;refine xp rfl (aa (off:=1) underlying27 rfl rfl H.aQ rfl) ?_;refine RW.bh rfl rfl rfl (av.aE H.aQ rfl rfl F.blk (by first|decide|exact of_decide_eq_true rfl|(simp;done)|(simp;omega)) rfl) ?_;rintro _ h4 ⟨rfl,k4,x4,z4⟩;rw[hbt,show ((a:Nat):Int)+(t.length:Nat)=((a+t.length:Nat):Int) by omega] at k4;have F:=F.set (t:= { s with text:=s.text.take a++t++s.text.drop a,cur:=((a+t.length:Nat):Int) }) k4 x4 (F.ms.of rfl rfl rfl rfl);refine xd [0,1,2,3,6,7,14] rfl ?_;refine xr func58 rfl ?_;refine xp rfl (ak.aq H.aJ H.aB rfl F.blk.row (by first|rfl|(simp;done)|(simp;omega))) ?_;refine RW.bh rfl rfl rfl (av.an H.aB rfl rfl F.res (by first|rfl|(simp;done)|(simp;omega)) (by first|decide|exact of_decide_eq_true rfl|(simp;done)|(simp;omega)) (ms1)) ?_;rintro _ gz ⟨rfl,kz,xz,zz⟩;refine aS 1 [0,1,2,3,6,7,14] rfl ?_;refine G.bq func58 rfl (.cons (aL.bn H.aJ H.aB rfl (kz.row) (by first|rfl|(simp;done)|(simp;omega))) (.cons (aL.tmp rfl) (.nil))) ?_;rw[hp];exact⟨_,rfl,⟨_,rfl,(F.out xz).1⟩,(F.out xz).2⟩
theorem gr (k:bE O h v s) (hO:∀y,O y->y<h.size) (htx:s.text.length<=16384) (a b:Nat) (ha:a<=s.text.length) (hb:b<=s.text.length) :
 ah Tryz.prog 61 #[v,.int .i64 (a:Nat),.int .i64 (b:Nat)] h (bX fun r h'=>bE O h' r (eu s a b)/\aD h h'):=by
 have hbs:=aZ s.text;have hq1:(bs s.text).extract 0 a=bs (s.text.take a):=by rw[fO s.text 0 a (Nat.zero_le _),List.drop_zero]
 have hq2:=jH s.text b;have hq3:(bs s.text).extract 0 a++(bs s.text).extract b (bs s.text).size=bs (s.text.take a++s.text.drop b):=by rw[hq1,hq2,dA]
 obtain⟨xa,xn,xc,ya,yn,yc,za,zn,zc,ua,un,uc,rfl,hS⟩:=bE.get k;refine ah.of func61 rfl rfl ?_;refine xr func61 rfl ?_;refine xo rfl (av.cR rfl) ?_;rintro _ h1 ⟨rfl,k1,e1,z1⟩;refine xo rfl (av.aW H.dz) ?_;rintro _ h2 ⟨rfl,k2,e2,z2⟩;have F:Fr O h h2 h.size h1.size s _ _ _ _:=bW hS hO (e1.trans e2) (k1.ax e2) k2 (Nat.le_refl _) (by omega) (by omega);have hM:¬Array.size h2<=h.size:=by omega
 refine xd [0,1,2,3,6] rfl ?_;refine au rfl ?_;refine bU (fun b=>Array.size h2<=b) (fun i=>Nat.blt i 8) (sz:=11) (listed:= #[false,false,false,false,false,false,false,false,false,false,false]) func61 H.mixed rfl rfl rfl ?_;refine bf 0 1 (by kernel_rfl) rfl (fun h' e=>aa (off:=0) underlying27 rfl rfl H.ct rfl) ?_;refine bf 1 3 (by kernel_rfl) rfl (fun h' e=>af H.cT rfl (e.cell hM (F.blk.cell (i:=0) rfl))) ?_;refine bF 2 7 (by kernel_rfl) rfl ?_;refine bf 3 15 (by kernel_rfl) rfl (fun h' e=>ak.gR underlying9 rfl rfl a (by omega) (by omega)) ?_;refine bf 4 31 (by kernel_rfl) rfl (fun h' e=>aa (off:=0) underlying27 rfl rfl H.ct rfl) ?_;refine bf 5 63 (by kernel_rfl) rfl (fun h' e=>af H.cT rfl (e.cell hM (F.blk.cell (i:=0) rfl))) ?_;refine dK 6 127 (by kernel_rfl) rfl (ak.aX (bS rfl)) ?_;rintro _ hq_ ⟨rfl,hqe_⟩;replace hqe_:=hqe_.symm;subst hqe_;refine⟨fun _=>Ext.refl _ _,?_⟩;refine bf 7 255 (by kernel_rfl) rfl (fun h' e=>ak.fe underlying9 rfl rfl b (by omega) (by omega)) ?_;refine bf 8 511 (by kernel_rfl) rfl (fun h' e=>ak.gj rfl rfl (by rw[hq1,hq2,aZ,aZ,List.length_take,List.length_drop];omega)) ?_;refine bf 9 1023 (by kernel_rfl) rfl (fun h' e=>aa (off:=0) underlying27 rfl rfl H.ct rfl) ?_;refine iF 10 2047 (by kernel_rfl) rfl (av.aE H.ct rfl rfl F.blk (by first|decide|exact of_decide_eq_true rfl|(simp;done)|(simp;omega)) (rfl)) ?_;rintro _ h3 ⟨rfl,k3,x3,z3⟩;refine⟨fun hk=>(nomatch hk),?_⟩;rw[hq3] at k3;have F:=F.set (t:= { s with text:=s.text.take a++s.text.drop b }) k3 x3 (F.ms.of rfl rfl rfl rfl);refine aR (by kernel_rfl) ?_;refine xu [0,1,2,3,6] rfl ?_;refine bB func61 1 rfl ?_;refine xp rfl (aa (off:=1) underlying27 rfl rfl H.aQ rfl) ?_;refine RW.bh rfl rfl rfl (av.aE H.aQ rfl rfl F.blk (by first|decide|exact of_decide_eq_true rfl|(simp;done)|(simp;omega)) rfl) ?_;rintro _ h4 ⟨rfl,k4,x4,z4⟩;have F:=F.set (t:=eu s a b) k4 x4 (F.ms.of rfl rfl rfl rfl);refine xd [0,1,2,3,6] rfl ?_;refine xr func61 rfl ?_;refine xp rfl (ak.aq H.aJ H.aB rfl F.blk.row (by first|rfl|(simp;done)|(simp;omega))) ?_;refine RW.bh rfl rfl rfl (av.an H.aB rfl rfl F.res (by first|rfl|(simp;done)|(simp;omega)) (by first|decide|exact of_decide_eq_true rfl|(simp;done)|(simp;omega)) (ms1)) ?_;rintro _ gz ⟨rfl,kz,xz,zz⟩;refine xd [0,1,2,3,6] rfl ?_;refine G.bq func61 rfl (.cons (aL.bn H.aJ H.aB rfl (kz.row) (by first|rfl|(simp;done)|(simp;omega))) (.nil)) ?_;exact⟨_,rfl,F.out xz⟩
theorem gp (k:bE O h v s) (hO:∀y,O y->y<h.size) (t:By):ah Tryz.prog 91 #[v,.string (bs t)] h (bX fun r h'=>bE O h' r (je s t)/\aD h h'):=by
 have hbt:=aZ t;obtain⟨xa,xn,xc,ya,yn,yc,za,zn,zc,ua,un,uc,rfl,hS⟩:=bE.get k;refine ah.of func91 rfl rfl ?_;refine xr func91 rfl ?_;refine xo rfl (av.cR rfl) ?_;rintro _ h1 ⟨rfl,k1,e1,z1⟩;refine xo rfl (av.aW H.dz) ?_;rintro _ h2 ⟨rfl,k2,e2,z2⟩;have F:Fr O h h2 h.size h1.size s _ _ _ _:=bW hS hO (e1.trans e2) (k1.ax e2) k2 (Nat.le_refl _) (by omega) (by omega);refine xd [0,1,2,4] rfl ?_;refine bB func91 2 rfl ?_;refine xp rfl (ak.bp underlying9 rfl) ?_;refine xp rfl (aa (off:=0) underlying27 rfl rfl H.ct rfl) ?_;refine RW.bh rfl rfl rfl (av.aE H.ct rfl rfl F.blk (by first|decide|exact of_decide_eq_true rfl|(simp;done)|(simp;omega)) rfl) ?_;rintro _ h4 ⟨rfl,k4,x4,z4⟩;have F:=F.set (t:= { s with text:=t }) k4 x4 (F.ms.of rfl rfl rfl rfl);refine xp rfl (aa (off:=1) underlying27 rfl rfl H.aQ rfl) ?_;refine RW.bh rfl rfl rfl (av.aE H.aQ rfl rfl F.blk (by first|decide|exact of_decide_eq_true rfl|(simp;done)|(simp;omega)) rfl) ?_;rintro _ h4 ⟨rfl,k4,x4,z4⟩;rw[hbt] at k4;have F:=F.set (t:= { s with text:=t,cur:=(t.length:Nat) }) k4 x4 (F.ms.of rfl rfl rfl rfl);refine xp rfl (aa (off:=3) underlying27 rfl rfl H.aQ rfl) ?_;refine RW.bh rfl rfl rfl (av.aE H.aQ rfl rfl F.blk (by first|decide|exact of_decide_eq_true rfl|(simp;done)|(simp;omega)) rfl) ?_;rintro _ h4 ⟨rfl,k4,x4,z4⟩;have F:=F.set (t:= { s with text:=t,cur:=(t.length:Nat),mark:= -1 }) k4 x4 (F.ms.of rfl rfl rfl rfl);refine xp rfl (aa (off:=8) underlying27 rfl rfl H.aQ rfl) ?_;refine RW.bh rfl rfl rfl (av.aE H.aQ rfl rfl F.blk (by first|decide|exact of_decide_eq_true rfl|(simp;done)|(simp;omega)) rfl) ?_;rintro _ h4 ⟨rfl,k4,x4,z4⟩;have F:=F.set (t:=je s t) k4 x4 (F.ms.of rfl rfl rfl rfl);refine xd [0,1,2,4] rfl ?_;refine xr func91 rfl ?_;refine xp rfl (ak.aq H.aJ H.aB rfl F.blk.row (by first|rfl|(simp;done)|(simp;omega))) ?_;refine RW.bh rfl rfl rfl (av.an H.aB rfl rfl F.res (by first|rfl|(simp;done)|(simp;omega)) (by first|decide|exact of_decide_eq_true rfl|(simp;done)|(simp;omega)) (ms1)) ?_;rintro _ gz ⟨rfl,kz,xz,zz⟩;refine xd [0,1,2,4] rfl ?_;refine G.bq func91 rfl (.cons (aL.bn H.aJ H.aB rfl (kz.row) (by first|rfl|(simp;done)|(simp;omega))) (.nil)) ?_;exact⟨_,rfl,F.out xz⟩
theorem jA (hg:jb h) (k:bE O h v s) (hO:∀y,O y->y<h.size) (htx:s.text.length<=1000000) (w n:Int):ah Tryz.prog 27 #[v,.int .i64 w,.int .i64 n] h (bX fun r h'=>bE O h' r (gU s w n)/\aD h h'):=by
 obtain⟨xa,xn,xc,ya,yn,yc,za,zn,zc,ua,un,uc,rfl,hS⟩:=bE.get k;refine ah.of func27 rfl rfl ?_;refine xr func27 rfl ?_;refine xo rfl (av.cR rfl) ?_;rintro _ h1 ⟨rfl,k1,e1,z1⟩;refine xo rfl (av.aW H.dz) ?_;rintro _ h2 ⟨rfl,k2,e2,z2⟩;have F:Fr O h h2 h.size h1.size s _ _ _ _:=bW hS hO (e1.trans e2) (k1.ax e2) k2 (Nat.le_refl _) (by omega) (by omega);have hM:¬Array.size h2<=h.size:=by omega
 have ht:=dP (hg.ax F.ext) s.text s.cur w (cK n) htx;refine xd [0,1,2,3,6] rfl ?_;refine au rfl ?_;refine bU (fun b=>Array.size h2<=b) (fun i=>Nat.blt i 9) (sz:=10) (listed:= #[false,false,false,false,false,false,false,false,false,false]) func27 H.mixed rfl rfl rfl ?_;refine bf 0 1 (by kernel_rfl) rfl (fun h' e=>aa (off:=0) underlying27 rfl rfl H.ct rfl) ?_;refine bf 1 3 (by kernel_rfl) rfl (fun h' e=>af H.cT rfl (e.cell hM (F.blk.cell (i:=0) rfl))) ?_;refine bf 2 7 (by kernel_rfl) rfl (fun h' e=>aa (off:=1) underlying27 rfl rfl H.aQ rfl) ?_;refine bf 3 15 (by kernel_rfl) rfl (fun h' e=>af H.bD rfl (e.cell hM (F.blk.cell (i:=1) rfl))) ?_;refine bF 4 31 (by kernel_rfl) rfl ?_;refine bF 5 63 (by kernel_rfl) rfl ?_;refine dK 6 127 (by kernel_rfl) rfl (aj (vs:=[_]) func59 rfl H.EN rfl (ah.aX (iu n))) ?_;rintro _ g3 ⟨rfl,rfl⟩;refine⟨fun _=>Ext.refl _ _,?_⟩;refine dK 7 255 (by kernel_rfl) rfl (aj (vs:=[_,_,_,_]) func12 rfl H.ot rfl (ah.aX (ht))) ?_;rintro _ g3 ⟨rfl,e3⟩;refine⟨fun _=>e3.of,?_⟩;refine bf 8 511 (by kernel_rfl) rfl (fun h' e=>aa (off:=1) underlying27 rfl rfl H.aQ rfl) ?_;refine iF 9 1023 (by kernel_rfl) rfl (av.aE H.aQ rfl rfl (F.ax e3).blk (by first|decide|exact of_decide_eq_true rfl|(simp;done)|(simp;omega)) rfl) ?_;rintro _ h4 ⟨rfl,k4,x4,z4⟩;refine⟨fun hk=>(nomatch hk),?_⟩;have F:=F.ax e3;have F:=F.set (t:= { s with cur:=(gK s.text s.cur w (cK n):Nat) }) k4 x4 (F.ms.of rfl rfl rfl rfl);refine aR (by kernel_rfl) ?_;refine xu [0,1,2,3,6] rfl ?_;refine xr func27 rfl ?_;refine xp rfl (aa (off:=8) underlying27 rfl rfl H.aQ rfl) ?_;refine RW.bh rfl rfl rfl (av.aE H.aQ rfl rfl F.blk (by first|decide|exact of_decide_eq_true rfl|(simp;done)|(simp;omega)) rfl) ?_;rintro _ h4 ⟨rfl,k4,x4,z4⟩;have F:=F.set (t:=gU s w n) k4 x4 (F.ms.of rfl rfl rfl rfl);refine xd [0,1,2,3,6] rfl ?_;refine xr func27 rfl ?_;refine xp rfl (ak.aq H.aJ H.aB rfl F.blk.row (by first|rfl|(simp;done)|(simp;omega))) ?_;refine RW.bh rfl rfl rfl (av.an H.aB rfl rfl F.res (by first|rfl|(simp;done)|(simp;omega)) (by first|decide|exact of_decide_eq_true rfl|(simp;done)|(simp;omega)) (ms1)) ?_;rintro _ gz ⟨rfl,kz,xz,zz⟩;refine xd [0,1,2,3,6] rfl ?_;refine G.bq func27 rfl (.cons (aL.bn H.aJ H.aB rfl (kz.row) (by first|rfl|(simp;done)|(simp;omega))) (.nil)) ?_;exact⟨_,rfl,F.out xz⟩
theorem zX (k:bE O h v s):ah Tryz.prog 64 #[v] h (bX fun r h'=>r= .tuple #[.string (bs (s.ring.headD [])),.bool (decide (s.ring≠[]))]/\aD h h'):=by
 obtain⟨xa,xn,xc,ya,yn,yc,za,zn,zc,ua,un,uc,rfl,hS⟩:=bE.get k;have hsl:=hS.ring.open_slice;have hlen:=hsl.len;have hle:=hsl.le;have hcap:=hsl.cap;unfold maxLen at hcap;refine ah.of func64 rfl rfl ?_;refine xr func64 rfl ?_;refine xo rfl (av.cR rfl) ?_;rintro _ h1 ⟨rfl,k1,e1,z1⟩;have k1:br h1 h.size 27 (nw s _ _ _ _):=k1;refine aS 2 [0,1,2,3] rfl ?_;refine au rfl ?_;refine xr func64 rfl ?_;refine xp rfl (aa (off:=4) underlying27 rfl rfl H.dQ rfl) ?_;refine xp rfl (af H.gi rfl (k1.cell (i:=4) rfl)) ?_;refine xp rfl (ak.aN underlying24 rfl) ?_;refine aS 1 [0,1,2,3,7] rfl ?_;refine aG rfl rfl (fun c=>?_) (fun c=>?_)
 · have hr:s.ring=[]:=List.length_eq_zero_iff.1 (by omega);refine aY func64 2 [0,1,2,3,7] rfl ?_;refine aK func64 rfl rfl ?_;exact⟨_,rfl,by rw[hr];rfl,e1⟩
 · obtain⟨x,r,hr⟩:=List.exists_cons_of_ne_nil (l:=s.ring) (fun e=>c (by rw[<-hlen,e];rfl));have h0:s.ring[0]? =some x:=by rw[hr];rfl
   obtain⟨b,o,x',ha,_,hx,hc⟩:=hsl.at (i:=0) (by rw[<-hlen,hr];simp);rw[h0] at hx;cases hx;refine aA rfl ?_;refine xr func64 rfl ?_;refine xp rfl (aa (off:=4) underlying27 rfl rfl H.dQ rfl) ?_;refine xp rfl (af H.gi rfl (k1.cell (i:=4) rfl)) ?_;refine xp rfl (ak.aF underlying24 H.ct rfl rfl 0 rfl ha (by omega)) ?_;refine xp rfl (af H.cT rfl (e1.cell (fun k=>k) hc)) ?_;refine aS 2 [0,1,2,3,7] rfl ?_;refine aK func64 rfl rfl ?_;exact⟨_,rfl,by rw[hr];rfl,e1⟩
def fE:ByteArray:=⟨#[]⟩
theorem pK (l:List ByteArray):∀u∈l.map Value.string,u.oneCell'=true:=by
 intro u hu;obtain⟨s,_,rfl⟩:=List.mem_map.1 hu;rfl
def ku (l:List ByteArray) (s:ByteArray) (way:Int):List ByteArray :=
 if s=fE then l
 else match l with
  |x::r=>if 0<way then ((x++s)::r).take 10 else if way<0 then ((s++x)::r).take 10 else (s::l).take 10
  | []=>[s]
def qS:List ByteArray->List ByteArray
 | []=>[]
 |x::r=>r++[x]
theorem zR {l:List ByteArray}{s:ByteArray}(way:Int) (hv:cn .str h O v l) (hl:l.length<=1000000) (hs:s.size<=1000000) (hls:∀x∈l,x.size<=100000000) :
 ah Tryz.prog 63 #[v,.string s,.int .i64 way] h (bX fun r h'=>aM h' h.size 9 1 r (ku l s way).length ((ku l s way).map .string)/\aD h h'):=by
 obtain⟨oa,n,c,rfl,hsl⟩:=hv.open;have hn:=hsl.len;have hrow:=hsl.row;refine ah.of func63 rfl rfl ?_;refine aY func63 1 [0,1,2,6] rfl ?_;refine bB func63 1 rfl ?_;refine xo rfl (av.append underlying24 H.uV rfl rfl (aM.nil h h.size 9 1) (by simp[hn]) hrow (pK l) (by simp only[maxLen];omega) (by omega) (Nat.le_refl _)) ?_;rintro v1 h1 ⟨ho1,he1,-,-⟩;refine aS 1 [0,1,2,6,7] rfl ?_;refine au rfl ?_;refine G.block rfl rfl ?_;refine bB func63 1 rfl ?_;refine xp rfl (ak.fG rfl rfl) ?_;refine aS 1 [0,1,2,6,7,14] rfl ?_;have he1:=cO he1;rw[Nat.zero_add,List.nil_append] at ho1;obtain⟨oa1,c1,rfl,hw1⟩:=ho1.open;have hc1:=hw1.cap;have hle1:=hw1.le;unfold maxLen at hc1;refine aG rfl rfl (fun hse=>?_) (fun hse=>?_)
 · refine aY func63 2 [0,1,2,6,7,14] rfl ?_;refine aK func63 rfl rfl ?_;refine⟨_,rfl,?_,he1⟩;have:ku l s way=l:=by unfold ku;exact if_pos hse
   rw[this,hn];exact hw1.own
 · refine au rfl ?_
   have fin:∀(oa':Option Addr) (m c':Nat) (xs:List ByteArray) (h':ay) (ρ':Env),Sub [(7,.slice oa' m c')] ρ'->Ow h' h.size 9 1 oa' m c' (xs.map .string)->aD h h'->xs.take 10=ku l s way->G Tryz.prog 63 f63 [.blk 0,.code [1,1,1]] ρ' h' (bX fun r h'=>aM h' h.size 9 1 r (ku l s way).length ((ku l s way).map .string)/\aD h h'):=by
    intro oa' m c' xs h2 ρ' hsub hw he hx;have hcap:=hw.cap;have hle2:=hw.le;have hlen:=hw.len;simp at hlen;unfold maxLen at hcap;refine G.sub (ρ':=[(7,.slice oa' m c')]) hsub ?_;refine G.aT ?_;refine bB func63 2 rfl ?_;refine xp rfl (ak.aN underlying24 rfl) ?_;refine xp rfl (ak.min2 rfl rfl) ?_;refine xp rfl (ak.dR underlying24 H.ct rfl rfl (if (10:Nat)<m then 10 else m) (by split<;>split<;>omega) (by split<;>omega)) ?_;refine aS 1 [6,7] rfl ?_;refine aK func63 rfl rfl ?_;have hm:(if (10:Nat)<m then 10 else m)=(xs.take 10).length:=by rw[List.length_take];split<;>omega
    have:=hw.take (m:=(xs.take 10).length) (by rw[List.length_take];omega) 1;rw[Nat.mul_one,<-List.map_take] at this
    have htt:xs.take (xs.take 10).length=xs.take 10:=by
     rw[List.length_take]
     rcases Nat.lt_or_ge xs.length 10 with h|h
     · rw[Nat.min_eq_right (by omega),List.take_of_length_le (Nat.le_refl _),List.take_of_length_le (by omega)]
     · rw[Nat.min_eq_left h]
    rw[htt] at this;refine⟨_,rfl,?_,he⟩;rw[hm,<-hx];exact this
   have hs0:¬s=fE:=hse;refine G.bu [(18,.bool (decide (0<way/\0<n)))] [(0,_),(1,_),(2,_),(6,_),(7,_),(14,_)] ⟨rfl,rfl,rfl,rfl,rfl,rfl,trivial⟩ func63 rfl ?_ ?_
   · refine aV 3 rfl ?_;refine aH (d:=21) rfl (fun hg=>?_) (fun hg=>?_)
     · refine cx 1 rfl rfl (ak.aN underlying24 rfl) ?_;refine aV 3 rfl ?_;refine aC rfl ?_;exact⟨rfl,az rfl (by simp[hg]),rfl,rfl,rfl,rfl,rfl,rfl,trivial⟩
     · refine aV 5 rfl ?_;refine aC rfl ?_;exact⟨rfl,az rfl (by simp[hg]),rfl,rfl,rfl,rfl,rfl,rfl,trivial⟩
   · refine aG rfl rfl (fun hway=>?_) (fun hway=>?_)
     · obtain⟨hw0,hn0⟩:=hway;obtain⟨x,r,rfl⟩:∃x r,l=x::r:=by cases l with|nil=>simp at hn;omega|cons x r=>exact⟨x,r,rfl⟩
       obtain⟨g,ha,hg,hlt,hcell,hfz⟩:=hw1.at (i:=0) (x:=.string x) rfl;refine G.bV func63 rfl ?_;refine cx 1 rfl rfl (ak.aF underlying24 H.ct rfl rfl 0 rfl ha hn0) ?_;refine xp rfl (af H.cT rfl hcell) ?_;refine cx 1 rfl rfl (ak.gj rfl rfl (by have:=hls x (by simp);omega)) ?_;refine xp rfl (ak.aF underlying24 H.ct rfl rfl 0 rfl ha hn0) ?_;refine RW.bh rfl rfl rfl (cj H.ct rfl rfl rfl hcell hfz) ?_;rintro _ _ ⟨rfl,rfl⟩;refine xd [0,1,2,6,7,14,18] rfl ?_;have hw2:=hw1.set ha hn0 (.string (x++s));exact fin _ _ _ ((x++s)::r) _ _ ⟨rfl,trivial⟩ hw2 (he1.set hg _) (by unfold ku;rw[if_neg hs0];simp[hw0])
     · refine au rfl ?_;refine G.bu [(32,.bool (decide (way<0/\0<n)))] [(0,_),(1,_),(2,_),(6,_),(7,_),(14,_),(18,_)] ⟨rfl,rfl,rfl,rfl,rfl,rfl,rfl,trivial⟩ func63 rfl ?_ ?_
       · refine aV 3 rfl ?_;refine aH (d:=35) rfl (fun hg=>?_) (fun hg=>?_)
         · refine cx 1 rfl rfl (ak.aN underlying24 rfl) ?_;refine aV 3 rfl ?_;refine aC rfl ?_;exact⟨rfl,az rfl (by simp[hg]),rfl,rfl,rfl,rfl,rfl,rfl,rfl,trivial⟩
         · refine aV 5 rfl ?_;refine aC rfl ?_;exact⟨rfl,az rfl (by simp[hg]),rfl,rfl,rfl,rfl,rfl,rfl,rfl,trivial⟩
       · refine aG rfl rfl (fun hway2=>?_) (fun hway2=>?_)
         · obtain⟨hw0,hn0⟩:=hway2;obtain⟨x,r,rfl⟩:∃x r,l=x::r:=by cases l with|nil=>simp at hn;omega|cons x r=>exact⟨x,r,rfl⟩
           obtain⟨g,ha,hg,hlt,hcell,hfz⟩:=hw1.at (i:=0) (x:=.string x) rfl;refine G.bV func63 rfl ?_;refine cx 3 rfl rfl (ak.aF underlying24 H.ct rfl rfl 0 rfl ha hn0) ?_;refine xp rfl (af H.cT rfl hcell) ?_;refine xp rfl (ak.gj rfl rfl (by have:=hls x (by simp);omega)) ?_;refine xp rfl (ak.aF underlying24 H.ct rfl rfl 0 rfl ha hn0) ?_;refine RW.bh rfl rfl rfl (cj H.ct rfl rfl rfl hcell hfz) ?_;rintro _ _ ⟨rfl,rfl⟩;refine xd [0,1,2,6,7,14,18,32] rfl ?_;have hw2:=hw1.set ha hn0 (.string (s++x));exact fin _ _ _ ((s++x)::r) _ _ ⟨rfl,trivial⟩ hw2 (he1.set hg _) (by unfold ku;rw[if_neg hs0];simp[hw0];omega)
         · have hmade:=wM h1 [.string s] 9 1 rfl (by decide) h.size he1.size
           have hrow1:n=0\/∃b o,oa1=some ⟨b,o,none⟩/\Lw.rowAt (h1.push (.cells [Value.string s].toArray 9)) b o (l.map .string) :=
            hw1.row.imp id fun⟨b,o,ha,hr⟩=>⟨b,o,ha,(Ext.push (fun _=>False) _ _).rowAt (fun k=>k) hr⟩
           refine G.bV func63 rfl ?_;refine aV 1 rfl ?_;refine xo rfl (av.bC (us:=[_]) underlying24 H.uV rfl rfl (by decide) (by simp[Value.oneCell'])) ?_;rintro _ _ ⟨rfl,rfl⟩;refine aV 1 rfl ?_;refine xo rfl (av.append underlying24 H.uV rfl rfl hmade (by simp[hn]) hrow1 (pK l) (by simp only[maxLen];omega) (by omega) (by have:=he1.size;simp;omega)) ?_;rintro v2 h2 ⟨ho2,he2,-,-⟩;refine aS 1 [0,1,2,6,7,14,18,32] rfl ?_;obtain⟨oa2,c2,rfl,hw2⟩:=ho2.open
           have hadd:(s::l).take 10=ku l s way:=by
            unfold ku;rw[if_neg hs0];cases l with
            |nil=>rfl
            |cons x r=>simp at hn;simp only;rw[if_neg (by omega),if_neg (by omega)]
           exact fin _ _ _ (s::l) _ _ ⟨rfl,trivial⟩ hw2 (Ext.own (he1.push _) hmade (Nat.le_refl _) he2) hadd
theorem yB {l:List ByteArray}(hv:cn .str h O v l) (hl:l.length<=1000000) :
 ah Tryz.prog 65 #[v] h (bX fun r h'=>aM h' h.size 9 1 r (qS l).length ((qS l).map .string)/\aD h h'):=by
 obtain⟨oa,n,c,rfl,hsl⟩:=hv.open;have hn:=hsl.len;have hc:=hsl.cap;have hle:=hsl.le;unfold maxLen at hc;refine ah.of func65 rfl rfl ?_;refine aY func65 1 [0,2] rfl ?_;refine au rfl ?_;refine bB func65 1 rfl ?_;refine xp rfl (ak.aN underlying24 rfl) ?_;refine aS 1 [0,2,5] rfl ?_;refine aG rfl rfl (fun h0=>?_) (fun h0=>?_)
 · refine aY func65 1 [0,2,5] rfl ?_;refine aK func65 rfl rfl ?_;have:l=[]:=List.eq_nil_of_length_eq_zero (by omega);subst this;exact⟨_,rfl,aM.nil _ _ _ _,Ext.refl _ _⟩
 · have hn0:0<n:=by omega
   obtain⟨b,o,x,ha,_,hx,hcell⟩:=hsl.at hn0;obtain⟨r,rfl⟩:∃r,l=x::r:=by cases l with|nil=>simp at hx|cons y r=>simp at hx;subst hx;exact⟨r,rfl⟩
   simp at hn
   have hrow:n-1=0\/∃b o,cI oa 1 1 c=some ⟨b,o,none⟩/\Lw.rowAt h b o (r.map .string):=by
    have:=(hsl.part (i:=1) (j:=n) (by omega) (Nat.le_refl _)).row;rw[List.take_of_length_le (by simp;omega)] at this;exact this
   refine aA rfl ?_;refine au rfl ?_;refine G.p8 (fun(v':Value) (h':ay)=>aM h' h.size 9 1 v' (qS (x::r)).length ((qS (x::r)).map .string)/\aD h h') (fun(v':Value)=>[(2,v')]) [(0,_),(5,_)] ⟨rfl,rfl,trivial⟩ (fun b=>Array.size h<=b) (fun i=>Nat.blt i 9) (sz:=9) (listed:= #[false,false,false,false,false,false,false,false,false]) func65 H.mixed rfl rfl rfl ?_ ?_
   · refine bF 0 1 (by kernel_rfl) rfl ?_;refine bf 1 3 (by kernel_rfl) rfl (fun h' e=>ak.pz underlying24 H.ct rfl rfl 1 rfl hn0) ?_;refine bF 3 11 (by kernel_rfl) rfl ?_;refine bf 4 27 (by kernel_rfl) rfl (fun h' e=>ak.aF underlying24 H.ct rfl rfl 0 rfl ha hn0) ?_;refine bf 5 59 (by kernel_rfl) rfl (fun h' e=>af H.cT rfl (e.old hcell)) ?_;have hl1:(r.map Value.string).length=(n-1)*1:=by simp;omega
     have hn1:n<=1000000:=by simp at hl;omega
     refine RD.wR 2 6 (li:= #[true,true,true,true,true,true,false,false,false]) (lj:= #[true,true,false,true,true,true,true,false,false]) rfl rfl (by kernel_rfl) rfl rfl rfl rfl rfl rfl (av.append underlying24 H.uV rfl rfl (aM.nil h h.size 9 1) hl1 hrow (pK r) (by simp only[maxLen];omega) (by omega) (Nat.le_refl _)) (av.bC (us:=[_]) underlying24 H.uV rfl rfl (by decide) (by simp[Value.oneCell'])) (by kernel_rfl) (by kernel_rfl) ?_ ?_
     · rintro v1 h1 ⟨ho1,he1,-,-⟩;refine⟨fun _=>(cO he1).of,?_⟩;rw[Nat.zero_add,List.nil_append] at ho1;have he1:=cO he1;have ho2:=ho1.ext (Ext.push (fun _=>False) h1 (.cells [Value.string x].toArray 9)) (fun _ _ k=>k);refine dK 6 127 (by kernel_rfl) rfl (av.bC (us:=[_]) underlying24 H.uV rfl rfl (by decide) (by simp[Value.oneCell'])) ?_;rintro _ _ ⟨rfl,rfl⟩;refine⟨fun _=>by first|exact Ext.push _ _ _|assumption,?_⟩;refine dK 7 255 (by kernel_rfl) rfl (av.append underlying24 H.uV rfl rfl ho2 rfl (.inr ⟨_,_,rfl,ke _ _ _⟩) (by simp[Value.oneCell']) (by simp only[maxLen];omega) (by omega) (by have:=he1.size;simp;omega)) ?_;rintro v2 h2 ⟨ho3,he3,-,-⟩;refine⟨fun _=>he3.mono (fun i _ hi=>(ho2.lt hi.symm).1),?_⟩;refine bF 8 511 (by kernel_rfl) rfl ?_;refine aR (by kernel_rfl) ?_;exact⟨v2,⟨by simpa [qS,show n-1+1=r.length+1 from by omega] using ho3,Ext.own (he1.push _) ho2 (Nat.le_refl _) he3⟩,rfl,rfl,rfl,trivial⟩
     · rintro _ _ ⟨rfl,rfl⟩;refine⟨fun _=>by first|exact Ext.push _ _ _|assumption,?_⟩;refine dK 2 127 (by kernel_rfl) rfl (av.append underlying24 H.uV rfl rfl (aM.nil _ h.size 9 1) hl1 (hrow.imp id fun⟨b,o,ha,hr⟩=>⟨b,o,ha,(Ext.push (fun _=>False) _ _).rowAt (fun k=>k) hr⟩) (pK r) (by simp only[maxLen];omega) (by omega) (by simp)) ?_;rintro v1 h1 ⟨ho1,he1,-,-⟩;refine⟨fun _=>(cO he1).of,?_⟩;rw[Nat.zero_add,List.nil_append] at ho1;have he1:=cO he1;have heh:aD h h1:=(Ext.push _ _ _).trans he1;refine dK 7 255 (by kernel_rfl) rfl (av.append underlying24 H.uV rfl rfl ho1 rfl (.inr ⟨_,_,rfl,he1.rowAt (fun k=>k) (ke _ _ _)⟩) (by simp[Value.oneCell']) (by simp only[maxLen];omega) (by omega) heh.size) ?_;rintro v2 h2 ⟨ho3,he3,-,-⟩;refine⟨fun _=>he3.mono (fun i _ hi=>(ho1.lt hi.symm).1),?_⟩;refine bF 8 511 (by kernel_rfl) rfl ?_;refine aR (by kernel_rfl) ?_;exact⟨v2,⟨by simpa [qS,show n-1+1=r.length+1 from by omega] using ho3,Ext.own heh ho1 (Nat.le_refl _) he3⟩,rfl,rfl,rfl,trivial⟩
   · rintro v' h' ⟨ho,he⟩;refine aK func65 rfl rfl ?_;exact⟨_,rfl,ho,he⟩
theorem Du (l:List By) (s:By) (way:Int):ku (l.map bs) (bs s) way=(jD l s way).map bs:=by
 have hz:(bs s=fE)=(s=[]):=propext ⟨fun e=>gE (m:=[]) e,fun e=>by rw[e];rfl⟩;unfold ku jD;simp only[hz];cases l with
 |nil=>split<;>rfl
 |cons x r =>
  simp only[List.map_cons,dA]
  repeat' split
  all_goals simp only[List.map_take,List.map_cons]
theorem CN (l:List By):qS (l.map bs)=(eG l).map bs:=by cases l with|nil=>rfl|cons x r=>simp[qS,eG]
theorem sx (k:cn xU h O v l):cn .str h O v (l.map bs):=by
 obtain⟨oa,n,c,rfl,hl,hn,hc,hk⟩:=k;refine⟨oa,n,c,rfl,by rw[List.length_map];exact hl,hn,hc,fun i y hy=>?_⟩;rw[List.getElem?_map] at hy;cases hx:l[i]? with
 |none=>rw[hx] at hy;cases hy
 |some x=>rw[hx] at hy;cases hy;exact hk i x hx
theorem Ce {base:Nat}{n:Nat}(k:aM h base 9 1 v n ((l.map bs).map .string)) (hn:n=l.length) (ho:∀b,base<=b->¬O b):cn xU h O v l:=by
 subst hn;rw[List.map_map] at k;exact aM.shut (enc:=fun s=>Value.string (bs s)) k ho
theorem oC {s:By}(way:Int) (hv:cn xU h O v l) (hO:∀y,O y->y<h.size) (hl:l.length<=1000000) (hs:s.length<=1000000) (hls:∀x∈l,x.length<=100000000) :
 ah Tryz.prog 63 #[v,.string (bs s),.int .i64 way] h (bX fun r h'=>cn xU h' O r (jD l s way)/\aD h h') :=
 (zR way (sx hv) (by rw[List.length_map];exact hl) (by rw[aZ];exact hs) (fun x hx=>by obtain⟨y,hy,rfl⟩:=List.mem_map.1 hx;rw[aZ];exact hls y hy)).ret fun r h' ⟨ho,he⟩=>⟨by
  rw[Du] at ho;exact Ce ho (by rw[List.length_map]) (fun b hb k=>by have:=hO b k;omega),he⟩
theorem zO (hv:cn xU h O v l) (hO:∀y,O y->y<h.size) (hl:l.length<=1000000) :
 ah Tryz.prog 65 #[v] h (bX fun r h'=>cn xU h' O r (eG l)/\aD h h') :=
 (yB (sx hv) (by rw[List.length_map];exact hl)).ret fun r h' ⟨ho,he⟩=>⟨by
  rw[CN] at ho;exact Ce ho (by rw[List.length_map]) (fun b hb k=>by have:=hO b k;omega),he⟩
theorem Kz:Go.Proofs.Builder.Extra Tryz.prog Tryz.rm where
 sizeBuilder:=by kernel_rfl
 liesBuilder:=by kernel_rfl
 t5:=Tryz.kU.t5
 a5:=Tryz.kU.a5
 z5:=Tryz.kU.z5
 v5:=Tryz.kU.v5
 infoByte:=by kernel_rfl
 cellsByte:=by kernel_rfl
 sizeByte:=by kernel_rfl
 neB5:=by decide
theorem EC (t:By):∀n,Lib.repeatL t n=oh t n
 | 0=>rfl
 |n+1=>by rw[oh,<-EC t n];rfl
theorem vQ (t:By) (n:Nat) (ht:t.length<=16384) (hn:n<=1000):ah Tryz.prog 84 #[.string (bs t),.int .i64 (n:Nat)] h (bX fun r h'=>r= .string (bs (oh t n))/\aD h h'):=by
 have hm:t.length*n<=16384*1000:=Nat.mul_le_mul ht hn;refine ah.nr fun w hw=>?_
 subst hw;refine(Any.strings_Repeat Tryz.kU Kz (bs t) n w (by omega) (by rw[aZ];omega)).mono ?_;rintro e w' ⟨rfl,hb⟩;refine⟨_,rfl,⟨?_,⟨hb.size,fun b hlt _=>hb.block b hlt⟩⟩,hb.os,hb.tape,hb.output⟩;rw[ir,EC];rfl
theorem yW (t:By):∀n,(oh t n).length=n*t.length
 | 0=>by simp[oh]
 |n+1=>by rw[oh,List.length_append,yW t n,Nat.succ_mul];omega
theorem AG (t:By) (n:Int) (ht:t.length<=100000000):ah Tryz.prog 57 #[.string (bs t),.int .i64 n] h (bX fun r h'=>r= .tuple #[.string (bs ((ic t n).getD [])),.bool (ic t n).isSome]/\aD h h'):=by
 have hbt:=aZ t;obtain⟨m,hm⟩:∃m:Nat,cK n=(m:Nat):=⟨(cK n).toNat,by unfold cK;omega⟩
 have hm1:m<=1000:=by unfold cK at hm;omega
 have hR:ic t n=if t≠[]/\((16384 / t.length:Nat):Int)<(m:Nat) then none else some (oh t m):=by unfold ic;rw[hm,Int.toNat_natCast]
 refine ah.of func57 rfl rfl ?_;refine aY func57 2 [0,1,4,5] rfl ?_;refine bB func57 1 rfl ?_;refine xo rfl (aj (vs:=[_]) func59 rfl H.EN rfl (ah.aX (iu n))) ?_;rintro _ h ⟨rfl,rfl⟩;rw[hm];refine aS 1 [0,1,4,5] rfl ?_;refine au rfl ?_;refine au rfl ?_;obtain⟨D0,hD0⟩:∃D0,16384 / t.length=D0:=⟨_,rfl⟩
 rw[hD0] at hR;refine G.bu [(16,.bool (decide (t≠[]/\(D0:Int)<(m:Nat))))] [(0,_),(1,_),(4,_),(5,_)] ⟨rfl,rfl,rfl,rfl,trivial⟩ func57 rfl ?_ ?_
 · refine cx 1 rfl rfl (ak.mq rfl rfl) ?_;refine aV 1 rfl ?_;refine aH (d:=10) rfl (fun c=>?_) (fun c=>?_)
   · have c:=of_decide_eq_true c;have hne:t≠[]:=fun e=>c (by rw[e];rfl)
     have hp:=List.length_pos_iff.2 hne;have hdiv:(16384:Int).tdiv ((t.length:Nat):Int)=((16384 / t.length:Nat):Int):=rfl;have hdl:16384 / t.length<=16384:=Nat.div_le_self _ _;rw[hD0] at hdiv hdl;refine cx 2 rfl rfl (ak.bp underlying9 rfl) ?_;refine xp rfl (ym rfl rfl (by omega)) ?_;rw[hbt,hdiv,wrap_i64 ⟨by omega,by omega⟩];refine aV 2 rfl ?_;refine aC rfl ?_;exact⟨rfl,az rfl (by rw[decide_eq_decide];exact⟨fun q=>⟨hne,q⟩,fun q=>q.2⟩),rfl,rfl,rfl,rfl,trivial⟩
   · have c:=of_decide_eq_false c;have he:t=[]:=gE (by by_cases q:bs t=bs [];exact q;exact absurd q c);refine aV 6 rfl ?_;refine aC rfl ?_;exact⟨rfl,az rfl (by rw[decide_eq_false (fun q=>q.1 he)]),rfl,rfl,rfl,rfl,trivial⟩
 · refine aG rfl rfl (fun hc=>?_) (fun hc=>?_)
   · rw[if_pos hc] at hR;rw[hR];refine aY func57 2 [0,1,4,5,16] rfl ?_;refine aK func57 rfl rfl ?_;exact⟨_,rfl,rfl,Ext.refl _ _⟩
   · rw[if_neg hc] at hR;rw[hR]
     have htl:m=0\/t.length<=16384:=by
      by_cases he:t=[]
      · right;rw[he];simp
      · rcases Nat.eq_zero_or_pos m with q|q
        · exact .inl q
        · right
          have hp:=List.length_pos_iff.2 he
          by_cases hg:t.length<=16384
          · exact hg
          · exact absurd ⟨he,by rw[<-hD0,Nat.div_eq_of_lt (by omega)];omega⟩ hc
     have hcall:ah Tryz.prog 84 #[.string (bs t),.int .i64 (m:Nat)] h (bX fun r h'=>r= .string (bs (oh t m))/\aD h h'):=by
      rcases htl with rfl|htl
      · exact ah.sr (h:=h) (fun w=>Tryz.strings_Repeat_zero (bs t) w) |>.ret fun r h' ⟨h1,h2⟩=>⟨h1,by subst h2;exact Ext.refl _ _⟩
      · exact vQ t m htl hm1
     refine aA rfl ?_;refine bB func57 2 rfl ?_;refine xo rfl (aj (vs:=[_,_]) func84 rfl H.I9 rfl (ah.aX (hcall))) ?_;rintro _ g ⟨rfl,e⟩;refine aS 2 [0,1,4,5,16] rfl ?_;refine aK func57 rfl rfl ?_;exact⟨_,rfl,rfl,e⟩
theorem C8 {t x:By}{n:Int}(h:ic t n=some x):x.length<=16384:=by
 unfold ic at h;split at h
 · cases h
 · rename_i q;cases h;rw[yW]
   by_cases he:t=[]
   · rw[he];simp
   · have hp:=List.length_pos_iff.2 he
     have hle:(cK n).toNat<=16384 / t.length:=by
      by_cases hg:(cK n).toNat<=16384 / t.length
      · exact hg
      · exact absurd ⟨he,by generalize 16384 / t.length=D at *;omega⟩ q
     exact Nat.le_trans (Nat.mul_le_mul_right _ hle) (Nat.div_mul_le_self _ _)
theorem kX (k:bE O h v s) (hO:∀y,O y->y<h.size) (hI:MI B s) (hB:B<=100000000) (hc:cJ s) (t:By) (ht:t.length<=100000000) (n last:Int) :
 ah Tryz.prog 26 #[v,.string (bs t),.int .i64 n,.int .i64 last] h (bX fun r h'=>bE O h' r (cW s t n last)/\aD h h'):=by
 obtain⟨p,hp⟩:∃p:Nat,s.cur=(p:Nat):=⟨s.cur.toNat,by unfold cJ at hc;omega⟩
 have hpl:p<=s.text.length:=by unfold cJ at hc;omega
 obtain⟨xa,xn,xc,ya,yn,yc,za,zn,zc,ua,un,uc,rfl,hS⟩:=bE.get k;refine ah.of func26 rfl rfl ?_;refine xr func26 rfl ?_;refine xo rfl (av.cR rfl) ?_;rintro _ h1 ⟨rfl,k1,e1,z1⟩;refine xo rfl (av.aW H.dz) ?_;rintro _ h2 ⟨rfl,k2,e2,z2⟩;have F:Fr O h h2 h.size h1.size s _ _ _ _:=bW hS hO (e1.trans e2) (k1.ax e2) k2 (Nat.le_refl _) (by omega) (by omega);refine xd [0,1,2,3,4,8] rfl ?_;refine bB func26 2 rfl ?_;refine xo rfl (aj (vs:=[_,_]) func57 rfl H.KP rfl (ah.aX (AG t n ht))) ?_;rintro _ g ⟨rfl,e⟩;have F:=F.ax e
 rcases hR:ic t n with _|x
 · refine aS 5 [0,1,2,3,4,8,9,10] rfl ?_;refine au rfl ?_;refine aY func26 2 [0,1,2,3,4,8,9,10,20] rfl ?_;refine aO rfl rfl (fun _=>?_) (fun hc=>absurd hc (by simp));have hM:cW s t n last=cE s:=by unfold cW;rw[hR]
   rw[hM];refine xr func26 rfl ?_;refine xp rfl (ak.aq H.aJ H.aB rfl F.blk.row (by first|rfl|(simp;done)|(simp;omega))) ?_;refine xo rfl (aj (vs:=[_]) func22 rfl H.iT rfl (ah.aX (bM F.dJ F.hO hI hB))) ?_;rintro v3 h3 ⟨kv,e3⟩;obtain⟨_,_,_,_,_,_,_,_,_,_,_,_,rfl,hT⟩:=bE.get kv;have F:=F.ax e3;refine RW.bh rfl rfl rfl (av.an H.aB rfl rfl F.res (by first|rfl|(simp;done)|(simp;omega)) (by first|decide|exact of_decide_eq_true rfl|(simp;done)|(simp;omega)) (ms1)) ?_;rintro _ gz ⟨rfl,kz,xz,zz⟩;refine xd [0,1,2,3,4,8,9,10,20] rfl ?_;refine G.bq func26 rfl (.cons (aL.bn H.aJ H.aB rfl (kz.row) (by first|rfl|(simp;done)|(simp;omega))) (.nil)) ?_;exact⟨_,rfl,F.cy hT xz⟩
 · have hxl:=C8 hR;refine aS 5 [0,1,2,3,4,8,9,10] rfl ?_;refine au rfl ?_;refine aY func26 2 [0,1,2,3,4,8,9,10,20] rfl ?_;refine aO rfl rfl (fun hc=>absurd hc (by simp)) (fun _=>?_);refine aA rfl ?_;refine au rfl ?_;refine G.Fw [(11,.int .i64 s.cur),(12,.bool (decide (last=1/\s.last=1/\s.to_=s.cur)))] [(0,_),(1,_),(2,_),(3,_),(4,_),(8,_),(9,_),(10,_),(20,_)] ⟨rfl,rfl,rfl,rfl,rfl,rfl,rfl,rfl,rfl,trivial⟩ func26 H.mixed rfl (by kernel_rfl) ?_ ?_
   · refine RQ.aU rfl rfl rfl rfl (aa (off:=1) underlying27 rfl rfl H.aQ rfl) ?_;refine RQ.aU rfl rfl rfl rfl (af H.bD rfl (F.blk.cell (i:=1) rfl)) ?_;refine RQ.aU rfl rfl rfl rfl (bS rfl) ?_;refine RQ.aU rfl rfl rfl rfl (ak.xT rfl rfl) ?_;refine RQ.aU rfl rfl rfl rfl (bS rfl) ?_;refine Aw (d:=27) rfl (fun c1=>?_) (fun c1=>?_)
     · have c1:=of_decide_eq_true c1;refine RQ.aU rfl rfl rfl rfl (aa (off:=8) underlying27 rfl rfl H.aQ rfl) ?_;refine RQ.aU rfl rfl rfl rfl (af H.bD rfl (F.blk.cell (i:=8) rfl)) ?_;refine RQ.aU rfl rfl rfl rfl (ak.xT rfl rfl) ?_;refine RQ.aU rfl rfl rfl rfl (ak.EF rfl rfl) ?_;refine RQ.aU rfl rfl rfl rfl (bS rfl) ?_;refine Aw (d:=32) rfl (fun c2=>?_) (fun c2=>?_)
       · have c2:=of_decide_eq_true c2;refine RQ.aU rfl rfl rfl rfl (aa (off:=10) underlying27 rfl rfl H.aQ rfl) ?_;refine RQ.aU rfl rfl rfl rfl (af H.bD rfl (F.blk.cell (i:=10) rfl)) ?_;refine RQ.aU rfl rfl rfl rfl (aa (off:=1) underlying27 rfl rfl H.aQ rfl) ?_;refine RQ.aU rfl rfl rfl rfl (af H.bD rfl (F.blk.cell (i:=1) rfl)) ?_;refine RQ.aU rfl rfl rfl rfl (ak.xT rfl rfl) ?_;refine RQ.aU rfl rfl rfl rfl (ak.EF rfl rfl) ?_;refine RQ.aU rfl rfl rfl rfl (ak.assign rfl) ?_;refine RQ.aU rfl rfl rfl rfl (ak.assign rfl) ?_;refine iX rfl ?_;exact⟨rfl,rfl,az rfl (by rw[decide_eq_decide];exact⟨fun q=>⟨c1,c2,q⟩,fun q=>q.2.2⟩),rfl,rfl,rfl,rfl,rfl,rfl,rfl,rfl,rfl,trivial⟩
       · have c2:=of_decide_eq_false c2;refine RQ.iw rfl rfl rfl rfl ?_;refine RQ.iw rfl rfl rfl rfl ?_;refine RQ.iw rfl rfl rfl rfl ?_;refine RQ.iw rfl rfl rfl rfl ?_;refine RQ.iw rfl rfl rfl rfl ?_;refine RQ.aU rfl rfl rfl rfl (ak.Cd rfl rfl) ?_;refine RQ.aU rfl rfl rfl rfl (ak.assign rfl) ?_;refine RQ.aU rfl rfl rfl rfl (ak.assign rfl) ?_;refine iX rfl ?_;exact⟨rfl,rfl,az rfl (by rw[decide_eq_false (fun q=>c2 q.2.1)]),rfl,rfl,rfl,rfl,rfl,rfl,rfl,rfl,rfl,trivial⟩
     · have c1:=of_decide_eq_false c1;refine RQ.iw rfl rfl rfl rfl ?_;refine RQ.iw rfl rfl rfl rfl ?_;refine RQ.iw rfl rfl rfl rfl ?_;refine RQ.aU rfl rfl rfl rfl (ak.Cd rfl rfl) ?_;refine RQ.aU rfl rfl rfl rfl (bS rfl) ?_;refine RQ.iw rfl rfl rfl rfl ?_;refine RQ.iw rfl rfl rfl rfl ?_;refine RQ.iw rfl rfl rfl rfl ?_;refine RQ.iw rfl rfl rfl rfl ?_;refine RQ.iw rfl rfl rfl rfl ?_;refine RQ.aU rfl rfl rfl rfl (ak.Cd rfl rfl) ?_;refine RQ.aU rfl rfl rfl rfl (ak.assign rfl) ?_;refine RQ.aU rfl rfl rfl rfl (ak.assign rfl) ?_;refine iX rfl ?_;exact⟨rfl,rfl,az rfl (by rw[decide_eq_false (fun q=>c1 q.1)]),rfl,rfl,rfl,rfl,rfl,rfl,rfl,rfl,rfl,trivial⟩
   · rw[hp];refine au rfl ?_;refine xr func26 rfl ?_;refine xp rfl (ak.aq H.aJ H.aB rfl F.blk.row (by first|rfl|(simp;done)|(simp;omega))) ?_;refine aV 2 rfl ?_;refine xo rfl (aj (vs:=[_,_,_]) func58 rfl H.zi rfl (ah.aX (kf F.dJ F.hO hI hB p hpl x (by omega)))) ?_;rintro v3 h3 ⟨⟨w3,rfl,kw⟩,e3⟩;obtain⟨_,_,_,_,_,_,_,_,_,_,_,_,rfl,hT⟩:=bE.get kw;have F:=F.ax e3;refine aV 3 rfl ?_;refine RW.bh rfl rfl rfl (av.an H.aB rfl rfl F.blk (by first|rfl|(simp;done)|(simp;omega)) (by first|decide|exact of_decide_eq_true rfl|(simp;done)|(simp;omega)) (ms1)) ?_;rintro _ h4 ⟨rfl,k4,x4,z4⟩;refine aS 1 [0,1,2,3,4,8,9,10,11,12,20] rfl ?_;refine aY func26 2 [0,1,2,3,4,8,9,10,11,12,20,47] rfl ?_;have F:=F.set k4 x4 hT;have hpt:s.cur.toNat=p:=by omega
     rcases hq:(cL s p x).2
     · refine aO rfl rfl (fun _=>?_) (fun hc=>absurd hc (by simp));have hM:cW s t n last=(cL s p x).1:=by unfold cW;rw[hR];simp only;rw[hpt,if_pos hq]
       rw[hM];refine xr func26 rfl ?_;refine xp rfl (ak.aq H.aJ H.aB rfl F.blk.row (by first|rfl|(simp;done)|(simp;omega))) ?_;refine RW.bh rfl rfl rfl (av.an H.aB rfl rfl F.res (by first|rfl|(simp;done)|(simp;omega)) (by first|decide|exact of_decide_eq_true rfl|(simp;done)|(simp;omega)) (ms1)) ?_;rintro _ gz ⟨rfl,kz,xz,zz⟩;refine xd [0,1,2,3,4,8,9,10,11,12,20,47] rfl ?_;refine G.bq func26 rfl (.cons (aL.bn H.aJ H.aB rfl (kz.row) (by first|rfl|(simp;done)|(simp;omega))) (.nil)) ?_;exact⟨_,rfl,F.out xz⟩
     · refine aO rfl rfl (fun hc=>absurd hc (by simp)) (fun _=>?_);have hM:cW s t n last= { (cL s p x).1 with from_:=if last=1/\s.last=1/\s.to_=s.cur then s.from_ else s.cur,last:=last,to_:=(cL s p x).1.cur }:=by unfold cW;rw[hR];simp only;rw[hpt,if_neg (by rw[hq];simp)]
       have hfr:(cL s p x).1.from_=s.from_:=by unfold cL;split<;>rfl
       rw[hM];refine aA rfl ?_;refine au rfl ?_;refine aY func26 2 [0,1,2,3,4,8,9,10,11,12,20,47,50] rfl ?_
       rcases hg:decide (last=1/\s.last=1/\s.to_=(p:Nat))
       · refine aO rfl rfl (fun _=>?_) (fun hc=>absurd hc (by simp));have hg:=of_decide_eq_false hg;rw[if_neg (by rw[hp];exact hg),hp];refine G.bV func26 rfl ?_;refine cx 1 rfl rfl (aa (off:=9) underlying27 rfl rfl H.aQ rfl) ?_;refine RW.bh rfl rfl rfl (av.aE H.aQ rfl rfl F.blk (by first|decide|exact of_decide_eq_true rfl|(simp;done)|(simp;omega)) rfl) ?_;rintro _ h4 ⟨rfl,k4,x4,z4⟩;have F:=F.set (t:= { (cL s p x).1 with from_:=(p:Nat) }) k4 x4 (F.ms.of rfl rfl rfl rfl);refine xd [0,1,2,3,4,8,9,10,11,12,20,47,50] rfl ?_;refine bB func26 1 rfl ?_;refine xp rfl (aa (off:=1) underlying27 rfl rfl H.aQ rfl) ?_;refine xp rfl (af H.bD rfl (F.blk.cell (i:=1) rfl)) ?_;refine xp rfl (aa (off:=8) underlying27 rfl rfl H.aQ rfl) ?_;refine RW.bh rfl rfl rfl (av.aE H.aQ rfl rfl F.blk (by first|decide|exact of_decide_eq_true rfl|(simp;done)|(simp;omega)) rfl) ?_;rintro _ h4 ⟨rfl,k4,x4,z4⟩;have F:=F.set (t:= { (cL s p x).1 with from_:=(p:Nat),last:=last }) k4 x4 (F.ms.of rfl rfl rfl rfl);refine xp rfl (aa (off:=10) underlying27 rfl rfl H.aQ rfl) ?_;refine RW.bh rfl rfl rfl (av.aE H.aQ rfl rfl F.blk (by first|decide|exact of_decide_eq_true rfl|(simp;done)|(simp;omega)) rfl) ?_;rintro _ h4 ⟨rfl,k4,x4,z4⟩;have F:=F.set (t:= { (cL s p x).1 with from_:=(p:Nat),last:=last,to_:=(cL s p x).1.cur }) k4 x4 (F.ms.of rfl rfl rfl rfl);refine xd [0,1,2,3,4,8,9,10,11,12,20,47,50] rfl ?_;refine xr func26 rfl ?_;refine xp rfl (ak.aq H.aJ H.aB rfl F.blk.row (by first|rfl|(simp;done)|(simp;omega))) ?_;refine RW.bh rfl rfl rfl (av.an H.aB rfl rfl F.res (by first|rfl|(simp;done)|(simp;omega)) (by first|decide|exact of_decide_eq_true rfl|(simp;done)|(simp;omega)) (ms1)) ?_;rintro _ gz ⟨rfl,kz,xz,zz⟩;refine xd [0,1,2,3,4,8,9,10,11,12,20,47,50] rfl ?_;refine G.bq func26 rfl (.cons (aL.bn H.aJ H.aB rfl (kz.row) (by first|rfl|(simp;done)|(simp;omega))) (.nil)) ?_;exact⟨_,rfl,F.out xz⟩
       · refine aO rfl rfl (fun hc=>absurd hc (by simp)) (fun _=>?_);have hg:=of_decide_eq_true hg;rw[if_pos (by rw[hp];exact hg),<-hfr];refine aA rfl ?_;refine bB func26 1 rfl ?_;refine xp rfl (aa (off:=1) underlying27 rfl rfl H.aQ rfl) ?_;refine xp rfl (af H.bD rfl (F.blk.cell (i:=1) rfl)) ?_;refine xp rfl (aa (off:=8) underlying27 rfl rfl H.aQ rfl) ?_;refine RW.bh rfl rfl rfl (av.aE H.aQ rfl rfl F.blk (by first|decide|exact of_decide_eq_true rfl|(simp;done)|(simp;omega)) rfl) ?_;rintro _ h4 ⟨rfl,k4,x4,z4⟩;have F:=F.set (t:= { (cL s p x).1 with last:=last }) k4 x4 (F.ms.of rfl rfl rfl rfl);refine xp rfl (aa (off:=10) underlying27 rfl rfl H.aQ rfl) ?_;refine RW.bh rfl rfl rfl (av.aE H.aQ rfl rfl F.blk (by first|decide|exact of_decide_eq_true rfl|(simp;done)|(simp;omega)) rfl) ?_;rintro _ h4 ⟨rfl,k4,x4,z4⟩;have F:=F.set (t:= { (cL s p x).1 with last:=last,to_:=(cL s p x).1.cur }) k4 x4 (F.ms.of rfl rfl rfl rfl);refine xd [0,1,2,3,4,8,9,10,11,12,20,47,50] rfl ?_;refine xr func26 rfl ?_;refine xp rfl (ak.aq H.aJ H.aB rfl F.blk.row (by first|rfl|(simp;done)|(simp;omega))) ?_;refine RW.bh rfl rfl rfl (av.an H.aB rfl rfl F.res (by first|rfl|(simp;done)|(simp;omega)) (by first|decide|exact of_decide_eq_true rfl|(simp;done)|(simp;omega)) (ms1)) ?_;rintro _ gz ⟨rfl,kz,xz,zz⟩;refine xd [0,1,2,3,4,8,9,10,11,12,20,47,50] rfl ?_;refine G.bq func26 rfl (.cons (aL.bn H.aJ H.aB rfl (kz.row) (by first|rfl|(simp;done)|(simp;omega))) (.nil)) ?_;exact⟨_,rfl,F.out xz⟩
theorem tN (k:bE O h v s) (hO:∀y,O y->y<h.size) (hI:MI B s) (hB:B<=100000000) (a b:Nat) (hab:a<=b) (hb:b<=s.text.length) (d:Bool) :
 ah Tryz.prog 62 #[v,.int .i64 (a:Nat),.int .i64 (b:Nat),.bool d] h (bX fun r h'=>bE O h' r (nR s a b d)/\aD h h'):=by
 have hbs:=aZ s.text;have htx:=hI.text;have hrn:=hI.ringn;have hq:=fO s.text a b hab;have hpl:((s.text.take b).drop a).length<=16384:=kg _ _ _ _ htx;obtain⟨xa,xn,xc,ya,yn,yc,za,zn,zc,ua,un,uc,rfl,hS⟩:=bE.get k;refine ah.of func62 rfl rfl ?_;refine xr func62 rfl ?_;refine xo rfl (av.cR rfl) ?_;rintro _ h1 ⟨rfl,k1,e1,z1⟩;refine xo rfl (av.aW H.dz) ?_;rintro _ h2 ⟨rfl,k2,e2,z2⟩;have F:Fr O h h2 h.size h1.size s _ _ _ _:=bW hS hO (e1.trans e2) (k1.ax e2) k2 (Nat.le_refl _) (by omega) (by omega);have hM:¬Array.size h2<=h.size:=by omega
 refine xd [0,1,2,3,4,8] rfl ?_;refine aY func62 1 [0,1,2,3,4,8,9] rfl ?_;refine au rfl ?_;refine xr func62 rfl ?_;refine xp rfl (aa (off:=8) underlying27 rfl rfl H.aQ rfl) ?_;refine xp rfl (af H.bD rfl (F.blk.cell (i:=8) rfl)) ?_;refine aS 1 [0,1,2,3,4,8,9,12] rfl ?_
 have j1:∀(w:Int) (h':ay) (ρ':Env),Sub [(1,.int .i64 (a:Nat)),(2,.int .i64 (b:Nat)),(4,.pointer (some ⟨h.size,0,none⟩)),(8,.pointer (some ⟨h1.size,0,none⟩)),(9,.int .i64 w)] ρ'->h'=h2/\w=(if s.last=2 then (if d=true then 1 else -1) else 0)->G Tryz.prog 62 f62 [.code [1,1,1]] ρ' h' (bX fun r h'=>bE O h' r (nR s a b d)/\aD h h'):=by
  rintro w h2 ρ' hsub ⟨rfl,hw⟩;refine G.sub (ρ':=[(1,.int .i64 (a:Nat)),(2,.int .i64 (b:Nat)),(4,.pointer (some ⟨h.size,0,none⟩)),(8,.pointer (some ⟨h1.size,0,none⟩)),(9,.int .i64 w)]) hsub ?_;have hkc:∀g,aD h2 g->ah Tryz.prog 63 #[.slice xa xn xc,.string (bs ((s.text.take b).drop a)),.int .i64 w] g (bX fun r h'=>cn xU h' (A8 h.size h1.size O) r (jD s.ring ((s.text.take b).drop a) w)/\aD g h'):=fun g e=>oC w (F.ms.ring.ax e) (fun y hy=>by have:=F.hO y hy;have:=e.size;omega) (by omega) (by omega) (fun x hx=>Nat.le_trans (hI.ring x hx) hB)
  refine au rfl ?_;refine bU (fun b=>Array.size h2<=b) (fun i=>Nat.blt i 10) (sz:=11) (listed:= #[false,false,false,false,false,false,false,false,false,false,false]) func62 H.mixed rfl rfl rfl ?_;refine bf 0 1 (by kernel_rfl) rfl (fun h' e=>aa (off:=4) underlying27 rfl rfl H.dQ rfl) ?_;refine bf 1 3 (by kernel_rfl) rfl (fun h' e=>af H.gi rfl (e.cell hM (F.blk.cell (i:=4) rfl))) ?_;refine bf 2 7 (by kernel_rfl) rfl (fun h' e=>aa (off:=0) underlying27 rfl rfl H.ct rfl) ?_;refine bf 3 15 (by kernel_rfl) rfl (fun h' e=>af H.cT rfl (e.cell hM (F.blk.cell (i:=0) rfl))) ?_;refine bF 4 31 (by kernel_rfl) rfl ?_;refine bF 5 63 (by kernel_rfl) rfl ?_;refine bf 6 127 (by kernel_rfl) rfl (fun h' e=>ak.jX underlying9 rfl rfl a rfl rfl b rfl hab (by omega)) ?_;refine bF 7 255 (by kernel_rfl) rfl ?_;refine dK 8 511 (by kernel_rfl) rfl (aj (vs:=[_,_,_]) func63 rfl H.H9 rfl (ah.aX ((hq▸hkc _ (Ext.refl _ _))))) ?_;rintro v3 h3 ⟨hv3,e3⟩;refine⟨fun _=>e3.of,?_⟩;refine bf 9 1023 (by kernel_rfl) rfl (fun h' e=>aa (off:=4) underlying27 rfl rfl H.dQ rfl) ?_;refine iF 10 2047 (by kernel_rfl) rfl (av.aE H.dQ rfl rfl (F.ax e3).blk (by first|decide|exact of_decide_eq_true rfl|(simp;done)|(simp;omega)) (cn.one hv3)) ?_;rintro _ h4 ⟨rfl,k4,x4,z4⟩;refine⟨fun hk=>(nomatch hk),?_⟩;obtain⟨na,nn,nc,rfl,_⟩:=hv3.open;have F:=F.ax e3;have F:=F.set (t:=nR s a b d) k4 x4 ⟨by rw[hw] at hv3;exact hv3,F.ms.hist,F.ms.lines,F.ms.flags⟩;refine aR (by kernel_rfl) ?_;refine xu [1,2,4,8,9] rfl ?_;refine xr func62 rfl ?_;refine xp rfl (ak.aq H.aJ H.aB rfl F.blk.row (by first|rfl|(simp;done)|(simp;omega))) ?_;refine RW.bh rfl rfl rfl (av.an H.aB rfl rfl F.res (by first|rfl|(simp;done)|(simp;omega)) (by first|decide|exact of_decide_eq_true rfl|(simp;done)|(simp;omega)) (ms1)) ?_;rintro _ gz ⟨rfl,kz,xz,zz⟩;refine xd [1,2,4,8,9] rfl ?_;refine G.bq func62 rfl (.cons (aL.bn H.aJ H.aB rfl (kz.row) (by first|rfl|(simp;done)|(simp;omega))) (.nil)) ?_;exact⟨_,rfl,F.out xz⟩
 refine aG rfl rfl (fun c1=>?_) (fun c1=>?_)
 · refine aY func62 1 [0,1,2,3,4,8,9,12] rfl ?_;refine aY func62 1 [0,1,2,3,4,8,9,12,13] rfl ?_;refine aO rfl rfl (fun c2=>?_) (fun c2=>?_)
   · refine G.bV func62 rfl ?_;refine aS 1 [0,1,2,3,4,8,9,12,13] rfl ?_;exact j1 1 _ _ ⟨rfl,rfl,rfl,rfl,rfl,trivial⟩ ⟨rfl,by rw[if_pos c1,if_pos c2]⟩
   · refine aA rfl ?_;exact j1 (-1) _ _ ⟨rfl,rfl,rfl,rfl,rfl,trivial⟩ ⟨rfl,by rw[if_pos c1,if_neg (by rw[c2];simp)]⟩
 · refine aA rfl ?_;exact j1 0 _ _ ⟨rfl,rfl,rfl,rfl,rfl,trivial⟩ ⟨rfl,by rw[if_neg c1]⟩
theorem yX (hg:jb h) (k:bE O h v s) (htx:s.text.length<=1000000) (p:Nat) (hp:s.cur=(p:Nat)) (c:Cm) :
 ah Tryz.prog 60 #[v,D9 c] h (bX fun r h'=>r= .tuple #[.int .i64 (min (dY s c) p:Nat),.int .i64 (max (dY s c) p:Nat),.bool (decide (p<=dY s c))]/\aD h h'):=by
 obtain⟨a0,h0⟩:∃a0,gK s.text s.cur c.way (cK c.n)=a0:=⟨_,rfl⟩
 obtain⟨a1,h1'⟩:∃a1,(if c.incl=true/\s.cur<=(a0:Int)/\a0<cY s.text a0 then gK s.text a0 1 1 else a0)=a1:=⟨_,rfl⟩
 have hR:dY s c=if (a1:Int)=s.cur/\c.way=3/\c.kind=5/\0<c.n then gK s.text a1 1 1 else a1:=by unfold dY;rw[h0];simp only;rw[h1']
 have hl0:a0<=s.text.length:=by rw[<-h0];exact n5 _ _ _ _
 obtain⟨xa,xn,xc,ya,yn,yc,za,zn,zc,ua,un,uc,rfl,hS⟩:=bE.get k;refine ah.of func60 rfl rfl ?_;refine xr func60 rfl ?_;refine xo rfl (av.cR rfl) ?_;rintro _ h1 ⟨rfl,k1,e1,z1⟩;refine xo rfl (av.cR rfl) ?_;rintro _ h2 ⟨rfl,k2,e2,z2⟩;have kb:br h2 h.size 27 (nw s _ _ _ _):=k1.ax e2;have kc:br h2 h1.size 31 (DN c):=k2;have e02:=e1.trans e2;have ht:=dP (hg.ax e02) s.text s.cur c.way (cK c.n) htx;have hM1:¬Array.size h2<=h.size:=by omega
 have hM2:¬Array.size h2<=h1.size:=by omega
 rw[h0] at ht;refine aS 3 [0,1,2,3,4,5,6] rfl ?_;refine au rfl ?_;refine bU (fun b=>Array.size h2<=b) (fun i=>Nat.blt i 11) (sz:=11) (listed:= #[false,false,false,false,false,false,false,false,false,false,false]) func60 H.mixed rfl rfl rfl ?_;refine bf 0 1 (by kernel_rfl) rfl (fun h' e=>aa (off:=0) underlying27 rfl rfl H.ct rfl) ?_;refine bf 1 3 (by kernel_rfl) rfl (fun h' e=>af H.cT rfl (e.cell hM1 (kb.cell (i:=0) rfl))) ?_;refine bf 2 7 (by kernel_rfl) rfl (fun h' e=>aa (off:=1) underlying27 rfl rfl H.aQ rfl) ?_;refine bf 3 15 (by kernel_rfl) rfl (fun h' e=>af H.bD rfl (e.cell hM1 (kb.cell (i:=1) rfl))) ?_;refine bf 4 31 (by kernel_rfl) rfl (fun h' e=>aa (off:=1) underlying31 rfl rfl H.aQ rfl) ?_;refine bf 5 63 (by kernel_rfl) rfl (fun h' e=>af H.bD rfl (e.cell hM2 (kc.cell (i:=1) rfl))) ?_;refine bf 6 127 (by kernel_rfl) rfl (fun h' e=>aa (off:=2) underlying31 rfl rfl H.aQ rfl) ?_;refine bf 7 255 (by kernel_rfl) rfl (fun h' e=>af H.bD rfl (e.cell hM2 (kc.cell (i:=2) rfl))) ?_;refine dK 8 511 (by kernel_rfl) rfl (aj (vs:=[_]) func59 rfl H.EN rfl (ah.aX (iu c.n))) ?_;rintro _ g3 ⟨rfl,rfl⟩;refine⟨fun _=>Ext.refl _ _,?_⟩;refine dK 9 1023 (by kernel_rfl) rfl (aj (vs:=[_,_,_,_]) func12 rfl H.ot rfl (ah.aX (ht))) ?_;rintro _ h3 ⟨rfl,e3⟩;refine⟨fun _=>e3.of,?_⟩;have kb:=kb.ax e3;have kc:=kc.ax e3;have e03:=e02.trans e3;refine bF 10 2047 (by kernel_rfl) rfl ?_;refine aR (by kernel_rfl) ?_;refine xu [0,1,2,3,4,5,6,7] rfl ?_;refine au rfl ?_;refine au rfl ?_;refine G.bu [(33,.bool (decide (c.incl=true/\s.cur<=(a0:Int)/\a0<cY s.text a0)))] [(0,_),(1,_),(2,_),(3,_),(4,_),(5,_),(6,_),(7,_)] ⟨rfl,rfl,rfl,rfl,rfl,rfl,rfl,rfl,trivial⟩ func60 rfl ?_ ?_
 · refine xp rfl (aa (off:=4) underlying31 rfl rfl H.vF rfl) ?_;refine xp rfl (af H.F1 rfl (kc.cell (i:=4) rfl)) ?_;refine aV 1 rfl ?_;refine aH (d:=20) rfl (fun c1=>?_) (fun c1=>?_)
   · refine cx 1 rfl rfl (aa (off:=1) underlying27 rfl rfl H.aQ rfl) ?_;refine xp rfl (af H.bD rfl (kb.cell (i:=1) rfl)) ?_;refine aV 3 rfl ?_;refine aH (d:=26) rfl (fun c2=>?_) (fun c2=>?_)
     · have c2:=of_decide_eq_true c2;refine cx 1 rfl rfl (aa (off:=0) underlying27 rfl rfl H.ct rfl) ?_;refine xp rfl (af H.cT rfl (kb.cell (i:=0) rfl)) ?_;refine aV 1 rfl ?_;refine xo rfl (aj (vs:=[_,_]) func17 rfl H.oq rfl (ah.aX (cP s.text a0 hl0 htx))) ?_;rintro _ h3 ⟨rfl,rfl⟩;refine aV 2 rfl ?_;refine aC rfl ?_;exact⟨rfl,az rfl (by rw[decide_eq_decide];exact⟨fun q=>⟨c1,c2,by omega⟩,fun q=>by omega⟩),rfl,rfl,rfl,rfl,rfl,rfl,rfl,rfl,trivial⟩
     · have c2:=of_decide_eq_false c2;refine aV 7 rfl ?_;refine aC rfl ?_;exact⟨rfl,az rfl (by rw[decide_eq_false (fun q=>c2 q.2.1)]),rfl,rfl,rfl,rfl,rfl,rfl,rfl,rfl,trivial⟩
   · refine aV 13 rfl ?_;refine aC rfl ?_;exact⟨rfl,az rfl (by rw[decide_eq_false (fun q=>by rw[c1] at q;exact absurd q.1 (by simp))]),rfl,rfl,rfl,rfl,rfl,rfl,rfl,rfl,trivial⟩
 · have j1:∀(u:Unit) (h':ay) (ρ':Env),Sub [(2,.pointer (some ⟨h.size,0,none⟩)),(3,.pointer (some ⟨h1.size,0,none⟩)),(7,.int .i64 (a1:Nat))] ρ'->aD h3 h'->G Tryz.prog 60 f60 [.code [1,1,1]] ρ' h' (bX fun r h'=>r= .tuple #[.int .i64 (min (dY s c) p:Nat),.int .i64 (max (dY s c) p:Nat),.bool (decide (p<=dY s c))]/\aD h h'):=by
    rintro u h4 ρ' hsub e4;refine G.sub (ρ':=[(2,.pointer (some ⟨h.size,0,none⟩)),(3,.pointer (some ⟨h1.size,0,none⟩)),(7,.int .i64 (a1:Nat))]) hsub ?_;have kb:=kb.ax e4;have kc:=kc.ax e4;have e04:=e03.trans e4;obtain⟨R,hRR⟩:∃R,dY s c=R:=⟨_,rfl⟩
    rw[hRR] at hR ⊢;refine au rfl ?_;refine au rfl ?_;refine G.bu [(56,.bool (decide ((a1:Int)=s.cur/\c.way=3/\c.kind=5/\0<c.n)))] [(2,_),(3,_),(7,_)] ⟨rfl,rfl,rfl,trivial⟩ func60 rfl ?_ ?_
    · refine cx 1 rfl rfl (aa (off:=1) underlying27 rfl rfl H.aQ rfl) ?_;refine xp rfl (af H.bD rfl (kb.cell (i:=1) rfl)) ?_;refine aV 2 rfl ?_;refine aH (d:=42) rfl (fun c1=>?_) (fun c1=>?_)
      · have c1:=of_decide_eq_true c1;refine xp rfl (aa (off:=1) underlying31 rfl rfl H.aQ rfl) ?_;refine xp rfl (af H.bD rfl (kc.cell (i:=1) rfl)) ?_;refine aV 3 rfl ?_;refine aH (d:=47) rfl (fun c2=>?_) (fun c2=>?_)
        · have c2:=of_decide_eq_true c2;refine xp rfl (aa (off:=0) underlying31 rfl rfl H.aQ rfl) ?_;refine xp rfl (af H.bD rfl (kc.cell (i:=0) rfl)) ?_;refine aV 3 rfl ?_;refine aH (d:=52) rfl (fun c3=>?_) (fun c3=>?_)
          · have c3:=of_decide_eq_true c3;refine xp rfl (aa (off:=2) underlying31 rfl rfl H.aQ rfl) ?_;refine xp rfl (af H.bD rfl (kc.cell (i:=2) rfl)) ?_;refine aV 2 rfl ?_;refine aC rfl ?_;exact⟨rfl,az rfl (by rw[decide_eq_decide];exact⟨fun q=>⟨c1,c2,c3,q⟩,fun q=>q.2.2.2⟩),rfl,rfl,rfl,trivial⟩
          · have c3:=of_decide_eq_false c3;refine aV 4 rfl ?_;refine aC rfl ?_;exact⟨rfl,az rfl (by rw[decide_eq_false (fun q=>c3 q.2.2.1)]),rfl,rfl,rfl,trivial⟩
        · have c2:=of_decide_eq_false c2;refine aV 9 rfl ?_;refine aC rfl ?_;exact⟨rfl,az rfl (by rw[decide_eq_false (fun q=>c2 q.2.1)]),rfl,rfl,rfl,trivial⟩
      · have c1:=of_decide_eq_false c1;refine aV 14 rfl ?_;refine aC rfl ?_;exact⟨rfl,az rfl (by rw[decide_eq_false (fun q=>c1 q.1)]),rfl,rfl,rfl,trivial⟩
    · have j2:∀(u:Unit) (h':ay) (ρ':Env),Sub [(2,.pointer (some ⟨h.size,0,none⟩)),(3,.pointer (some ⟨h1.size,0,none⟩)),(7,.int .i64 (R:Nat))] ρ'->aD h4 h'->G Tryz.prog 60 f60 [.code [1,1,1,1]] ρ' h' (bX fun r h'=>r= .tuple #[.int .i64 (min R p:Nat),.int .i64 (max R p:Nat),.bool (decide (p<=R))]/\aD h h'):=by
       rintro u h5 ρ' hsub e5;refine G.sub (ρ':=[(2,.pointer (some ⟨h.size,0,none⟩)),(3,.pointer (some ⟨h1.size,0,none⟩)),(7,.int .i64 (R:Nat))]) hsub ?_;have kb:=kb.ax e5;have kc:=kc.ax e5;refine au rfl ?_;refine G.ur func60 H.mixed rfl (by kernel_rfl) ?_;refine RQ.aU rfl rfl rfl rfl (bS rfl) ?_;refine RQ.aU rfl rfl rfl rfl (aa (off:=1) underlying27 rfl rfl H.aQ rfl) ?_;refine RQ.aU rfl rfl rfl rfl (af H.bD rfl (kb.cell (i:=1) rfl)) ?_;refine RQ.aU rfl rfl rfl rfl (ak.min2 rfl rfl) ?_;refine RQ.aU rfl rfl rfl rfl (bS rfl) ?_;refine RQ.aU rfl rfl rfl rfl (aa (off:=1) underlying27 rfl rfl H.aQ rfl) ?_;refine RQ.aU rfl rfl rfl rfl (af H.bD rfl (kb.cell (i:=1) rfl)) ?_;refine RQ.aU rfl rfl rfl rfl (ak.max2 rfl rfl) ?_;refine RQ.aU rfl rfl rfl rfl (bS rfl) ?_;refine RQ.aU rfl rfl rfl rfl (aa (off:=1) underlying27 rfl rfl H.aQ rfl) ?_;refine RQ.aU rfl rfl rfl rfl (af H.bD rfl (kb.cell (i:=1) rfl)) ?_;refine RQ.aU rfl rfl rfl rfl (CJ rfl rfl) ?_;refine RQ.aU rfl rfl rfl rfl (ak.assign rfl) ?_;refine RQ.aU rfl rfl rfl rfl (ak.assign rfl) ?_;refine RQ.aU rfl rfl rfl rfl (ak.assign rfl) ?_;refine iX rfl ?_;refine xu [2,3,4,5,6,7] rfl ?_;refine aK func60 rfl rfl ?_;have q1:(if s.cur<(R:Nat) then s.cur else (R:Int))=(min R p:Nat):=by rw[hp];split<;>omega
       have q2:(if (R:Int)<s.cur then s.cur else (R:Int))=(max R p:Nat):=by rw[hp];split<;>omega
       have q3:decide (s.cur<=(R:Int))=decide (p<=R):=by rw[hp,decide_eq_decide];omega
       exact⟨_,rfl,by rw[<-q1,<-q2,<-q3];rfl,e04.trans e5⟩
      refine aG rfl rfl (fun hc=>?_) (fun hc=>?_)
      · have ht:=dP (hg.ax e04) s.text (a1:Nat) 1 1 htx;rw[if_pos hc] at hR;rw[<-hR] at ht;refine G.bV func60 rfl ?_;refine xp rfl (aa (off:=0) underlying27 rfl rfl H.ct rfl) ?_;refine xp rfl (af H.cT rfl (kb.cell (i:=0) rfl)) ?_;refine aV 1 rfl ?_;refine xo rfl (aj (vs:=[_,_,_,_]) func12 rfl H.ot rfl (ah.aX (ht))) ?_;rintro _ h5 ⟨rfl,e5⟩;refine aS 1 [2,3,7,56] rfl ?_;exact j2 () _ _ ⟨rfl,rfl,rfl,trivial⟩ e5
      · rw[if_neg hc] at hR;subst hR;refine aA rfl ?_;exact j2 () _ _ ⟨rfl,rfl,rfl,trivial⟩ (Ext.refl _ _)
   refine aG rfl rfl (fun hc=>?_) (fun hc=>?_)
   · have ht:=dP (hg.ax e03) s.text (a0:Nat) 1 1 htx;rw[if_pos hc] at h1';rw[h1'] at ht;refine G.bV func60 rfl ?_;refine xp rfl (aa (off:=0) underlying27 rfl rfl H.ct rfl) ?_;refine xp rfl (af H.cT rfl (kb.cell (i:=0) rfl)) ?_;refine aV 1 rfl ?_;refine xo rfl (aj (vs:=[_,_,_,_]) func12 rfl H.ot rfl (ah.aX (ht))) ?_;rintro _ h4 ⟨rfl,e4⟩;refine aS 1 [0,1,2,3,4,5,6,7,33] rfl ?_;exact j1 () _ _ ⟨rfl,rfl,rfl,trivial⟩ e4
   · rw[if_neg hc] at h1';subst h1';refine aA rfl ?_;exact j1 () _ _ ⟨rfl,rfl,rfl,trivial⟩ (Ext.refl _ _)
theorem qD (hg:jb h) (k:bE O h v s) (hO:∀y,O y->y<h.size) (hI:MI B s) (hB:B<=10000000) (hc:cJ s) (c:Cm) :
 ah Tryz.prog 28 #[v,D9 c] h (bX fun r h'=>bE O h' r (DF s c)/\aD h h'):=by
 obtain⟨p,hp⟩:∃p:Nat,s.cur=(p:Nat):=⟨s.cur.toNat,by unfold cJ at hc;omega⟩
 have hpl:p<=s.text.length:=by unfold cJ at hc;omega
 have htx:=hI.text;have hrl:=C9 (s:=s) c;obtain⟨R,hR⟩:∃R,dY s c=R:=⟨_,rfl⟩
 rw[hR] at hrl
 have hF:DF s c=if min R p=max R p then cE s else if c.kind=4 then { eu s (min R p) (max R p) with last:=0 } else if c.kind=5 then { eu (nR s (min R p) (max R p) (decide (p<=R))) (min R p) (max R p) with last:=2 } else { nR { s with last:=0 } (min R p) (max R p) (decide (p<=R)) with cur:=(min R p:Nat) }:=by
  have hd:decide (s.cur<=(R:Int))=decide (p<=R):=by rw[hp,decide_eq_decide];omega
  unfold DF;simp only;rw[hR,hd,hp,Int.toNat_natCast]
 have hrc:∀{g:ay}{w:Value} {O2},bE O2 g w s->aD h g->ah Tryz.prog 60 #[w,D9 c] g _:=fun {g} {w} {O2} kw e=>yX (hg.ax e) kw (by omega) p hp c
 rw[hR] at hrc;rw[hF];have ha:min R p<=s.text.length:=by omega
 have hb:max R p<=s.text.length:=by omega
 have hab:min R p<=max R p:=by omega
 generalize min R p=a at *;generalize max R p=b at *;generalize decide (p<=R)=d at *;obtain⟨xa,xn,xc,ya,yn,yc,za,zn,zc,ua,un,uc,rfl,hS⟩:=bE.get k;refine ah.of func28 rfl rfl ?_;refine xr func28 rfl ?_;refine xo rfl (av.cR rfl) ?_;rintro _ h1 ⟨rfl,k1,e1,z1⟩;refine xo rfl (av.cR rfl) ?_;rintro _ h2 ⟨rfl,k2,e2,z2⟩;refine xo rfl (av.aW H.dz) ?_;rintro _ h3 ⟨rfl,k3,e3,z3⟩;have F:Ay O h h3 h.size h2.size h1.size c s _ _ _ _:=⟨bW hS hO ((e1.trans e2).trans e3) ((k1.ax e2).ax e3) k3 (Nat.le_refl _) (by omega) (by omega),k2.ax e3,by omega⟩
 refine xd [0,1,2,3,4] rfl ?_;refine xr func28 rfl ?_;refine xp rfl (ak.aq H.aJ H.aB rfl F.blk.row (by first|rfl|(simp;done)|(simp;omega))) ?_;refine xp rfl (ak.aq H.lU H.iR rfl F.cmd.row (by first|rfl|(simp;done)|(simp;omega))) ?_;refine xo rfl (aj (vs:=[_,_]) func60 rfl H.KO rfl (ah.aX (hrc F.dJ F.ext))) ?_;rintro _ g ⟨rfl,e⟩;have F:=F.ax e;refine aS 7 [0,1,2,3,4,5,6,7] rfl ?_;refine au rfl ?_;refine G.block rfl rfl ?_;refine aY func28 4 [0,1,2,3,4,5,6,7,23] rfl ?_;refine aG rfl rfl (fun c1=>?_) (fun c1=>?_)
 · rw[if_pos (by omega)];refine xr func28 rfl ?_;refine xp rfl (ak.aq H.aJ H.aB rfl F.blk.row (by first|rfl|(simp;done)|(simp;omega))) ?_;refine xo rfl (aj (vs:=[_]) func22 rfl H.iT rfl (ah.aX (bM F.dJ F.hO hI (by omega)))) ?_;rintro v3 h3 ⟨kv,e3⟩;obtain⟨_,_,_,_,_,_,_,_,_,_,_,_,rfl,hT⟩:=bE.get kv;have F:=F.ax e3;refine RW.bh rfl rfl rfl (av.an H.aB rfl rfl F.res (by first|rfl|(simp;done)|(simp;omega)) (by first|decide|exact of_decide_eq_true rfl|(simp;done)|(simp;omega)) (ms1)) ?_;rintro _ gz ⟨rfl,kz,xz,zz⟩;refine xd [0,1,2,3,4,5,6,7,23] rfl ?_;refine G.bq func28 rfl (.cons (aL.bn H.aJ H.aB rfl (kz.row) (by first|rfl|(simp;done)|(simp;omega))) (.nil)) ?_;exact⟨_,rfl,F.cy hT xz⟩
 · rw[if_neg (by omega)];refine xr func28 rfl ?_;refine xp rfl (aa (off:=0) underlying31 rfl rfl H.aQ rfl) ?_;refine xp rfl (af H.bD rfl (F.cmd.cell (i:=0) rfl)) ?_;refine aS 2 [0,1,2,3,4,5,6,7,23,29] rfl ?_;refine aG rfl rfl (fun c2=>?_) (fun c2=>?_)
   · rw[if_pos c2];refine xr func28 rfl ?_;refine xp rfl (ak.aq H.aJ H.aB rfl F.blk.row (by first|rfl|(simp;done)|(simp;omega))) ?_;refine aV 2 rfl ?_;refine xo rfl (aj (vs:=[_,_,_]) func61 rfl H.u6 rfl (ah.aX (gr F.dJ F.hO htx a b ha hb))) ?_;rintro v3 h3 ⟨kv,e3⟩;obtain⟨_,_,_,_,_,_,_,_,_,_,_,_,rfl,hT⟩:=bE.get kv;have F:=F.ax e3;refine RW.bh rfl rfl rfl (av.an H.aB rfl rfl F.blk (by first|rfl|(simp;done)|(simp;omega)) (by first|decide|exact of_decide_eq_true rfl|(simp;done)|(simp;omega)) (ms1)) ?_;rintro _ h4 ⟨rfl,k4,x4,z4⟩;have F:=F.set k4 x4 hT;refine xd [0,1,2,3,4,5,6,7,23,29] rfl ?_;refine G.bV func28 rfl ?_;refine xp rfl (aa (off:=8) underlying27 rfl rfl H.aQ rfl) ?_;refine RW.bh rfl rfl rfl (av.aE H.aQ rfl rfl F.blk (by first|decide|exact of_decide_eq_true rfl|(simp;done)|(simp;omega)) rfl) ?_;rintro _ h4 ⟨rfl,k4,x4,z4⟩;have F:=F.set (t:= { eu s a b with last:=0 }) k4 x4 (F.ms.of rfl rfl rfl rfl);refine xd [0,1,2,3,4,5,6,7,23,29] rfl ?_;refine G.aT ?_;refine xr func28 rfl ?_;refine xp rfl (ak.aq H.aJ H.aB rfl F.blk.row (by first|rfl|(simp;done)|(simp;omega))) ?_;refine RW.bh rfl rfl rfl (av.an H.aB rfl rfl F.res (by first|rfl|(simp;done)|(simp;omega)) (by first|decide|exact of_decide_eq_true rfl|(simp;done)|(simp;omega)) (ms1)) ?_;rintro _ gz ⟨rfl,kz,xz,zz⟩;refine xd [0,1,2,3,4,5,6,7,23,29] rfl ?_;refine G.bq func28 rfl (.cons (aL.bn H.aJ H.aB rfl (kz.row) (by first|rfl|(simp;done)|(simp;omega))) (.nil)) ?_;exact⟨_,rfl,F.out xz⟩
   · rw[if_neg c2];refine xr func28 rfl ?_;refine xp rfl (aa (off:=0) underlying31 rfl rfl H.aQ rfl) ?_;refine xp rfl (af H.bD rfl (F.cmd.cell (i:=0) rfl)) ?_;refine aS 2 [0,1,2,3,4,5,6,7,23,29,38] rfl ?_;refine aG rfl rfl (fun c3=>?_) (fun c3=>?_)
     · rw[if_pos c3];refine xr func28 rfl ?_;refine xp rfl (ak.aq H.aJ H.aB rfl F.blk.row (by first|rfl|(simp;done)|(simp;omega))) ?_;refine aV 3 rfl ?_;refine xo rfl (aj (vs:=[_,_,_,_]) func62 rfl H.Jh rfl (ah.aX (tN F.dJ F.hO hI (by omega) a b hab hb d))) ?_;rintro v3 h3 ⟨kv,e3⟩;have F:=F.ax e3;refine aV 2 rfl ?_;refine xo rfl (aj (vs:=[_,_,_]) func61 rfl H.u6 rfl (ah.aX (gr kv F.hO htx a b ha hb))) ?_;rintro v4 h4 ⟨kw,e4⟩;obtain⟨_,_,_,_,_,_,_,_,_,_,_,_,rfl,hT⟩:=bE.get kw;have F:=F.ax e4;refine RW.bh rfl rfl rfl (av.an H.aB rfl rfl F.blk (by first|rfl|(simp;done)|(simp;omega)) (by first|decide|exact of_decide_eq_true rfl|(simp;done)|(simp;omega)) (ms1)) ?_;rintro _ h5 ⟨rfl,k5,x5,z5⟩;have F:=F.set k5 x5 hT;refine xd [0,1,2,3,4,5,6,7,23,29,38] rfl ?_;refine G.bV func28 rfl ?_;refine xp rfl (aa (off:=8) underlying27 rfl rfl H.aQ rfl) ?_;refine RW.bh rfl rfl rfl (av.aE H.aQ rfl rfl F.blk (by first|decide|exact of_decide_eq_true rfl|(simp;done)|(simp;omega)) rfl) ?_;rintro _ h4 ⟨rfl,k4,x4,z4⟩;have F:=F.set (t:= { eu (nR s a b d) a b with last:=2 }) k4 x4 (F.ms.of rfl rfl rfl rfl);refine xd [0,1,2,3,4,5,6,7,23,29,38] rfl ?_;refine G.aT ?_;refine xr func28 rfl ?_;refine xp rfl (ak.aq H.aJ H.aB rfl F.blk.row (by first|rfl|(simp;done)|(simp;omega))) ?_;refine RW.bh rfl rfl rfl (av.an H.aB rfl rfl F.res (by first|rfl|(simp;done)|(simp;omega)) (by first|decide|exact of_decide_eq_true rfl|(simp;done)|(simp;omega)) (ms1)) ?_;rintro _ gz ⟨rfl,kz,xz,zz⟩;refine xd [0,1,2,3,4,5,6,7,23,29,38] rfl ?_;refine G.bq func28 rfl (.cons (aL.bn H.aJ H.aB rfl (kz.row) (by first|rfl|(simp;done)|(simp;omega))) (.nil)) ?_;exact⟨_,rfl,F.out xz⟩
     · rw[if_neg c3];have hI2:MI B { s with last:=0 }:=hI.of htx rfl rfl rfl rfl rfl rfl rfl rfl rfl rfl;refine xr func28 rfl ?_;refine xp rfl (aa (off:=8) underlying27 rfl rfl H.aQ rfl) ?_;refine RW.bh rfl rfl rfl (av.aE H.aQ rfl rfl F.blk (by first|decide|exact of_decide_eq_true rfl|(simp;done)|(simp;omega)) rfl) ?_;rintro _ h4 ⟨rfl,k4,x4,z4⟩;have F:=F.set (t:= { s with last:=0 }) k4 x4 (F.ms.of rfl rfl rfl rfl);refine xd [0,1,2,3,4,5,6,7,23,29,38] rfl ?_;refine xr func28 rfl ?_;refine xp rfl (ak.aq H.aJ H.aB rfl F.blk.row (by first|rfl|(simp;done)|(simp;omega))) ?_;refine aV 3 rfl ?_;refine xo rfl (aj (vs:=[_,_,_,_]) func62 rfl H.Jh rfl (ah.aX (tN F.dJ F.hO hI2 (by omega) a b hab hb d))) ?_;rintro v3 h3 ⟨kv,e3⟩;obtain⟨_,_,_,_,_,_,_,_,_,_,_,_,rfl,hT⟩:=bE.get kv;have F:=F.ax e3;refine RW.bh rfl rfl rfl (av.an H.aB rfl rfl F.blk (by first|rfl|(simp;done)|(simp;omega)) (by first|decide|exact of_decide_eq_true rfl|(simp;done)|(simp;omega)) (ms1)) ?_;rintro _ h4 ⟨rfl,k4,x4,z4⟩;have F:=F.set k4 x4 hT;refine xd [0,1,2,3,4,5,6,7,23,29,38] rfl ?_;refine G.bV func28 rfl ?_;refine cx 1 rfl rfl (aa (off:=1) underlying27 rfl rfl H.aQ rfl) ?_;refine RW.bh rfl rfl rfl (av.aE H.aQ rfl rfl F.blk (by first|decide|exact of_decide_eq_true rfl|(simp;done)|(simp;omega)) rfl) ?_;rintro _ h4 ⟨rfl,k4,x4,z4⟩;have F:=F.set (t:= { nR { s with last:=0 } a b d with cur:=(a:Nat) }) k4 x4 (F.ms.of rfl rfl rfl rfl);refine xd [0,1,2,3,4,5,6,7,23,29,38] rfl ?_;refine G.aT ?_;refine xr func28 rfl ?_;refine xp rfl (ak.aq H.aJ H.aB rfl F.blk.row (by first|rfl|(simp;done)|(simp;omega))) ?_;refine RW.bh rfl rfl rfl (av.an H.aB rfl rfl F.res (by first|rfl|(simp;done)|(simp;omega)) (by first|decide|exact of_decide_eq_true rfl|(simp;done)|(simp;omega)) (ms1)) ?_;rintro _ gz ⟨rfl,kz,xz,zz⟩;refine xd [0,1,2,3,4,5,6,7,23,29,38] rfl ?_;refine G.bq func28 rfl (.cons (aL.bn H.aJ H.aB rfl (kz.row) (by first|rfl|(simp;done)|(simp;omega))) (.nil)) ?_;exact⟨_,rfl,F.out xz⟩
theorem rj (k:bE O h v s) (hO:∀y,O y->y<h.size) (hI:MI B s) (hB:B<=10000000) (hc:cJ s) (c:Cm) :
 ah Tryz.prog 29 #[v,D9 c] h (bX fun r h'=>bE O h' r (qz s c)/\aD h h'):=by
 obtain⟨p,hp⟩:∃p:Nat,s.cur=(p:Nat):=⟨s.cur.toNat,by unfold cJ at hc;omega⟩
 have hpl:p<=s.text.length:=by unfold cJ at hc;omega
 have htx:=hI.text;have hrn:=hI.ringn;have hbs:=aZ s.text;have q0:=eO s.text p;have q1:=ig hpl;obtain⟨N,hN⟩:∃N:Nat,cK c.n=(N:Nat):=⟨(cK c.n).toNat,by unfold cK;omega⟩
 have hN1:N<=1000:=by unfold cK at hN;omega
 have h2':=qA (s:=s.text) (N-1) _ q1.2
 have hF0:qz s c=(let a:=bk s.text p;let b:=gV s.text (N-1) (cY s.text p)
  if a=b/\s.text=[] then cE s
  else
   let r:=jD s.ring ((s.text.take b).drop a++[10]) 0
   if c.kind=8 then { s with last:=0,ring:=r }
   else
    let b':=if b<s.text.length then b+1 else b
    let a':=if b<s.text.length then a else if 0<a then a-1 else a
    let t:=eu { s with last:=0,ring:=r } a' b'
    { t with cur:=(bk t.text a':Nat) }):=by
  unfold qz;rw[hp,Int.toNat_natCast,hN,Int.toNat_natCast]
 rw[hF0];simp only;have hL0:∀i b:Nat,1<=i->True:=fun _ _ _=>trivial
 obtain⟨xa,xn,xc,ya,yn,yc,za,zn,zc,ua,un,uc,rfl,hS⟩:=bE.get k;refine ah.of func29 rfl rfl ?_;refine xr func29 rfl ?_;refine xo rfl (av.cR rfl) ?_;rintro _ h1 ⟨rfl,k1,e1,z1⟩;refine xo rfl (av.cR rfl) ?_;rintro _ h2 ⟨rfl,k2,e2,z2⟩;refine xo rfl (av.aW H.dz) ?_;rintro _ h3 ⟨rfl,k3,e3,z3⟩;have F:Ay O h h3 h.size h2.size h1.size c s _ _ _ _:=⟨bW hS hO ((e1.trans e2).trans e3) ((k1.ax e2).ax e3) k3 (Nat.le_refl _) (by omega) (by omega),k2.ax e3,by omega⟩
 have hM:¬Array.size h3<=h.size:=by omega
 have c1':cellAt h3 ⟨h.size,0+1,none⟩=some (.int .i64 (p:Nat)):=hp▸F.blk.cell (i:=1) rfl;refine xd [0,1,2,3,4] rfl ?_;refine au rfl ?_;refine bU (fun b=>Array.size h3<=b) (fun i=>Nat.blt i 12) (sz:=12) (listed:= #[false,false,false,false,false,false,false,false,false,false,false,false]) func29 H.mixed rfl rfl rfl ?_;refine bf 0 1 (by kernel_rfl) rfl (fun h' e=>aa (off:=0) underlying27 rfl rfl H.ct rfl) ?_;refine bf 1 3 (by kernel_rfl) rfl (fun h' e=>af H.cT rfl (e.cell hM (F.blk.cell (i:=0) rfl))) ?_;refine bf 2 7 (by kernel_rfl) rfl (fun h' e=>aa (off:=1) underlying27 rfl rfl H.aQ rfl) ?_;refine bf 3 15 (by kernel_rfl) rfl (fun h' e=>af H.bD rfl (e.cell hM c1')) ?_;refine bf 5 47 (by kernel_rfl) rfl (fun h' e=>aa (off:=0) underlying27 rfl rfl H.ct rfl) ?_;refine bf 6 111 (by kernel_rfl) rfl (fun h' e=>af H.cT rfl (e.cell hM (F.blk.cell (i:=0) rfl))) ?_;refine bf 7 239 (by kernel_rfl) rfl (fun h' e=>aa (off:=1) underlying27 rfl rfl H.aQ rfl) ?_;refine bf 8 495 (by kernel_rfl) rfl (fun h' e=>af H.bD rfl (e.cell hM c1')) ?_;refine dK 4 511 (by kernel_rfl) rfl (aj (vs:=[_,_]) func18 rfl H.pM rfl (ah.aX (cz s.text p hpl (by omega)))) ?_;rintro _ h3 ⟨rfl,rfl⟩;refine⟨fun _=>Ext.refl _ _,?_⟩;refine dK 9 1023 (by kernel_rfl) rfl (aj (vs:=[_,_]) func17 rfl H.oq rfl (ah.aX (cP s.text p hpl (by omega)))) ?_;rintro _ h3 ⟨rfl,rfl⟩;refine⟨fun _=>Ext.refl _ _,?_⟩;generalize hA:bk s.text p=A at *;generalize hE:cY s.text p=E at *;generalize hT:gV s.text (N-1) E=T at *;refine bF 10 2047 (by kernel_rfl) rfl ?_;refine bF 11 4095 (by kernel_rfl) rfl ?_;refine aR (by kernel_rfl) ?_;refine xu [0,1,2,3,4,5,6] rfl ?_;refine au rfl ?_;refine aY func29 1 [0,1,2,3,4,5,6,7] rfl ?_;refine G.block rfl rfl ?_;refine bT (σ:=Nat×Nat) (fun w=>[(2,.pointer (some ⟨h.size,0,none⟩)),(3,.pointer (some ⟨h1.size,0,none⟩)),(4,.pointer (some ⟨h2.size,0,none⟩)),(5,.int .i64 (A:Nat)),(6,.int .i64 (w.2:Nat)),(7,.int .i64 (w.1:Nat))]) (fun w g=>g=h3/\gV s.text (N-w.1) w.2=T/\1<=w.1/\w.1<=N+1/\w.2<=s.text.length) (fun w=>N+1-w.1) ((1,E)) rfl ⟨rfl,rfl,rfl,rfl,rfl,rfl,trivial⟩ ⟨rfl,hT,Nat.le_refl _,by show 1<=N+1;omega,q1.2⟩ ?_;rintro⟨i,b⟩ h3 ⟨hg,hl,hi1,hiN,hb⟩ ih
 try dsimp only
 dsimp only at hg hl hi1 hiN hb;subst hg;refine au rfl ?_;refine au rfl ?_;refine G.bu [(29,.bool (decide (i<N/\b<s.text.length)))] [(2,_),(3,_),(4,_),(5,_),(6,_),(7,_)] ⟨rfl,rfl,rfl,rfl,rfl,rfl,trivial⟩ func29 rfl ?_ ?_
 · refine cx 1 rfl rfl (aa (off:=2) underlying31 rfl rfl H.aQ rfl) ?_;refine xp rfl (af H.bD rfl (F.cmd.cell (i:=2) rfl)) ?_;refine xo rfl (aj (vs:=[_]) func59 rfl H.EN rfl (ah.aX (iu c.n))) ?_;rintro _ h3 ⟨rfl,rfl⟩;rw[hN];refine aV 2 rfl ?_;refine aH (d:=23) rfl (fun c1=>?_) (fun c1=>?_)
   · have c1:=of_decide_eq_true c1;refine cx 1 rfl rfl (aa (off:=0) underlying27 rfl rfl H.ct rfl) ?_;refine xp rfl (af H.cT rfl (F.blk.cell (i:=0) rfl)) ?_;refine xp rfl (ak.bp underlying9 rfl) ?_;refine aV 2 rfl ?_;refine aC rfl ?_;exact⟨rfl,az rfl (by rw[decide_eq_decide];omega),rfl,rfl,rfl,rfl,rfl,rfl,trivial⟩
   · have c1:=of_decide_eq_false c1;refine aV 6 rfl ?_;refine aC rfl ?_;exact⟨rfl,az rfl (by rw[decide_eq_false];omega),rfl,rfl,rfl,rfl,rfl,rfl,trivial⟩
 · refine aG rfl rfl (fun hcnd=>?_) (fun hcnd=>?_)
   · have hen:=ig (s:=s.text) (a:=b+1) (by omega);obtain⟨m,hm⟩:∃m,N-i=m+1:=⟨N-i-1,by omega⟩
     rw[hm,gV,if_pos hcnd.2,show m=N-(i+1) by omega] at hl;refine aA rfl ?_;refine au rfl ?_;refine G.block rfl rfl ?_;refine G.bV func29 rfl ?_;refine xp rfl (aa (off:=0) underlying27 rfl rfl H.ct rfl) ?_;refine xp rfl (af H.cT rfl (F.blk.cell (i:=0) rfl)) ?_;refine cx 1 rfl rfl (ak.bL rfl rfl ⟨by omega,by omega⟩) ?_;rw[show ((b:Nat):Int)+1=((b+1:Nat):Int) by omega];refine xo rfl (aj (vs:=[_,_]) func17 rfl H.oq rfl (ah.aX (cP s.text (b+1) (by omega) (by omega)))) ?_;rintro _ h3 ⟨rfl,rfl⟩;refine aS 1 [2,3,4,5,6,7,29] rfl ?_;refine G.aT ?_;refine G.bV func29 rfl ?_;refine cx 1 rfl rfl (ak.bL rfl rfl ⟨by omega,by omega⟩) ?_;refine aS 1 [2,3,4,5,6,7,29] rfl ?_;exact ih (i+1,cY s.text (b+1)) _ _ ⟨rfl,rfl,rfl,rfl,rfl,rfl,trivial⟩ ⟨rfl,hl,by show 1<=i+1;omega,by show i+1<=N+1;omega,hen.2⟩ (by show N+1-(i+1)<N+1-i;omega)
   · have hbT:b=T:=by
      rw[<-hl];cases hq:N-i with
      |zero=>rfl
      |succ m=>rw[gV,if_neg (fun q=>hcnd ⟨by omega,q⟩)]
     subst hbT;refine bN rfl rfl ?_;refine au rfl ?_;refine au rfl ?_;refine G.bu [(45,.bool (decide (A=b/\s.text=[])))] [(2,_),(3,_),(4,_),(5,_),(6,_),(7,_),(29,_)] ⟨rfl,rfl,rfl,rfl,rfl,rfl,rfl,trivial⟩ func29 rfl ?_ ?_
     · refine aV 4 rfl ?_;refine aH (d:=40) rfl (fun c1=>?_) (fun c1=>?_)
       · have c1:=of_decide_eq_true c1;refine xp rfl (aa (off:=0) underlying27 rfl rfl H.ct rfl) ?_;refine xp rfl (af H.cT rfl (F.blk.cell (i:=0) rfl)) ?_;refine xp rfl (ak.bp underlying9 rfl) ?_;refine aV 2 rfl ?_;refine aC rfl ?_;exact⟨rfl,az rfl (by rw[decide_eq_decide];exact⟨fun q=>⟨by omega,List.length_eq_zero_iff.1 (by omega)⟩,fun q=>by rw[hbs,q.2];rfl⟩),rfl,rfl,rfl,rfl,rfl,rfl,rfl,trivial⟩
       · have c1:=of_decide_eq_false c1;refine aV 5 rfl ?_;refine aC rfl ?_;exact⟨rfl,az rfl (by rw[decide_eq_false (fun q=>c1 (by omega))]),rfl,rfl,rfl,rfl,rfl,rfl,rfl,trivial⟩
     · refine aG rfl rfl (fun hq1=>?_) (fun hq1=>?_)
       · rw[if_pos hq1];refine xr func29 rfl ?_;refine xp rfl (ak.aq H.aJ H.aB rfl F.blk.row (by first|rfl|(simp;done)|(simp;omega))) ?_;refine xo rfl (aj (vs:=[_]) func22 rfl H.iT rfl (ah.aX (bM F.dJ F.hO hI (by omega)))) ?_;rintro v3 h3 ⟨kv,e3⟩;obtain⟨_,_,_,_,_,_,_,_,_,_,_,_,rfl,hT⟩:=bE.get kv;have F:=F.ax e3;refine RW.bh rfl rfl rfl (av.an H.aB rfl rfl F.res (by first|rfl|(simp;done)|(simp;omega)) (by first|decide|exact of_decide_eq_true rfl|(simp;done)|(simp;omega)) (ms1)) ?_;rintro _ gz ⟨rfl,kz,xz,zz⟩;refine xd [2,3,4,5,6,7,29,45] rfl ?_;refine G.bq func29 rfl (.cons (aL.bn H.aJ H.aB rfl (kz.row) (by first|rfl|(simp;done)|(simp;omega))) (.nil)) ?_;exact⟨_,rfl,F.cy hT xz⟩
       · rw[if_neg hq1];have hAb:A<=b:=by omega
         have hq:=fO s.text A b hAb;have hq2:(bs s.text).extract A b++(⟨#[10]⟩:ByteArray)=bs ((s.text.take b).drop A++[10]):=by rw[hq,show (⟨#[10]⟩:ByteArray)=bs [10] from rfl,dA]
         have hpl2:((s.text.take b).drop A).length<=16384:=kg _ _ _ _ htx;obtain⟨R,hR⟩:∃R,jD s.ring ((s.text.take b).drop A++[10]) 0=R:=⟨_,rfl⟩
         have w1:(⟨#[10]⟩:ByteArray).size=1:=rfl;rw[hR];refine aA rfl ?_;refine xr func29 rfl ?_;refine xp rfl (aa (off:=8) underlying27 rfl rfl H.aQ rfl) ?_;refine RW.bh rfl rfl rfl (av.aE H.aQ rfl rfl F.blk (by first|decide|exact of_decide_eq_true rfl|(simp;done)|(simp;omega)) rfl) ?_;rintro _ h4 ⟨rfl,k4,x4,z4⟩;have F:=F.set (t:= { s with last:=0 }) k4 x4 (F.ms.of rfl rfl rfl rfl);have hM4:¬Array.size h4<=h.size:=by omega
         have hkc:=oC (h:=h4) (s:=(s.text.take b).drop A++[10]) 0 F.ms.ring F.hO (by show s.ring.length<=_;omega) (by rw[List.length_append];simp only[List.length_cons,List.length_nil];omega) (fun x hx=>Nat.le_trans (hI.ring x hx) (by omega));refine xd [2,3,4,5,6,7,29,45] rfl ?_;refine au rfl ?_;refine bU (fun b=>Array.size h4<=b) (fun i=>Nat.blt i 10) (sz:=11) (listed:= #[false,false,false,false,false,false,false,false,false,false,false]) func29 H.mixed rfl rfl rfl ?_;refine bf 0 1 (by kernel_rfl) rfl (fun h' e=>aa (off:=4) underlying27 rfl rfl H.dQ rfl) ?_;refine bf 1 3 (by kernel_rfl) rfl (fun h' e=>af H.gi rfl (e.cell hM4 (F.blk.cell (i:=4) rfl))) ?_;refine bf 2 7 (by kernel_rfl) rfl (fun h' e=>aa (off:=0) underlying27 rfl rfl H.ct rfl) ?_;refine bf 3 15 (by kernel_rfl) rfl (fun h' e=>af H.cT rfl (e.cell hM4 (F.blk.cell (i:=0) rfl))) ?_;refine bF 4 31 (by kernel_rfl) rfl ?_;refine bF 5 63 (by kernel_rfl) rfl ?_;refine bf 6 127 (by kernel_rfl) rfl (fun h' e=>ak.jX underlying9 rfl rfl A rfl rfl b rfl hAb (show b<=(bs s.text).size by omega)) ?_;refine bf 7 255 (by kernel_rfl) rfl (fun h' e=>ak.gj rfl rfl (by rw[hq,aZ];omega)) ?_;refine dK 8 511 (by kernel_rfl) rfl (aj (vs:=[_,_,_]) func63 rfl H.H9 rfl (ah.aX ((hq2▸hkc)))) ?_;rintro v5 h5 ⟨hv5,e5⟩;refine⟨fun _=>e5.of,?_⟩;refine bf 9 1023 (by kernel_rfl) rfl (fun h' e=>aa (off:=4) underlying27 rfl rfl H.dQ rfl) ?_;refine iF 10 2047 (by kernel_rfl) rfl (av.aE H.dQ rfl rfl (F.ax e5).blk (by first|decide|exact of_decide_eq_true rfl|(simp;done)|(simp;omega)) (cn.one hv5)) ?_;rintro _ h6 ⟨rfl,k6,x6,z6⟩;refine⟨fun hk=>(nomatch hk),?_⟩;obtain⟨na,nn,nc,rfl,_⟩:=hv5.open;have F:=F.ax e5;have F:=F.set (t:= { s with last:=0,ring:=R }) k6 x6 ⟨by rw[<-hR];exact hv5,F.ms.hist,F.ms.lines,F.ms.flags⟩;refine aR (by kernel_rfl) ?_;refine xu [2,3,4,5,6,7,29,45] rfl ?_;refine au rfl ?_;refine xr func29 rfl ?_;refine xp rfl (aa (off:=0) underlying31 rfl rfl H.aQ rfl) ?_;refine xp rfl (af H.bD rfl (F.cmd.cell (i:=0) rfl)) ?_;refine aS 1 [2,3,4,5,6,7,29,45,61] rfl ?_;refine aG rfl rfl (fun hk8=>?_) (fun hk8=>?_)
         · rw[if_pos hk8];refine xr func29 rfl ?_;refine xp rfl (ak.aq H.aJ H.aB rfl F.blk.row (by first|rfl|(simp;done)|(simp;omega))) ?_;refine RW.bh rfl rfl rfl (av.an H.aB rfl rfl F.res (by first|rfl|(simp;done)|(simp;omega)) (by first|decide|exact of_decide_eq_true rfl|(simp;done)|(simp;omega)) (ms1)) ?_;rintro _ gz ⟨rfl,kz,xz,zz⟩;refine xd [2,3,4,5,6,7,29,45,61] rfl ?_;refine G.bq func29 rfl (.cons (aL.bn H.aJ H.aB rfl (kz.row) (by first|rfl|(simp;done)|(simp;omega))) (.nil)) ?_;exact⟨_,rfl,F.out xz⟩
         · rw[if_neg hk8];refine aA rfl ?_;refine au rfl ?_;refine bB func29 1 rfl ?_;refine xp rfl (aa (off:=0) underlying27 rfl rfl H.ct rfl) ?_;refine xp rfl (af H.cT rfl (F.blk.cell (i:=0) rfl)) ?_;refine xp rfl (ak.bp underlying9 rfl) ?_;refine aS 1 [2,3,4,5,6,7,29,45,61,67] rfl ?_;refine aG rfl rfl (fun hbl=>?_) (fun hbl=>?_)
           · have hbl:(b:Int)<((bs s.text).size:Nat):=hbl;have hbl':b<s.text.length:=by omega
             rw[if_pos hbl',if_pos hbl'];refine G.bV func29 rfl ?_;refine cx 1 rfl rfl (ak.bL rfl rfl ⟨by omega,by omega⟩) ?_;refine aS 1 [2,3,4,5,6,7,29,45,61,67] rfl ?_;refine xr func29 rfl ?_;rw[show ((b:Nat):Int)+1=((b+1:Nat):Int) by omega];refine xp rfl (ak.aq H.aJ H.aB rfl F.blk.row (by first|rfl|(simp;done)|(simp;omega))) ?_;refine aV 2 rfl ?_;refine xo rfl (aj (vs:=[_,_,_]) func61 rfl H.u6 rfl (ah.aX (gr F.dJ F.hO htx A (b+1) (by show A<=s.text.length;omega) (by show (b+1)<=s.text.length;omega)))) ?_;rintro v3 h3 ⟨kv,e3⟩;obtain⟨_,_,_,_,_,_,_,_,_,_,_,_,rfl,hT⟩:=bE.get kv;have F:=F.ax e3;refine RW.bh rfl rfl rfl (av.an H.aB rfl rfl F.blk (by first|rfl|(simp;done)|(simp;omega)) (by first|decide|exact of_decide_eq_true rfl|(simp;done)|(simp;omega)) (ms1)) ?_;rintro _ h4 ⟨rfl,k4,x4,z4⟩;have F:=F.set k4 x4 hT;have hst:=cz (h:=h4) (eu { s with last:=0,ring:=R } A (b+1)).text A (by show _<=(s.text.take A++s.text.drop (b+1)).length;rw[List.length_append,List.length_take];omega) (by show (s.text.take A++s.text.drop (b+1)).length<=_;rw[List.length_append,List.length_take,List.length_drop];omega);refine xd [2,3,4,5,6,7,29,45,61,67] rfl ?_;refine xr func29 rfl ?_;refine xp rfl (aa (off:=0) underlying27 rfl rfl H.ct rfl) ?_;refine xp rfl (af H.cT rfl (F.blk.cell (i:=0) rfl)) ?_;refine aV 1 rfl ?_;refine xo rfl (aj (vs:=[_,_]) func18 rfl H.pM rfl (ah.aX (hst))) ?_;rintro _ h4 ⟨rfl,rfl⟩;refine xp rfl (aa (off:=1) underlying27 rfl rfl H.aQ rfl) ?_;refine RW.bh rfl rfl rfl (av.aE H.aQ rfl rfl F.blk (by first|decide|exact of_decide_eq_true rfl|(simp;done)|(simp;omega)) rfl) ?_;rintro _ h4 ⟨rfl,k4,x4,z4⟩;have F:=F.set (t:= { eu { s with last:=0,ring:=R } A (b+1) with cur:=(bk (eu { s with last:=0,ring:=R } A (b+1)).text A:Nat) }) k4 x4 (F.ms.of rfl rfl rfl rfl);refine xd [2,3,4,5,6,7,29,45,61,67] rfl ?_;refine xr func29 rfl ?_;refine xp rfl (ak.aq H.aJ H.aB rfl F.blk.row (by first|rfl|(simp;done)|(simp;omega))) ?_;refine RW.bh rfl rfl rfl (av.an H.aB rfl rfl F.res (by first|rfl|(simp;done)|(simp;omega)) (by first|decide|exact of_decide_eq_true rfl|(simp;done)|(simp;omega)) (ms1)) ?_;rintro _ gz ⟨rfl,kz,xz,zz⟩;refine xd [2,3,4,5,6,7,29,45,61,67] rfl ?_;refine G.bq func29 rfl (.cons (aL.bn H.aJ H.aB rfl (kz.row) (by first|rfl|(simp;done)|(simp;omega))) (.nil)) ?_;exact⟨_,rfl,F.out xz⟩
           · have hbl:¬(b:Int)<((bs s.text).size:Nat):=hbl;have hbl':¬b<s.text.length:=by omega
             rw[if_neg hbl',if_neg hbl'];refine aY func29 2 [2,3,4,5,6,7,29,45,61,67,71] rfl ?_;refine aG rfl rfl (fun hA0=>?_) (fun hA0=>?_)
             · have hA0':0<A:=by omega
               rw[if_pos hA0'];refine G.bV func29 rfl ?_;refine cx 1 rfl rfl (ak.en rfl rfl ⟨by omega,by omega⟩) ?_;refine aS 1 [2,3,4,5,6,7,29,45,61,67,71] rfl ?_;refine xr func29 rfl ?_;rw[show ((A:Nat):Int)-1=((A-1:Nat):Int) by omega];refine xp rfl (ak.aq H.aJ H.aB rfl F.blk.row (by first|rfl|(simp;done)|(simp;omega))) ?_;refine aV 2 rfl ?_;refine xo rfl (aj (vs:=[_,_,_]) func61 rfl H.u6 rfl (ah.aX (gr F.dJ F.hO htx (A-1) b (by show (A-1)<=s.text.length;omega) (by show b<=s.text.length;omega)))) ?_;rintro v3 h3 ⟨kv,e3⟩;obtain⟨_,_,_,_,_,_,_,_,_,_,_,_,rfl,hT⟩:=bE.get kv;have F:=F.ax e3;refine RW.bh rfl rfl rfl (av.an H.aB rfl rfl F.blk (by first|rfl|(simp;done)|(simp;omega)) (by first|decide|exact of_decide_eq_true rfl|(simp;done)|(simp;omega)) (ms1)) ?_;rintro _ h4 ⟨rfl,k4,x4,z4⟩;have F:=F.set k4 x4 hT;have hst:=cz (h:=h4) (eu { s with last:=0,ring:=R } (A-1) b).text (A-1) (by show _<=(s.text.take (A-1)++s.text.drop b).length;rw[List.length_append,List.length_take];omega) (by show (s.text.take (A-1)++s.text.drop b).length<=_;rw[List.length_append,List.length_take,List.length_drop];omega);refine xd [2,3,4,5,6,7,29,45,61,67,71] rfl ?_;refine xr func29 rfl ?_;refine xp rfl (aa (off:=0) underlying27 rfl rfl H.ct rfl) ?_;refine xp rfl (af H.cT rfl (F.blk.cell (i:=0) rfl)) ?_;refine aV 1 rfl ?_;refine xo rfl (aj (vs:=[_,_]) func18 rfl H.pM rfl (ah.aX (hst))) ?_;rintro _ h4 ⟨rfl,rfl⟩;refine xp rfl (aa (off:=1) underlying27 rfl rfl H.aQ rfl) ?_;refine RW.bh rfl rfl rfl (av.aE H.aQ rfl rfl F.blk (by first|decide|exact of_decide_eq_true rfl|(simp;done)|(simp;omega)) rfl) ?_;rintro _ h4 ⟨rfl,k4,x4,z4⟩;have F:=F.set (t:= { eu { s with last:=0,ring:=R } (A-1) b with cur:=(bk (eu { s with last:=0,ring:=R } (A-1) b).text (A-1):Nat) }) k4 x4 (F.ms.of rfl rfl rfl rfl);refine xd [2,3,4,5,6,7,29,45,61,67,71] rfl ?_;refine xr func29 rfl ?_;refine xp rfl (ak.aq H.aJ H.aB rfl F.blk.row (by first|rfl|(simp;done)|(simp;omega))) ?_;refine RW.bh rfl rfl rfl (av.an H.aB rfl rfl F.res (by first|rfl|(simp;done)|(simp;omega)) (by first|decide|exact of_decide_eq_true rfl|(simp;done)|(simp;omega)) (ms1)) ?_;rintro _ gz ⟨rfl,kz,xz,zz⟩;refine xd [2,3,4,5,6,7,29,45,61,67,71] rfl ?_;refine G.bq func29 rfl (.cons (aL.bn H.aJ H.aB rfl (kz.row) (by first|rfl|(simp;done)|(simp;omega))) (.nil)) ?_;exact⟨_,rfl,F.out xz⟩
             · have hA0':¬0<A:=by omega
               rw[if_neg hA0'];refine aA rfl ?_;refine xr func29 rfl ?_;refine xp rfl (ak.aq H.aJ H.aB rfl F.blk.row (by first|rfl|(simp;done)|(simp;omega))) ?_;refine aV 2 rfl ?_;refine xo rfl (aj (vs:=[_,_,_]) func61 rfl H.u6 rfl (ah.aX (gr F.dJ F.hO htx A b (by show A<=s.text.length;omega) (by show b<=s.text.length;omega)))) ?_;rintro v3 h3 ⟨kv,e3⟩;obtain⟨_,_,_,_,_,_,_,_,_,_,_,_,rfl,hT⟩:=bE.get kv;have F:=F.ax e3;refine RW.bh rfl rfl rfl (av.an H.aB rfl rfl F.blk (by first|rfl|(simp;done)|(simp;omega)) (by first|decide|exact of_decide_eq_true rfl|(simp;done)|(simp;omega)) (ms1)) ?_;rintro _ h4 ⟨rfl,k4,x4,z4⟩;have F:=F.set k4 x4 hT;have hst:=cz (h:=h4) (eu { s with last:=0,ring:=R } A b).text A (by show _<=(s.text.take A++s.text.drop b).length;rw[List.length_append,List.length_take];omega) (by show (s.text.take A++s.text.drop b).length<=_;rw[List.length_append,List.length_take,List.length_drop];omega);refine xd [2,3,4,5,6,7,29,45,61,67,71] rfl ?_;refine xr func29 rfl ?_;refine xp rfl (aa (off:=0) underlying27 rfl rfl H.ct rfl) ?_;refine xp rfl (af H.cT rfl (F.blk.cell (i:=0) rfl)) ?_;refine aV 1 rfl ?_;refine xo rfl (aj (vs:=[_,_]) func18 rfl H.pM rfl (ah.aX (hst))) ?_;rintro _ h4 ⟨rfl,rfl⟩;refine xp rfl (aa (off:=1) underlying27 rfl rfl H.aQ rfl) ?_;refine RW.bh rfl rfl rfl (av.aE H.aQ rfl rfl F.blk (by first|decide|exact of_decide_eq_true rfl|(simp;done)|(simp;omega)) rfl) ?_;rintro _ h4 ⟨rfl,k4,x4,z4⟩;have F:=F.set (t:= { eu { s with last:=0,ring:=R } A b with cur:=(bk (eu { s with last:=0,ring:=R } A b).text A:Nat) }) k4 x4 (F.ms.of rfl rfl rfl rfl);refine xd [2,3,4,5,6,7,29,45,61,67,71] rfl ?_;refine xr func29 rfl ?_;refine xp rfl (ak.aq H.aJ H.aB rfl F.blk.row (by first|rfl|(simp;done)|(simp;omega))) ?_;refine RW.bh rfl rfl rfl (av.an H.aB rfl rfl F.res (by first|rfl|(simp;done)|(simp;omega)) (by first|decide|exact of_decide_eq_true rfl|(simp;done)|(simp;omega)) (ms1)) ?_;rintro _ gz ⟨rfl,kz,xz,zz⟩;refine xd [2,3,4,5,6,7,29,45,61,67,71] rfl ?_;refine G.bq func29 rfl (.cons (aL.bn H.aJ H.aB rfl (kz.row) (by first|rfl|(simp;done)|(simp;omega))) (.nil)) ?_;exact⟨_,rfl,F.out xz⟩
theorem sB (hg:jb h) (k:bE O h v s) (hO:∀y,O y->y<h.size) (hI:MI B s) (hB:B<=10000000) (hc:cJ s) (c:Cm) :
 ah Tryz.prog 30 #[v,D9 c] h (bX fun r h'=>bE O h' r (oZ s c)/\aD h h'):=by
 obtain⟨p,hp⟩:∃p:Nat,s.cur=(p:Nat):=⟨s.cur.toNat,by unfold cJ at hc;omega⟩
 have hpl:p<=s.text.length:=by unfold cJ at hc;omega
 have htx:=hI.text;obtain⟨xa,xn,xc,ya,yn,yc,za,zn,zc,ua,un,uc,rfl,hS⟩:=bE.get k;refine ah.of func30 rfl rfl ?_;refine xr func30 rfl ?_;refine xo rfl (av.cR rfl) ?_;rintro _ h1 ⟨rfl,k1,e1,z1⟩;refine xo rfl (av.cR rfl) ?_;rintro _ h2 ⟨rfl,k2,e2,z2⟩;refine xo rfl (av.aW H.dz) ?_;rintro _ h3 ⟨rfl,k3,e3,z3⟩;have F:Ay O h h3 h.size h2.size h1.size c s _ _ _ _:=⟨bW hS hO ((e1.trans e2).trans e3) ((k1.ax e2).ax e3) k3 (Nat.le_refl _) (by omega) (by omega),k2.ax e3,by omega⟩
 refine xd [0,1,2,3,4] rfl ?_;refine xr func30 rfl ?_;refine xp rfl (ak.aq H.aJ H.aB rfl F.blk.row (by first|rfl|(simp;done)|(simp;omega))) ?_;refine xo rfl (aj (vs:=[_]) func64 rfl H.KN rfl (ah.aX (zX F.dJ))) ?_;rintro _ g ⟨rfl,e⟩;have F:=F.ax e
 rcases hr:s.ring with _|⟨x,rr⟩
 · have hM:oZ s c=cE s:=by unfold oZ;rw[hr]
   rw[hM];refine aS 5 [0,1,2,3,4,5,6] rfl ?_;refine au rfl ?_;refine aY func30 2 [0,1,2,3,4,5,6,15] rfl ?_;refine aO rfl rfl (fun _=>?_) (fun hc=>absurd hc (by simp));refine xr func30 rfl ?_;refine xp rfl (ak.aq H.aJ H.aB rfl F.blk.row (by first|rfl|(simp;done)|(simp;omega))) ?_;refine xo rfl (aj (vs:=[_]) func22 rfl H.iT rfl (ah.aX (bM F.dJ F.hO hI (by omega)))) ?_;rintro v3 h3 ⟨kv,e3⟩;obtain⟨_,_,_,_,_,_,_,_,_,_,_,_,rfl,hT⟩:=bE.get kv;have F:=F.ax e3;refine RW.bh rfl rfl rfl (av.an H.aB rfl rfl F.res (by first|rfl|(simp;done)|(simp;omega)) (by first|decide|exact of_decide_eq_true rfl|(simp;done)|(simp;omega)) (ms1)) ?_;rintro _ gz ⟨rfl,kz,xz,zz⟩;refine xd [0,1,2,3,4,5,6,15] rfl ?_;refine G.bq func30 rfl (.cons (aL.bn H.aJ H.aB rfl (kz.row) (by first|rfl|(simp;done)|(simp;omega))) (.nil)) ?_;exact⟨_,rfl,F.cy hT xz⟩
 · have hx:x.length<=100000000:=by have:=hI.ring x (by rw[hr];simp);omega
   have hM:oZ s c=if c.kind=10/\p<cY s.text p then (if s.bells<(cW { s with cur:=(gK s.text s.cur 1 1:Nat) } x c.n 3).bells then { cW { s with cur:=(gK s.text s.cur 1 1:Nat) } x c.n 3 with cur:=s.cur } else cW { s with cur:=(gK s.text s.cur 1 1:Nat) } x c.n 3) else cW s x c.n 3:=by
    unfold oZ;rw[hr];simp only;rw[hp,Int.toNat_natCast]
   rw[hM];refine aS 5 [0,1,2,3,4,5,6] rfl ?_;refine au rfl ?_;refine aY func30 2 [0,1,2,3,4,5,6,15] rfl ?_;refine aO rfl rfl (fun hc=>absurd hc (by simp)) (fun _=>?_);have c1':cellAt g ⟨h.size,0+1,none⟩=some (.int .i64 (p:Nat)):=hp▸F.blk.cell (i:=1) rfl;have hg0:=F.ext.size;have hM1:¬Array.size g<=h.size:=by have:=F.blk.lt;omega
   have hM2:¬Array.size g<=h1.size:=by have:=F.cmd.lt;omega
   refine aA rfl ?_;refine au rfl ?_;refine au rfl ?_;refine G.lq [(30,.bool (decide (c.kind=10/\p<cY s.text p)))] [(0,_),(1,_),(2,_),(3,_),(4,_),(5,_),(6,_),(15,_)] ⟨rfl,rfl,rfl,rfl,rfl,rfl,rfl,rfl,trivial⟩ (fun b=>Array.size g<=b) (fun i=>Nat.blt i 13) (sz:=13) (listed:= #[false,false,false,false,false,false,false,false,false,false,false,false,false]) func30 H.mixed rfl rfl rfl ?_ ?_
   · refine bf 0 1 (by kernel_rfl) rfl (fun h' e=>aa (off:=0) underlying31 rfl rfl H.aQ rfl) ?_;refine bf 1 3 (by kernel_rfl) rfl (fun h' e=>af H.bD rfl (e.cell hM2 (F.cmd.cell (i:=0) rfl))) ?_;refine bF 2 7 (by kernel_rfl) rfl ?_;refine bF 3 15 (by kernel_rfl) rfl ?_;refine gG (d:=21) rfl (fun d1=>?_) (fun d1=>?_)
     · have d1:=of_decide_eq_true d1;refine bf 4 31 (by kernel_rfl) rfl (fun h' e=>aa (off:=1) underlying27 rfl rfl H.aQ rfl) ?_;refine bf 5 63 (by kernel_rfl) rfl (fun h' e=>af H.bD rfl (e.cell hM1 c1')) ?_;refine bf 6 127 (by kernel_rfl) rfl (fun h' e=>aa (off:=0) underlying27 rfl rfl H.ct rfl) ?_;refine bf 7 255 (by kernel_rfl) rfl (fun h' e=>af H.cT rfl (e.cell hM1 (F.blk.cell (i:=0) rfl))) ?_;refine bf 8 511 (by kernel_rfl) rfl (fun h' e=>aa (off:=1) underlying27 rfl rfl H.aQ rfl) ?_;refine bf 9 1023 (by kernel_rfl) rfl (fun h' e=>af H.bD rfl (e.cell hM1 c1')) ?_;refine dK 10 2047 (by kernel_rfl) rfl (aj (vs:=[_,_]) func17 rfl H.oq rfl (ah.aX (cP s.text p hpl (by omega)))) ?_;rintro _ g ⟨rfl,rfl⟩;refine⟨fun _=>Ext.refl _ _,?_⟩;refine bF 11 4095 (by kernel_rfl) rfl ?_;refine bF 12 8191 (by kernel_rfl) rfl ?_;refine aR (by kernel_rfl) ?_;exact⟨rfl,az rfl (by rw[decide_eq_decide];exact⟨fun q=>⟨d1,by omega⟩,fun q=>by omega⟩),rfl,rfl,rfl,rfl,rfl,rfl,rfl,rfl,trivial⟩
     · have d1:=of_decide_eq_false d1;refine dw 4 31 (by kernel_rfl) rfl ?_;refine dw 5 63 (by kernel_rfl) rfl ?_;refine dw 6 127 (by kernel_rfl) rfl ?_;refine dw 7 255 (by kernel_rfl) rfl ?_;refine dw 8 511 (by kernel_rfl) rfl ?_;refine dw 9 1023 (by kernel_rfl) rfl ?_;refine dw 10 2047 (by kernel_rfl) rfl ?_;refine dw 11 4095 (by kernel_rfl) rfl ?_;refine bF 12 8191 (by kernel_rfl) rfl ?_;refine aR (by kernel_rfl) ?_;exact⟨rfl,az rfl (by rw[decide_eq_false (fun q=>d1 q.1)]),rfl,rfl,rfl,rfl,rfl,rfl,rfl,rfl,trivial⟩
   · refine aG rfl rfl (fun hq=>?_) (fun hq=>?_)
     · rw[if_pos hq];have ht:=fun {g:ay}(e:aD h g)=>dP (hg.ax e) s.text s.cur 1 1 (by omega)
       obtain⟨R,hR⟩:∃R,gK s.text s.cur 1 1=R:=⟨_,rfl⟩
       have hRl:=n5 s.text s.cur 1 1;rw[hR] at ht hRl ⊢;have hI2:MI B { s with cur:=(R:Nat) }:=hI.cur _;have hc2:cJ { s with cur:=(R:Nat) }:=⟨by show (0:Int)<=(R:Nat);omega,by show ((R:Nat):Int)<=(s.text.length:Nat);omega⟩
       refine xr func30 rfl ?_;refine xp rfl (aa (off:=1) underlying27 rfl rfl H.aQ rfl) ?_;refine xp rfl (af H.bD rfl (F.blk.cell (i:=1) rfl)) ?_;refine aS 1 [0,1,2,3,4,5,6,7,15,30] rfl ?_;refine xr func30 rfl ?_;refine xp rfl (aa (off:=0) underlying27 rfl rfl H.ct rfl) ?_;refine xp rfl (af H.cT rfl (F.blk.cell (i:=0) rfl)) ?_;refine xp rfl (aa (off:=1) underlying27 rfl rfl H.aQ rfl) ?_;refine xp rfl (af H.bD rfl (F.blk.cell (i:=1) rfl)) ?_;refine xo rfl (aj (vs:=[_,_,_,_]) func12 rfl H.ot rfl (ah.aX (ht F.ext))) ?_;rintro _ g5 ⟨rfl,e5⟩;have F:=F.ax e5;refine xp rfl (aa (off:=1) underlying27 rfl rfl H.aQ rfl) ?_;refine RW.bh rfl rfl rfl (av.aE H.aQ rfl rfl F.blk (by first|decide|exact of_decide_eq_true rfl|(simp;done)|(simp;omega)) rfl) ?_;rintro _ h4 ⟨rfl,k4,x4,z4⟩;have F:=F.set (t:= { s with cur:=(R:Nat) }) k4 x4 (F.ms.of rfl rfl rfl rfl);refine xd [0,1,2,3,4,5,6,7,15,30] rfl ?_;refine xr func30 rfl ?_;refine xp rfl (aa (off:=18) underlying27 rfl rfl H.aQ rfl) ?_;refine xp rfl (af H.bD rfl (F.blk.cell (i:=18) rfl)) ?_;refine aS 1 [0,1,2,3,4,5,6,7,8,15,30] rfl ?_;refine au rfl ?_;refine xr func30 rfl ?_;refine xp rfl (ak.aq H.aJ H.aB rfl F.blk.row (by first|rfl|(simp;done)|(simp;omega))) ?_;refine cx 1 rfl rfl (aa (off:=2) underlying31 rfl rfl H.aQ rfl) ?_;refine xp rfl (af H.bD rfl (F.cmd.cell (i:=2) rfl)) ?_;refine xo rfl (aj (vs:=[_,_,_,_]) func26 rfl H.Ih rfl (ah.aX (kX F.dJ F.hO hI2 (by omega) hc2 x hx c.n 3))) ?_;rintro v6 h6 ⟨kv,e6⟩;obtain⟨_,_,_,_,_,_,_,_,_,_,_,_,rfl,hT⟩:=bE.get kv;have F:=F.ax e6;generalize cW { s with cur:=(R:Nat) } x c.n 3=t at *;refine RW.bh rfl rfl rfl (av.an H.aB rfl rfl F.blk (by first|rfl|(simp;done)|(simp;omega)) (by first|decide|exact of_decide_eq_true rfl|(simp;done)|(simp;omega)) (ms1)) ?_;rintro _ h7 ⟨rfl,k7,x7,z7⟩;refine xd [0,1,2,3,4,5,6,7,8,15,30] rfl ?_;refine xr func30 rfl ?_;refine xp rfl (aa (off:=18) underlying27 rfl rfl H.aQ rfl) ?_;have F:=F.set k7 x7 hT;refine xp rfl (af H.bD rfl (F.blk.cell (i:=18) rfl)) ?_;refine aS 2 [0,1,2,3,4,5,6,7,8,15,30,49] rfl ?_;refine aG rfl rfl (fun hbl=>?_) (fun hbl=>?_)
       · have hbl:s.bells<t.bells:=hbl;rw[if_pos hbl];refine G.bV func30 rfl ?_;refine cx 1 rfl rfl (aa (off:=1) underlying27 rfl rfl H.aQ rfl) ?_;refine RW.bh rfl rfl rfl (av.aE H.aQ rfl rfl F.blk (by first|decide|exact of_decide_eq_true rfl|(simp;done)|(simp;omega)) rfl) ?_;rintro _ h4 ⟨rfl,k4,x4,z4⟩;have F:=F.set (t:= { t with cur:=s.cur }) k4 x4 (F.ms.of rfl rfl rfl rfl);refine xd [0,1,2,3,4,5,6,7,8,15,30,49] rfl ?_;refine xr func30 rfl ?_;refine xp rfl (ak.aq H.aJ H.aB rfl F.blk.row (by first|rfl|(simp;done)|(simp;omega))) ?_;refine RW.bh rfl rfl rfl (av.an H.aB rfl rfl F.res (by first|rfl|(simp;done)|(simp;omega)) (by first|decide|exact of_decide_eq_true rfl|(simp;done)|(simp;omega)) (ms1)) ?_;rintro _ gz ⟨rfl,kz,xz,zz⟩;refine xd [0,1,2,3,4,5,6,7,8,15,30,49] rfl ?_;refine G.bq func30 rfl (.cons (aL.bn H.aJ H.aB rfl (kz.row) (by first|rfl|(simp;done)|(simp;omega))) (.nil)) ?_;exact⟨_,rfl,F.out xz⟩
       · have hbl:¬s.bells<t.bells:=hbl;rw[if_neg hbl];refine aA rfl ?_;refine xr func30 rfl ?_;refine xp rfl (ak.aq H.aJ H.aB rfl F.blk.row (by first|rfl|(simp;done)|(simp;omega))) ?_;refine RW.bh rfl rfl rfl (av.an H.aB rfl rfl F.res (by first|rfl|(simp;done)|(simp;omega)) (by first|decide|exact of_decide_eq_true rfl|(simp;done)|(simp;omega)) (ms1)) ?_;rintro _ gz ⟨rfl,kz,xz,zz⟩;refine xd [0,1,2,3,4,5,6,7,8,15,30,49] rfl ?_;refine G.bq func30 rfl (.cons (aL.bn H.aJ H.aB rfl (kz.row) (by first|rfl|(simp;done)|(simp;omega))) (.nil)) ?_;exact⟨_,rfl,F.out xz⟩
     · rw[if_neg hq];refine aA rfl ?_;refine xr func30 rfl ?_;refine xp rfl (ak.aq H.aJ H.aB rfl F.blk.row (by first|rfl|(simp;done)|(simp;omega))) ?_;refine cx 1 rfl rfl (aa (off:=2) underlying31 rfl rfl H.aQ rfl) ?_;refine xp rfl (af H.bD rfl (F.cmd.cell (i:=2) rfl)) ?_;refine xo rfl (aj (vs:=[_,_,_,_]) func26 rfl H.Ih rfl (ah.aX (kX F.dJ F.hO hI (by omega) hc x hx c.n 3))) ?_;rintro v6 h6 ⟨kv,e6⟩;obtain⟨_,_,_,_,_,_,_,_,_,_,_,_,rfl,hT⟩:=bE.get kv;have F:=F.ax e6;refine RW.bh rfl rfl rfl (av.an H.aB rfl rfl F.res (by first|rfl|(simp;done)|(simp;omega)) (by first|decide|exact of_decide_eq_true rfl|(simp;done)|(simp;omega)) (ms1)) ?_;rintro _ gz ⟨rfl,kz,xz,zz⟩;refine xd [0,1,2,3,4,5,6,15,30] rfl ?_;refine G.bq func30 rfl (.cons (aL.bn H.aJ H.aB rfl (kz.row) (by first|rfl|(simp;done)|(simp;omega))) (.nil)) ?_;exact⟨_,rfl,F.cy hT xz⟩
structure Fs (O:Nat->Prop) (h g:ay) (b:Nat) (s:MS) (rv hv lv fv:Value):Prop where
 blk:br g b 27 (nw s rv hv lv fv)
 ext:aD h g
 hb:h.size<=b
 old:∀y,O y->y<h.size
 ms:oY (fun y=>y=b\/O y) g s rv hv lv fv
section
variable {O:Nat->Prop}{h g g':ay}{b:Nat}{s t:MS}{rv hv lv fv rv' hv' lv' fv':Value}
theorem FV (hS:oY O h s rv hv lv fv) (hO:∀y,O y->y<h.size) (e:aD h g) (k1:br g b 27 (nw s rv hv lv fv)) (hb:h.size<=b):Fs O h g b s rv hv lv fv :=
 ⟨k1,e,hb,hO,hS.mv (Mv.eE e fun y hy q=>⟨fun k=>k,by rintro(rfl|k);omega;exact q k⟩)⟩
theorem Fs.ax (F:Fs O h g b s rv hv lv fv) (e:aD g g'):Fs O h g' b s rv hv lv fv:=⟨F.blk.ax e,F.ext.trans e,F.hb,F.old,F.ms.ax e⟩
theorem Fs.set (F:Fs O h g b s rv hv lv fv) (k:br g' b 27 (nw t rv' hv' lv' fv')) (x:Ext (fun y=>y=b) g g') (m:oY (fun y=>y=b\/O y) g t rv' hv' lv' fv'):Fs O h g' b t rv' hv' lv' fv' :=
 ⟨k,aD.only F.ext x F.hb,F.hb,F.old,m.mv (Mv.eE x fun y hy q=>⟨fun k=>q (.inl k),q⟩)⟩
theorem Fs.dJ (F:Fs O h g b s rv hv lv fv):bE (fun y=>y=b\/O y) g (.agg (nw s rv hv lv fv).toArray) s:=⟨_,_,_,_,rfl,F.ms⟩
theorem Fs.hO (F:Fs O h g b s rv hv lv fv):∀y,(y=b\/O y)->y<g.size:=by
 have:=F.ext.size;rintro y (rfl|k)
 · exact F.blk.lt
 · have:=F.old y k;omega
theorem Fs.weak (F:Fs O h g b s rv hv lv fv):oY O g s rv hv lv fv:=F.ms.mv (Mv.eE (Ext.refl (fun _=>False) g) fun y hy q=>⟨fun k=>k,fun k=>q (.inr k)⟩)
end
theorem Dc (k:bE O h v s) (hO:∀y,O y->y<h.size) (hI:MI B s) (hB:B<=10000000) :
 ah Tryz.prog 31 #[v] h (bX fun r h'=>bE O h' r (yZ s)/\aD h h'):=by
 have htx:=hI.text;have hrn:=hI.ringn;have hbs:=aZ s.text;obtain⟨xa,xn,xc,ya,yn,yc,za,zn,zc,ua,un,uc,rfl,hS⟩:=bE.get k;have hrl:=hS.ring.open_slice.len;refine ah.of func31 rfl rfl ?_;refine xr func31 rfl ?_;refine xo rfl (av.cR rfl) ?_;rintro _ h1 ⟨rfl,k1,e1,z1⟩;refine xo rfl (av.aW H.dz) ?_;rintro _ h2 ⟨rfl,k2,e2,z2⟩;have F:Fr O h h2 h.size h1.size s _ _ _ _:=bW hS hO (e1.trans e2) (k1.ax e2) k2 (Nat.le_refl _) (by omega) (by omega);refine xd [0,1,2] rfl ?_;refine au rfl ?_;refine au rfl ?_;refine G.bu [(33,.bool (decide (s.last≠3\/s.ring.length<2\/s.from_<0\/s.to_<s.from_\/(s.text.length:Int)<s.to_)))] [(0,_),(1,_),(2,_)] ⟨rfl,rfl,rfl,trivial⟩ func31 rfl ?_ ?_
 · refine xp rfl (aa (off:=8) underlying27 rfl rfl H.aQ rfl) ?_;refine xp rfl (af H.bD rfl (F.blk.cell (i:=8) rfl)) ?_;refine aV 2 rfl ?_;refine aH (d:=8) rfl (fun d1=>?_) (fun d1=>?_)
   · have d1:=of_decide_eq_true d1;refine aV 25 rfl ?_;refine aC rfl ?_;exact⟨rfl,az rfl (by rw[decide_eq_true (.inl d1)]),rfl,rfl,rfl,trivial⟩
   · have d1:=of_decide_eq_false d1;refine xp rfl (aa (off:=4) underlying27 rfl rfl H.dQ rfl) ?_;refine xp rfl (af H.gi rfl (F.blk.cell (i:=4) rfl)) ?_;refine xp rfl (ak.aN underlying24 rfl) ?_;refine aV 3 rfl ?_;refine aH (d:=14) rfl (fun d2=>?_) (fun d2=>?_)
     · have d2:=of_decide_eq_true d2;refine aV 19 rfl ?_;refine aC rfl ?_;exact⟨rfl,az rfl (by rw[decide_eq_true (.inr (.inl (by omega)))]),rfl,rfl,rfl,trivial⟩
     · have d2:=of_decide_eq_false d2;refine xp rfl (aa (off:=9) underlying27 rfl rfl H.aQ rfl) ?_;refine xp rfl (af H.bD rfl (F.blk.cell (i:=9) rfl)) ?_;refine aV 3 rfl ?_;refine aH (d:=19) rfl (fun d3=>?_) (fun d3=>?_)
       · have d3:=of_decide_eq_true d3;refine aV 14 rfl ?_;refine aC rfl ?_;exact⟨rfl,az rfl (by rw[decide_eq_true (.inr (.inr (.inl d3)))]),rfl,rfl,rfl,trivial⟩
       · have d3:=of_decide_eq_false d3;refine xp rfl (aa (off:=9) underlying27 rfl rfl H.aQ rfl) ?_;refine xp rfl (af H.bD rfl (F.blk.cell (i:=9) rfl)) ?_;refine xp rfl (aa (off:=10) underlying27 rfl rfl H.aQ rfl) ?_;refine xp rfl (af H.bD rfl (F.blk.cell (i:=10) rfl)) ?_;refine aV 3 rfl ?_;refine aH (d:=26) rfl (fun d4=>?_) (fun d4=>?_)
         · have d4:=of_decide_eq_true d4;refine aV 7 rfl ?_;refine aC rfl ?_;exact⟨rfl,az rfl (by rw[decide_eq_true (.inr (.inr (.inr (.inl (by omega)))))]),rfl,rfl,rfl,trivial⟩
         · have d4:=of_decide_eq_false d4;refine xp rfl (aa (off:=10) underlying27 rfl rfl H.aQ rfl) ?_;refine xp rfl (af H.bD rfl (F.blk.cell (i:=10) rfl)) ?_;refine xp rfl (aa (off:=0) underlying27 rfl rfl H.ct rfl) ?_;refine xp rfl (af H.cT rfl (F.blk.cell (i:=0) rfl)) ?_;refine xp rfl (ak.bp underlying9 rfl) ?_;refine aV 2 rfl ?_;refine aC rfl ?_;exact⟨rfl,az rfl (by rw[decide_eq_decide];exact⟨fun q=>.inr (.inr (.inr (.inr (by omega)))),fun q=>by rcases q with q|q|q|q|q;exact absurd q d1;omega;omega;omega;omega⟩),rfl,rfl,rfl,trivial⟩
 · refine aG rfl rfl (fun hq=>?_) (fun hq=>?_)
   · have hM:yZ s=cE s:=by unfold yZ;rw[if_pos hq]
     rw[hM];refine xr func31 rfl ?_;refine xp rfl (ak.aq H.aJ H.aB rfl F.blk.row (by first|rfl|(simp;done)|(simp;omega))) ?_;refine xo rfl (aj (vs:=[_]) func22 rfl H.iT rfl (ah.aX (bM F.dJ F.hO hI (by omega)))) ?_;rintro v3 h3 ⟨kv,e3⟩;obtain⟨_,_,_,_,_,_,_,_,_,_,_,_,rfl,hT⟩:=bE.get kv;have F:=F.ax e3;refine RW.bh rfl rfl rfl (av.an H.aB rfl rfl F.res (by first|rfl|(simp;done)|(simp;omega)) (by first|decide|exact of_decide_eq_true rfl|(simp;done)|(simp;omega)) (ms1)) ?_;rintro _ gz ⟨rfl,kz,xz,zz⟩;refine xd [0,1,2,33] rfl ?_;refine G.bq func31 rfl (.cons (aL.bn H.aJ H.aB rfl (kz.row) (by first|rfl|(simp;done)|(simp;omega))) (.nil)) ?_;exact⟨_,rfl,F.cy hT xz⟩
   · simp only[not_or,Int.not_lt,ne_eq,Decidable.not_not] at hq;obtain⟨i,hi⟩:∃i:Nat,s.from_=(i:Nat):=⟨s.from_.toNat,by omega⟩
     obtain⟨j,hj⟩:∃j:Nat,s.to_=(j:Nat):=⟨s.to_.toNat,by omega⟩
     have hij:i<=j:=by omega
     have hjl:j<=s.text.length:=by omega
     obtain⟨x,hx⟩:∃x,(eG s.ring).headD []=x:=⟨_,rfl⟩
     have hM:yZ s=if (cL (eu { s with ring:=eG s.ring } i j) i x).2=false then cE s else { (cL (eu { s with ring:=eG s.ring } i j) i x).1 with from_:=s.from_,to_:=(cL (eu { s with ring:=eG s.ring } i j) i x).1.cur }:=by
      unfold yZ;rw[if_neg (by omega)];simp only;rw[hi,hj,Int.toNat_natCast,Int.toNat_natCast,hx]
     rw[hM];have htn:=yz hI.ring hI.ringn;have hI1:MI B { s with ring:=eG s.ring }:=hI.ring' _ htn.1 htn.2 (Nat.le_refl _);have hI2:=iq hI1 hij
     have hcl:(eu { s with ring:=eG s.ring } i j).text.length=s.text.length-(j-i):=by
      show (s.text.take i++s.text.drop j).length=_
      rw[List.length_append,List.length_take,List.length_drop];omega
     refine aA rfl ?_;refine xr func31 rfl ?_;refine xp rfl (ak.aq H.aJ H.aB rfl F.blk.row (by first|rfl|(simp;done)|(simp;omega))) ?_;refine xo rfl (av.aW H.dz) ?_;rintro _ h3 ⟨rfl,k3,e3,z3⟩;refine RW.bh rfl rfl rfl (av.an H.aB rfl rfl k3 (by first|rfl|(simp;done)|(simp;omega)) (by first|decide|exact of_decide_eq_true rfl|(simp;done)|(simp;omega)) (ms1)) ?_;rintro _ h4 ⟨rfl,k4,x4,z4⟩;have k4:br h4 h2.size 27 (nw s _ _ _ _):=k4;have e24:aD h2 h4:=aD.only e3 x4 (Nat.le_refl _);have Y:Fs (A8 h.size h1.size O) h2 h4 h2.size s _ _ _ _:=FV F.ms F.hO e24 k4 (Nat.le_refl _);have hkt:=zO (h:=h4) Y.ms.ring Y.hO (by omega);refine xd [0,1,2,3,33] rfl ?_;refine xr func31 rfl ?_;refine xp rfl (aa (off:=4) underlying27 rfl rfl H.dQ rfl) ?_;refine xp rfl (af H.gi rfl ((F.ax Y.ext).blk.cell (i:=4) rfl)) ?_;refine xo rfl (aj (vs:=[_]) func65 rfl H.KM rfl (ah.aX (hkt))) ?_;rintro v5 h5 ⟨hv5,e5⟩;obtain⟨na,nn,nc,rfl,hsl⟩:=hv5.open;have Y:=Y.ax e5;refine xp rfl (aa (off:=4) underlying27 rfl rfl H.dQ rfl) ?_;refine RW.bh rfl rfl rfl (av.aE H.dQ rfl rfl Y.blk (by first|decide|exact of_decide_eq_true rfl|(simp;done)|(simp;omega)) rfl) ?_;rintro _ h6 ⟨rfl,k6,x6,z6⟩;have Y:=Y.set (t:= { s with ring:=eG s.ring }) k6 x6 ⟨hv5,Y.ms.hist,Y.ms.lines,Y.ms.flags⟩;have F0:=F;have F:=F.ax Y.ext;have c9:cellAt h6 ⟨h.size,0+9,none⟩=some (.int .i64 (i:Nat)):=hi▸F.blk.cell (i:=9) rfl;have c10:cellAt h6 ⟨h.size,0+10,none⟩=some (.int .i64 (j:Nat)):=hj▸F.blk.cell (i:=10) rfl;have hM1:¬Array.size h6<=h.size:=by have:=F.blk.lt;omega
     have hM2:¬Array.size h6<=h2.size:=by have:=Y.blk.lt;omega
     have hsl6:=Y.ms.ring.open_slice;have htl:(eG s.ring).length=s.ring.length:=by cases s.ring with|nil=>rfl|cons a r=>simp[eG]
     have hn6:(eG s.ring).length=nn:=hsl6.len;obtain⟨eb,eo,x',hea,_,hex,hec⟩:=hsl6.at (i:=0) (by omega);have hex:(eG s.ring)[0]? =some x':=hex;have hxx:x'=x:=by rw[<-hx];cases hq2:eG s.ring with|nil=>rw[hq2] at hex;cases hex|cons a r=>rw[hq2] at hex;cases hex;rfl
     subst hxx;have hM3:¬Array.size h6<=eb:=by have:eb<h6.size:=ck hec;omega
     have hxl:x'.length<=100000000:=by have:=htn.1 x' (List.mem_of_getElem? hex);omega
     have hcc:=gr Y.dJ Y.hO htx i j (by show i<=s.text.length;omega) hjl;have hpp:∀{g:ay}{w:Value},aD h6 g->bE (fun y=>y=h2.size\/A8 h.size h1.size O y) g w (eu { s with ring:=eG s.ring } i j)->ah Tryz.prog 58 #[w,.int .i64 (i:Nat),.string (bs x')] g _:=fun {g} {w} e kw=>kf kw (fun y hy=>by have:=Y.hO y hy;have:=e.size;omega) hI2 (by omega) i (by omega) x' hxl
     refine xd [0,1,2,3,33] rfl ?_;refine au rfl ?_;refine bU (fun b=>Array.size h6<=b) (fun i=>Nat.blt i 16) (sz:=18) (listed:= #[false,false,false,false,false,false,false,false,false,false,false,false,false,false,false,false,false,false]) func31 H.mixed rfl rfl rfl ?_;refine bf 0 1 (by kernel_rfl) rfl (fun h' e=>ak.aq H.aJ H.aB rfl (e.rowAt hM2 Y.blk.row) (by first|rfl|(simp;done)|(simp;omega))) ?_;refine bf 1 3 (by kernel_rfl) rfl (fun h' e=>aa (off:=9) underlying27 rfl rfl H.aQ rfl) ?_;refine bf 2 7 (by kernel_rfl) rfl (fun h' e=>af H.bD rfl (e.cell hM1 c9)) ?_;refine bf 3 15 (by kernel_rfl) rfl (fun h' e=>aa (off:=10) underlying27 rfl rfl H.aQ rfl) ?_;refine bf 4 31 (by kernel_rfl) rfl (fun h' e=>af H.bD rfl (e.cell hM1 c10)) ?_;refine bf 6 95 (by kernel_rfl) rfl (fun h' e=>aa (off:=9) underlying27 rfl rfl H.aQ rfl) ?_;refine bf 7 223 (by kernel_rfl) rfl (fun h' e=>af H.bD rfl (e.cell hM1 c9)) ?_;refine bf 8 479 (by kernel_rfl) rfl (fun h' e=>aa (off:=4) underlying27 rfl rfl H.dQ rfl) ?_;refine bf 9 991 (by kernel_rfl) rfl (fun h' e=>af H.gi rfl (e.cell hM2 (Y.blk.cell (i:=4) rfl))) ?_;refine bf 10 2015 (by kernel_rfl) rfl (fun h' e=>ak.aF underlying24 H.ct rfl rfl 0 rfl hea (by omega)) ?_;refine bf 11 4063 (by kernel_rfl) rfl (fun h' e=>af H.cT rfl (e.cell hM3 hec)) ?_;refine dK 5 4095 (by kernel_rfl) rfl (aj (vs:=[_,_,_]) func61 rfl H.u6 rfl (ah.aX (hcc))) ?_;rintro v7 h7 ⟨kv7,e7⟩;refine⟨fun _=>e7.of,?_⟩;refine dK 12 8191 (by kernel_rfl) rfl (aj (vs:=[_,_,_]) func58 rfl H.zi rfl (ah.aX (hpp e7 kv7))) ?_;rintro _ h8 ⟨⟨w8,rfl,kw8⟩,e8⟩;refine⟨fun _=>e8.of,?_⟩;obtain⟨_,_,_,_,_,_,_,_,_,_,_,_,rfl,hT⟩:=bE.get kw8;have Y:=(Y.ax e7).ax e8;have hfr:(cL (eu { s with ring:=eG s.ring } i j) i x').1.from_=s.from_:=by unfold cL;split<;>rfl
     generalize (cL (eu { s with ring:=eG s.ring } i j) i x')=t at *;refine bF 13 16383 (by kernel_rfl) rfl ?_;refine bF 14 32767 (by kernel_rfl) rfl ?_;refine RD.Eg 15 16 (li:= #[true,true,true,true,true,true,true,true,true,true,true,true,true,true,true,true,false,false]) (lj:= #[true,true,true,true,true,true,true,true,true,true,true,true,true,true,true,false,true,false]) rfl rfl (by kernel_rfl) rfl rfl rfl rfl rfl (ak.aX (ak.extract rfl rfl)) (av.an H.aB rfl rfl Y.blk (by first|rfl|(simp;done)|(simp;omega)) (by first|decide|exact of_decide_eq_true rfl|(simp;done)|(simp;omega)) (ms1)) rfl rfl ?_ ?_
     · rintro _ hq_ ⟨rfl,hqe_⟩;replace hqe_:=hqe_.symm;subst hqe_;refine⟨fun _=>Ext.refl _ _,?_⟩;refine iF 16 131071 (by kernel_rfl) rfl (av.an H.aB rfl rfl Y.blk (by first|rfl|(simp;done)|(simp;omega)) (by first|decide|exact of_decide_eq_true rfl|(simp;done)|(simp;omega)) (ms1)) ?_;rintro _ h9 ⟨rfl,k9,x9,z9⟩;refine⟨fun hk=>(nomatch hk),?_⟩;refine bF 17 262143 (by kernel_rfl) rfl ?_;refine aR (by kernel_rfl) ?_;refine xu [0,1,2,3,4,33] rfl ?_;refine au rfl ?_;refine aY func31 2 [0,1,2,3,4,33,58] rfl ?_;have Y:=Y.set k9 x9 hT;have F:=F0.ax Y.ext
       rcases hq2:t.2
       · rw[if_pos rfl];refine aO rfl rfl (fun _=>?_) (fun hc=>absurd hc (by simp));refine xr func31 rfl ?_;refine xp rfl (ak.aq H.aJ H.aB rfl F.blk.row (by first|rfl|(simp;done)|(simp;omega))) ?_;refine xo rfl (aj (vs:=[_]) func22 rfl H.iT rfl (ah.aX (bM F.dJ F.hO hI (by omega)))) ?_;rintro v3 h3 ⟨kv,e3⟩;obtain⟨_,_,_,_,_,_,_,_,_,_,_,_,rfl,hT⟩:=bE.get kv;have F:=F.ax e3;refine RW.bh rfl rfl rfl (av.an H.aB rfl rfl F.res (by first|rfl|(simp;done)|(simp;omega)) (by first|decide|exact of_decide_eq_true rfl|(simp;done)|(simp;omega)) (ms1)) ?_;rintro _ gz ⟨rfl,kz,xz,zz⟩;refine xd [0,1,2,3,4,33,58] rfl ?_;refine G.bq func31 rfl (.cons (aL.bn H.aJ H.aB rfl (kz.row) (by first|rfl|(simp;done)|(simp;omega))) (.nil)) ?_;exact⟨_,rfl,F.cy hT xz⟩
       · rw[if_neg (by simp)];refine aO rfl rfl (fun hc=>absurd hc (by simp)) (fun _=>?_);refine aA rfl ?_;refine xr func31 rfl ?_;refine xp rfl (aa (off:=9) underlying27 rfl rfl H.aQ rfl) ?_;refine xp rfl (af H.bD rfl (F.blk.cell (i:=9) rfl)) ?_;refine xp rfl (aa (off:=1) underlying27 rfl rfl H.aQ rfl) ?_;refine xp rfl (af H.bD rfl (Y.blk.cell (i:=1) rfl)) ?_;refine xp rfl (aa (off:=9) underlying27 rfl rfl H.aQ rfl) ?_;refine RW.bh rfl rfl rfl (av.aE H.aQ rfl rfl Y.blk (by first|decide|exact of_decide_eq_true rfl|(simp;done)|(simp;omega)) rfl) ?_;rintro _ h10 ⟨rfl,k10,x10,z10⟩;have Y:=Y.set (t:= { t.1 with from_:=s.from_ }) k10 x10 (Y.ms.of rfl rfl rfl rfl);refine xp rfl (aa (off:=10) underlying27 rfl rfl H.aQ rfl) ?_;refine RW.bh rfl rfl rfl (av.aE H.aQ rfl rfl Y.blk (by first|decide|exact of_decide_eq_true rfl|(simp;done)|(simp;omega)) rfl) ?_;rintro _ h11 ⟨rfl,k11,x11,z11⟩;have Y:=Y.set (t:= { t.1 with from_:=s.from_,to_:=t.1.cur }) k11 x11 (Y.ms.of rfl rfl rfl rfl);have F:=F0.ax Y.ext;refine xd [0,1,2,3,4,33,58] rfl ?_;refine xr func31 rfl ?_;refine xp rfl (ak.aq H.aJ H.aB rfl Y.blk.row (by first|rfl|(simp;done)|(simp;omega))) ?_;refine RW.bh rfl rfl rfl (av.an H.aB rfl rfl F.res (by first|rfl|(simp;done)|(simp;omega)) (by first|decide|exact of_decide_eq_true rfl|(simp;done)|(simp;omega)) (ms1)) ?_;rintro _ gz ⟨rfl,kz,xz,zz⟩;refine xd [0,1,2,3,4,33,58] rfl ?_;refine G.bq func31 rfl (.cons (aL.bn H.aJ H.aB rfl (kz.row) (by first|rfl|(simp;done)|(simp;omega))) (.nil)) ?_;exact⟨_,rfl,F.cy Y.weak xz⟩
     · rintro _ h9 ⟨rfl,k9,x9,z9⟩;refine⟨fun hk=>(nomatch hk),?_⟩;refine bF 15 131071 (by kernel_rfl) rfl ?_;refine bF 17 262143 (by kernel_rfl) rfl ?_;refine aR (by kernel_rfl) ?_;refine xu [0,1,2,3,4,33] rfl ?_;refine au rfl ?_;refine aY func31 2 [0,1,2,3,4,33,58] rfl ?_;have Y:=Y.set k9 x9 hT;have F:=F0.ax Y.ext
       rcases hq2:t.2
       · rw[if_pos rfl];refine aO rfl rfl (fun _=>?_) (fun hc=>absurd hc (by simp));refine xr func31 rfl ?_;refine xp rfl (ak.aq H.aJ H.aB rfl F.blk.row (by first|rfl|(simp;done)|(simp;omega))) ?_;refine xo rfl (aj (vs:=[_]) func22 rfl H.iT rfl (ah.aX (bM F.dJ F.hO hI (by omega)))) ?_;rintro v3 h3 ⟨kv,e3⟩;obtain⟨_,_,_,_,_,_,_,_,_,_,_,_,rfl,hT⟩:=bE.get kv;have F:=F.ax e3;refine RW.bh rfl rfl rfl (av.an H.aB rfl rfl F.res (by first|rfl|(simp;done)|(simp;omega)) (by first|decide|exact of_decide_eq_true rfl|(simp;done)|(simp;omega)) (ms1)) ?_;rintro _ gz ⟨rfl,kz,xz,zz⟩;refine xd [0,1,2,3,4,33,58] rfl ?_;refine G.bq func31 rfl (.cons (aL.bn H.aJ H.aB rfl (kz.row) (by first|rfl|(simp;done)|(simp;omega))) (.nil)) ?_;exact⟨_,rfl,F.cy hT xz⟩
       · rw[if_neg (by simp)];refine aO rfl rfl (fun hc=>absurd hc (by simp)) (fun _=>?_);refine aA rfl ?_;refine xr func31 rfl ?_;refine xp rfl (aa (off:=9) underlying27 rfl rfl H.aQ rfl) ?_;refine xp rfl (af H.bD rfl (F.blk.cell (i:=9) rfl)) ?_;refine xp rfl (aa (off:=1) underlying27 rfl rfl H.aQ rfl) ?_;refine xp rfl (af H.bD rfl (Y.blk.cell (i:=1) rfl)) ?_;refine xp rfl (aa (off:=9) underlying27 rfl rfl H.aQ rfl) ?_;refine RW.bh rfl rfl rfl (av.aE H.aQ rfl rfl Y.blk (by first|decide|exact of_decide_eq_true rfl|(simp;done)|(simp;omega)) rfl) ?_;rintro _ h10 ⟨rfl,k10,x10,z10⟩;have Y:=Y.set (t:= { t.1 with from_:=s.from_ }) k10 x10 (Y.ms.of rfl rfl rfl rfl);refine xp rfl (aa (off:=10) underlying27 rfl rfl H.aQ rfl) ?_;refine RW.bh rfl rfl rfl (av.aE H.aQ rfl rfl Y.blk (by first|decide|exact of_decide_eq_true rfl|(simp;done)|(simp;omega)) rfl) ?_;rintro _ h11 ⟨rfl,k11,x11,z11⟩;have Y:=Y.set (t:= { t.1 with from_:=s.from_,to_:=t.1.cur }) k11 x11 (Y.ms.of rfl rfl rfl rfl);have F:=F0.ax Y.ext;refine xd [0,1,2,3,4,33,58] rfl ?_;refine xr func31 rfl ?_;refine xp rfl (ak.aq H.aJ H.aB rfl Y.blk.row (by first|rfl|(simp;done)|(simp;omega))) ?_;refine RW.bh rfl rfl rfl (av.an H.aB rfl rfl F.res (by first|rfl|(simp;done)|(simp;omega)) (by first|decide|exact of_decide_eq_true rfl|(simp;done)|(simp;omega)) (ms1)) ?_;rintro _ gz ⟨rfl,kz,xz,zz⟩;refine xd [0,1,2,3,4,33,58] rfl ?_;refine G.bq func31 rfl (.cons (aL.bn H.aJ H.aB rfl (kz.row) (by first|rfl|(simp;done)|(simp;omega))) (.nil)) ?_;exact⟨_,rfl,F.cy Y.weak xz⟩
end
end Go.Proofs.YtiigijehmmcfgaaGreatDoor
namespace Go.Proofs
open Go.Shelf
def Tryz.zJ:Go.Shelf.Ren:=⟨fun| 148=>81| 222=>75| 223=>93| 269=>107|n=>n,fun| 9=>9| 3=>3| 4=>4| 5=>5| 146=>131| 51=>130| 46=>61|n=>n,fun|n=>n⟩
theorem Tryz.Gt:Go.Proofs.Lays.n148 Tryz.prog Tryz.zJ:= {
  mixed:=by kernel_rfl
  f148:=Tryz.func81.trans (congrArg some (by kernel_rfl))
  f222:=Tryz.func75.trans (congrArg some (by kernel_rfl))
  f223:=Tryz.func93.trans (congrArg some (by kernel_rfl))
  f269:=Tryz.func107.trans (congrArg some (by kernel_rfl))
  t3:=underlying3
  a3:=Tryz.isAgg3
  z3:=Tryz.sizeOf3
  v3:=Tryz.zeroValue3
  t4:=underlying4
  a4:=Tryz.isAgg4
  z4:=Tryz.sizeOf4
  v4:=Tryz.zeroValue4
  t5:=underlying5
  a5:=Tryz.isAgg5
  z5:=Tryz.sizeOf5
  v5:=Tryz.zeroValue5
  t9:=underlying9
  a9:=Tryz.isAgg9
  z9:=Tryz.sizeOf9
  v9:=Tryz.zeroValue9
  t46:=underlying61
  a46:=Tryz.isAgg61
  z46:=Tryz.sizeOf61
  v46:=Tryz.zeroValue61
  t51:=underlying130
  a51:=Tryz.isAgg130
  z51:=Tryz.sizeOf130
  v51:=Tryz.zeroValue130
  t146:=underlying131
  a146:=Tryz.isAgg131
  z146:=Tryz.sizeOf131
  v146:=Tryz.zeroValue131 }
open Go.RowKit Go.Lib in
theorem Tryz.strings_LastIndex (s sub:ByteArray) (hs:s.size<4611686018427387904) (w:World) :
    Calls Tryz.prog 81 #[.string s,.string sub] w fun e w'=>e= .returned (.int .i64 (Lib.lastIndex s.data.toList sub.data.toList))/\w'=w:=Any.strings_LastIndex Tryz.Gt s sub hs w
end Go.Proofs
namespace Go.Proofs.YtiigijehmmcfgaaGreatDoor
open Go.Proofs.Tryz
open Go Go.Lw
set_option maxRecDepth 20000
section
variable {h:ay}{O:Nat->Prop}{v:Value}
def Lv (h:ay) (base:Nat) (v:Value) (xs:List ByteArray):Prop:=∃oa n c,v= .slice oa n c/\Wr Value.string (fun _=>rfl) h base oa n c xs
def FO (l:List ByteArray) (s:ByteArray):List ByteArray :=
 if s=fE\/l.getLast? =some s then l else (l++[s]).drop (l.length+1-100)
theorem u7 {l:List ByteArray}{s:ByteArray}(hv:cn .str h O v l) (hl:l.length<=1000000) :
 ah Tryz.prog 90 #[v,.string s] h (bX fun r h'=>Lv h' h.size r (FO l s)/\aD h h'):=by
 obtain⟨oa,n,c,rfl,hsl⟩:=hv.open;have hn:=hsl.len;have hrow:=hsl.row;refine ah.of func90 rfl rfl ?_;refine aY func90 1 [0,1,4] rfl ?_;refine bB func90 1 rfl ?_;refine xo rfl (av.append underlying24 H.uV rfl rfl (aM.nil h h.size 9 1) (by simp[hn]) hrow (pK l) (by simp only[maxLen];omega) (by omega) (Nat.le_refl _)) ?_;rintro v1 h1 ⟨ho1,he1,-,-⟩;refine aS 1 [0,1,4,5] rfl ?_;refine au rfl ?_;refine au rfl ?_;have he1:=cO he1;rw[Nat.zero_add,List.nil_append] at ho1;obtain⟨oa1,c1,rfl,hw1⟩:=ho1.open;have hc1:=hw1.cap;have hle1:=hw1.le;unfold maxLen at hc1;refine G.bu [(24,.bool (decide (s=fE\/l.getLast? =some s)))] [(0,_),(1,_),(4,_),(5,_)] ⟨rfl,rfl,rfl,rfl,trivial⟩ func90 rfl ?_ ?_
 · refine cx 1 rfl rfl (ak.fG rfl rfl) ?_;refine aV 1 rfl ?_;refine aH (d:=10) rfl (fun hg=>?_) (fun hg=>?_)
   · refine aV 14 rfl ?_;refine aC rfl ?_;exact⟨rfl,az rfl (by simp at hg;simp[hg,fE]),rfl,rfl,rfl,rfl,trivial⟩
   · have hs:¬s=fE:=by simpa [fE] using hg
     refine cx 1 rfl rfl (ak.aN underlying24 rfl) ?_;refine aV 2 rfl ?_;refine aH (d:=14) rfl (fun hn0=>?_) (fun hn0=>?_)
     · have hn0:0<n:=by simpa using hn0
       obtain⟨x,hx⟩:∃x,l[n-1]? =some x:=⟨l[n-1],List.getElem?_eq_getElem (by omega)⟩
       obtain⟨g,ha,hg1,hlt,hcell,hfz⟩:=hw1.at (i:=n-1) (x:=.string x) (by simp[hx]);have hlast:l.getLast? =some x:=by rw[List.getLast?_eq_getElem?,hn,hx]
       refine cx 2 rfl rfl (ak.aN underlying24 rfl) ?_;refine xp rfl (ak.en rfl rfl ⟨by omega,by omega⟩) ?_;refine xp rfl (ak.aF underlying24 H.ct rfl rfl (n-1) (by omega) ha (by omega)) ?_;refine xp rfl (af H.cT rfl hcell) ?_;refine cx 1 rfl rfl (ak.fG rfl rfl) ?_;refine aV 2 rfl ?_;refine aC rfl ?_;exact⟨rfl,az rfl (by simp[hs,hlast]),rfl,rfl,rfl,rfl,trivial⟩
     · have hl0:l=[]:=List.eq_nil_of_length_eq_zero (by simp at hn0;omega);refine aV 10 rfl ?_;refine aC rfl ?_;exact⟨rfl,az rfl (by simp[hs,hl0]),rfl,rfl,rfl,rfl,trivial⟩
 · refine aG rfl rfl (fun hsame=>?_) (fun hsame=>?_)
   · refine aY func90 2 [0,1,4,5,24] rfl ?_;refine aK func90 rfl rfl ?_;have:FO l s=l:=if_pos hsame;rw[this];exact⟨_,rfl,⟨_,_,_,rfl,hw1.wr⟩,he1⟩
   · have hadd:FO l s=(l++[s]).drop (l.length+1-100):=if_neg hsame;have hp:=Ext.push (fun _=>False) h1 (.cells [Value.string s].toArray 9);have ho2:=hw1.own.ext hp (fun _ _ k=>k);refine aA rfl ?_;refine bB func90 2 rfl ?_;refine xo rfl (av.bC (us:=[_]) underlying24 H.uV rfl rfl (by decide) (by simp[Value.oneCell'])) ?_;rintro _ _ ⟨rfl,rfl⟩;refine xo rfl (av.append underlying24 H.uV rfl rfl ho2 rfl (.inr ⟨_,_,rfl,ke _ _ _⟩) (by simp[Value.oneCell']) (by simp only[maxLen];omega) (by omega) (by have:=he1.size;simp;omega)) ?_;rintro v2 h2 ⟨ho3,he3,-,-⟩;have he:=Ext.own (he1.push _) ho2 (Nat.le_refl _) he3;have ho3:aM h2 h.size 9 1 v2 (n+1) ((l++[s]).map Value.string):=by simpa using ho3
     obtain⟨oa2,c2,rfl,hw2⟩:=ho3.open;have hc2:=hw2.cap;have hle2:=hw2.le;unfold maxLen at hc2;refine aS 1 [0,1,4,5,24] rfl ?_;refine bB func90 2 rfl ?_;refine xp rfl (ak.aN underlying24 rfl) ?_;refine xp rfl (ak.en rfl rfl ⟨by omega,by omega⟩) ?_;refine xp rfl (ak.max2 rfl rfl) ?_;refine xp rfl (ak.pz underlying24 H.ct rfl rfl (n+1-100) (by split<;>omega) (by omega)) ?_;refine aS 1 [0,1,4,5,24] rfl ?_;refine aK func90 rfl rfl ?_;refine⟨_,rfl,⟨_,_,_,rfl,?_⟩,he⟩;have:=hw2.wr (h1:=fun _=>rfl).part (i:=n+1-100) (j:=n+1) (by omega) (Nat.le_refl _);rw[List.take_of_length_le (by simp;omega)] at this;rw[hadd,hn];exact this
def oB (s t:ByteArray):Int:=Lib.lastIndex s.data.toList t.data.toList
def fL (l:List ByteArray) (t:ByteArray):Nat->Option (Int×Int)
 | 0=>none
 |k+1=>if 0<=oB (l.getD k fE) t then some (k,oB (l.getD k fE) t) else fL l t k
def yy (n:Nat) (upto:Int):Nat:=if (n:Int)-1<upto then n else (upto+1).toNat
def wB (l:List ByteArray) (t:ByteArray) (upto:Int):Option (Int×Int):=if t=fE then none else fL l t (yy l.length upto)
def Fi:Option (Int×Int)->Value
 |none=>.tuple #[.int .i64 0,.int .i64 0,.bool false]
 |some (i,a)=>.tuple #[.int .i64 i,.int .i64 a,.bool true]
theorem xI (s t:ByteArray) (hs:s.size<=1000000):ah Tryz.prog 81 #[.string s,.string t] h (bX fun r h'=>r= .int .i64 (oB s t)/\h'=h) :=
 ah.sr fun w=>Tryz.strings_LastIndex s t (by omega) w
theorem zT {l:List ByteArray}{t:ByteArray}(upto:Int) (hu : -9223372036854775808<=upto/\upto<=9223372036854775807) (hv:cn .str h O v l) (hl:l.length<=1000000) (hls:∀x∈l,x.size<=1000000) :
 ah Tryz.prog 55 #[v,.string t,.int .i64 upto] h (bX fun r h'=>r=Fi (wB l t upto)/\h'=h):=by
 obtain⟨oa,n,c,rfl,hsl⟩:=hv.open;have hn:=hsl.len;refine ah.of func55 rfl rfl ?_;refine aY func55 3 [0,1,2,6,7,8] rfl ?_;refine au rfl ?_;refine bB func55 1 rfl ?_;refine xp rfl (ak.fG rfl rfl) ?_;refine xd [0,1,2,6,7,8,12] rfl ?_;refine aG rfl rfl (fun ht=>?_) (fun ht=>?_)
 · refine aY func55 3 [0,1,2,6,7,8,12] rfl ?_;refine aK func55 rfl rfl ?_;exact⟨_,rfl,by unfold wB;rw[if_pos (by exact ht)];rfl,rfl⟩
 · have hf:wB l t upto=fL l t (yy n upto):=by unfold wB;rw[if_neg (by exact ht),hn]
   have hu2:=hu.2;have hu1:=hu.1;refine aA rfl ?_;refine au rfl ?_;refine bB func55 2 rfl ?_;refine xp rfl (ak.aN underlying24 rfl) ?_;refine xp rfl (ak.en rfl rfl ⟨by omega,by omega⟩) ?_;refine xp rfl (ak.min2 rfl rfl) ?_;refine aS 1 [0,1,2,6,7,8,9,12] rfl ?_;refine G.block rfl rfl ?_;refine bT (σ:=Int) (fun i=>[(0,.slice oa n c),(1,.string t),(9,.int .i64 i)]) (fun i h'=>h'=h/\i<=(n:Int)-1/\ -9223372036854775808<=i/\fL l t (i+1).toNat=fL l t (yy n upto)) (fun i=>(i+1).toNat) ((if ((n:Int)-1)<upto then (n:Int)-1 else upto)) rfl ⟨rfl,rfl,rfl,trivial⟩ ⟨rfl,by split<;>omega,by split<;>omega,by unfold yy;split<;>congr 1;omega⟩ ?_;rintro i h1 ⟨rfl,hi,hi1,hfd⟩ ih;refine au rfl ?_;refine aY func55 2 [0,1,9,19] rfl ?_;refine aG rfl rfl (fun h0=>?_) (fun h0=>?_)
   · obtain⟨k,rfl⟩:=Int.eq_ofNat_of_zero_le h0;have hkn:k<n:=by omega
     obtain⟨b,o,x,ha,_,hx,hcell⟩:=hsl.at hkn;have hg:l.getD k fE=x:=by simp[List.getD,hx]
     have hstep:fL l t (k+1)=if 0<=oB x t then some ((k:Int),oB x t) else fL l t k:=by rw[fL,hg]
     rw[show ((k:Int)+1).toNat=k+1 from by omega,hstep] at hfd;refine aA rfl ?_;refine au rfl ?_;refine G.block rfl rfl ?_;refine bB func55 2 rfl ?_;refine xp rfl (ak.aF underlying24 H.ct rfl rfl k rfl ha hkn) ?_;refine xp rfl (af H.cT rfl hcell) ?_;refine aV 1 rfl ?_;refine xo rfl (aj (vs:=[_,_]) func81 rfl H.KI rfl (ah.aX (xI x t (hls x (List.mem_of_getElem? hx))))) ?_;rintro _ _ ⟨rfl,rfl⟩;refine aS 1 [0,1,9,10,19] rfl ?_;refine aY func55 2 [0,1,9,10,19,29] rfl ?_;refine aG rfl rfl (fun hat=>?_) (fun hat=>?_)
     · refine aY func55 5 [0,1,6,7,8,9,10,19,29] rfl ?_;refine aK func55 rfl rfl ?_;rw[if_pos hat] at hfd;exact⟨_,rfl,by rw[hf,<-hfd];rfl,rfl⟩
     · refine aA rfl ?_;refine G.aT ?_;refine G.bV func55 rfl ?_;refine cx 1 rfl rfl (ak.en rfl rfl ⟨by omega,by omega⟩) ?_;refine aS 1 [0,1,9,10,19,29] rfl ?_;rw[if_neg hat] at hfd;exact ih ((k:Int)-1) _ _ ⟨rfl,rfl,rfl,trivial⟩ ⟨rfl,by omega,by omega,by rw[<-hfd];congr 1;omega⟩ (by show ((k:Int)-1+1).toNat<((k:Int)+1).toNat;omega)
   · refine bN rfl rfl ?_;refine aY func55 3 [0,1,6,7,8,9,19] rfl ?_;refine aK func55 rfl rfl ?_;have:(i+1).toNat=0:=by omega
     rw[this] at hfd;exact⟨_,rfl,by rw[hf,<-hfd];rfl,rfl⟩
theorem Dw (l:List By) (s:By):FO (l.map bs) (bs s)=(fB l s).map bs:=by
 have hz:(bs s=fE)=(s=[]):=propext ⟨fun e=>gE (m:=[]) e,fun e=>by rw[e];rfl⟩
 have hl:((l.map bs).getLast? =some (bs s))=(l.getLast? =some s):=by
  rw[List.getLast?_map];cases l.getLast? with
  |none=>simp
  |some x=>simp only[Option.map_some,Option.some.injEq];exact propext ⟨gE,fun e=>by rw[e]⟩
 unfold FO fB;simp only[hz,hl];split
 · rfl
 · rw[List.map_drop,List.map_append,List.length_map];rfl
theorem Bq {l:List By}{s:By}(hv:cn xU h O v l) (hO:∀y,O y->y<h.size) (hl:l.length<=1000000) :
 ah Tryz.prog 90 #[v,.string (bs s)] h (bX fun r h'=>cn xU h' O r (fB l s)/\aD h h') :=
 (u7 (sx hv) (by rw[List.length_map];exact hl)).ret fun r h' ⟨hf,he⟩=>⟨by
  rw[Dw] at hf;obtain⟨oa,n,c,rfl,hw⟩:=hf;refine⟨oa,n,c,rfl,by have:=hw.sl.len;rw[List.length_map] at this;exact this,hw.sl.le,hw.sl.cap,fun i x hx=>?_⟩;obtain⟨b,o,cs,h1,h2,h3,h4⟩:=hw.sl.get i (bs x) (by rw[List.getElem?_map,hx];rfl);exact⟨b,o,cs,h1,fun k=>by have:=hO b k;omega,h3,h4⟩,he⟩
theorem Cp (l:List By) (t:By):∀n,fL (l.map bs) (bs t) n=DB l t n
 | 0=>rfl
 |n+1=>by
  have hg:(l.map bs).getD n fE=bs (l.getD n []):=by
   rw[List.getD_eq_getElem?_getD,List.getD_eq_getElem?_getD,List.getElem?_map];cases l[n]? <;>rfl
  have hla:∀x:By,oB (bs x) (bs t)=lastOf x t:=fun x=>by unfold oB lastOf;rw[ir,ir]
  rw[fL,DB,hg,hla,Cp l t n]
theorem Fj (l:List By) (t:By) (u:Int):wB (l.map bs) (bs t) u=Bu l t u:=by
 have hz:(bs t=fE)=(t=[]):=propext ⟨fun e=>gE (m:=[]) e,fun e=>by rw[e];rfl⟩;unfold wB Bu yy;rw[Cp,List.length_map];simp only[hz]
theorem zU {l:List By}{t:By}(upto:Int) (hu : -9223372036854775808<=upto/\upto<=9223372036854775807) (hv:cn xU h O v l) (hl:l.length<=1000000) (hls:∀x∈l,x.length<=1000000) :
 ah Tryz.prog 55 #[v,.string (bs t),.int .i64 upto] h (bX fun r h'=>r=Fi (Bu l t upto)/\h'=h):=by
 rw[<-Fj];exact zT upto hu (sx hv) (by rw[List.length_map];exact hl) (fun x hx=>by obtain⟨y,hy,rfl⟩:=List.mem_map.1 hx;rw[aZ];exact hls y hy)
def cM (s:uW):List Value:=[.int .i64 s.1,.int .i64 s.2]
theorem fM (s:uW):∀v∈cM s,v.oneCell'=true:=fun v hv=>by simp[cM] at hv;rcases hv with rfl|rfl<;>rfl
def F5 (i:Int):Prop:= -9223372036854775808<=i/\i<=9223372036854775807
theorem rV (hg:jb h) (s:uW) (n:Int) (hs:F5 s.2):ah Tryz.prog 128 #[.agg (cM s).toArray,.int .i64 n] h (bX fun r h'=>r= .agg (cM (jr s n)).toArray/\aD h h'):=by
 obtain⟨m,d⟩:=s;obtain⟨hd1,hd2⟩:=hs;simp only at hd1 hd2;refine ah.of func128 rfl rfl ?_;refine xr func128 rfl ?_;refine xo rfl (av.cR rfl) ?_;rintro _ h1 ⟨rfl,k1,e1,z1⟩;refine xo rfl (av.aW H.wO) ?_;rintro _ h2 ⟨rfl,k2,e2,z2⟩;have k1:br h1 h.size 87 [.int .i64 m,.int .i64 d]:=k1;have k2:br h2 h1.size 87 [.int .i64 0,.int .i64 0]:=k2;have e02:=e1.trans e2;have q1:=k1.ax e2;refine xd [0,1,2,4] rfl ?_;refine xr func128 rfl ?_;refine xp rfl (aa (off:=0) underlying87 rfl rfl H.aQ rfl) ?_;refine xp rfl (af H.bD rfl (q1.cell (i:=0) rfl)) ?_;refine aV 1 rfl ?_;refine xo rfl (aj (vs:=[_,_]) func143 rfl H.Hr rfl (ah.aX (ue (hg.ax e02) m n))) ?_;rintro _ h3 ⟨⟨x,rfl,hx⟩,e3⟩;refine aV 3 rfl ?_;refine xo rfl (av.aW H.yu) ?_;rintro _ h4 ⟨rfl,k4,e4,z4⟩;refine RW.bh rfl rfl rfl (av.an H.jW rfl rfl k4 (by first|rfl|(simp;done)|(simp;omega)) (by first|decide|exact of_decide_eq_true rfl|(simp;done)|(simp;omega)) (pE x)) ?_;rintro _ h5 ⟨rfl,k5,x5,z5⟩;have k5:br h5 h3.size 155 (eT x):=k5;have e45:aD h3 h5:=e4.only x5 (Nat.le_refl _);have e25:=e3.trans e45;have e05:=e02.trans e25;have s1:=q1.ax e25;have s2:=k2.ax e25;have hz1:=e1.size;have hz2:=e2.size;have hz5:=e25.size;have hne:¬h.size=h1.size:=by omega
 have hout:∀{g:ay},Ext (fun b=>b=h1.size) h5 g->aD h g:=fun e=>aD.only e05 e hz1
 rcases hf:jm m n with _|p
 · have haf:jr (m,d) n=(m,d):=by unfold jr;rw[hf]
   refine aS 1 [0,1,2,4,5,6] rfl ?_;refine au rfl ?_;refine G.block rfl rfl ?_;refine au rfl ?_;refine aY func128 3 [0,1,2,4,5,6,14] rfl ?_;refine aO rfl rfl (fun _=>?_) (fun hc=>absurd hc (by simp));refine aA rfl ?_;refine aO rfl rfl (fun _=>?_) (fun hc=>absurd hc (by simp));refine xr func128 rfl ?_;refine xp rfl (ak.aq H.jq H.eB rfl s1.row (by first|rfl|(simp;done)|(simp;omega))) ?_;refine RW.bh rfl rfl rfl (av.an H.eB rfl rfl s2 (by first|rfl|(simp;done)|(simp;omega)) (by first|decide|exact of_decide_eq_true rfl|(simp;done)|(simp;omega)) (by first|decide|simp[Value.oneCell'])) ?_;rintro _ h6 ⟨rfl,k6,x6,z6⟩;refine xd [0,1,2,4,5,6,14] rfl ?_;have k6:br h6 h1.size 87 (cM (m,d)):=k6;refine G.bq func128 rfl (.cons (aL.bn H.jq H.eB rfl (k6.row) (by first|rfl|(simp;done)|(simp;omega))) (.nil)) ?_;exact⟨_,rfl,by rw[haf];rfl,hout x6⟩
 · have hp:=hx p hf;obtain⟨hp1,hp2⟩:=Prod.mk.inj hp;have haf:jr (m,d) n=if x.2.2=0 then (m,d) else if x.2.2=1 then (1,0) else if x.2.2=3 then (2,min (max d 0) 16383+1) else if x.2.2=4/\1<d then (m,d-1) else (0,0):=by unfold jr;rw[hf,<-hp]
   refine aS 1 [0,1,2,4,5,6] rfl ?_;refine au rfl ?_;refine G.block rfl rfl ?_;refine au rfl ?_;refine aY func128 3 [0,1,2,4,5,6,14] rfl ?_;refine aO rfl rfl (fun hc=>absurd hc (by simp)) (fun _=>?_);refine G.bV func128 rfl ?_;refine xp rfl (aa (off:=2) underlying155 rfl rfl H.aQ rfl) ?_;refine xp rfl (af H.bD rfl (k5.cell (i:=2) rfl)) ?_;refine aS 2 [0,1,2,4,5,6,14] rfl ?_;refine aG rfl rfl (fun h0=>?_) (fun h0=>?_)
   · rw[if_pos h0] at haf;refine xr func128 rfl ?_;refine xp rfl (ak.aq H.jq H.eB rfl s1.row (by first|rfl|(simp;done)|(simp;omega))) ?_;refine RW.bh rfl rfl rfl (av.an H.eB rfl rfl s2 (by first|rfl|(simp;done)|(simp;omega)) (by first|decide|exact of_decide_eq_true rfl|(simp;done)|(simp;omega)) (by first|decide|simp[Value.oneCell'])) ?_;rintro _ h6 ⟨rfl,k6,x6,z6⟩;refine xd [0,1,2,4,5,6,14] rfl ?_;have k6:br h6 h1.size 87 (cM (m,d)):=k6;refine G.bq func128 rfl (.cons (aL.bn H.jq H.eB rfl (k6.row) (by first|rfl|(simp;done)|(simp;omega))) (.nil)) ?_;exact⟨_,rfl,by rw[haf];rfl,hout x6⟩
   · rw[if_neg h0] at haf;refine xr func128 rfl ?_;refine xp rfl (aa (off:=2) underlying155 rfl rfl H.aQ rfl) ?_;refine xp rfl (af H.bD rfl (k5.cell (i:=2) rfl)) ?_;refine aS 2 [0,1,2,4,5,6,14,21] rfl ?_;refine aG rfl rfl (fun h1'=>?_) (fun h1'=>?_)
     · rw[if_pos h1'] at haf;refine xr func128 rfl ?_;refine xp rfl (aP (H.Iy _) rfl) ?_;refine RW.bh rfl rfl rfl (av.an H.eB rfl rfl s2 (by first|rfl|(simp;done)|(simp;omega)) (by first|decide|exact of_decide_eq_true rfl|(simp;done)|(simp;omega)) (by first|decide|simp[Value.oneCell'])) ?_;rintro _ h6 ⟨rfl,k6,x6,z6⟩;refine xd [0,1,2,4,5,6,14,21] rfl ?_;have k6:br h6 h1.size 87 (cM (1,0)):=k6;refine G.bq func128 rfl (.cons (aL.bn H.jq H.eB rfl (k6.row) (by first|rfl|(simp;done)|(simp;omega))) (.nil)) ?_;exact⟨_,rfl,by rw[haf];rfl,hout x6⟩
     · rw[if_neg h1'] at haf;refine xr func128 rfl ?_;refine xp rfl (aa (off:=2) underlying155 rfl rfl H.aQ rfl) ?_;refine xp rfl (af H.bD rfl (k5.cell (i:=2) rfl)) ?_;refine aS 2 [0,1,2,4,5,6,14,21,26] rfl ?_;refine aG rfl rfl (fun h3'=>?_) (fun h3'=>?_)
       · rw[if_pos h3'] at haf;refine xr func128 rfl ?_;refine xp rfl (aa (off:=1) underlying87 rfl rfl H.aQ rfl) ?_;refine xp rfl (af H.bD rfl (s1.cell (i:=1) rfl)) ?_;refine xp rfl (ak.max2 rfl rfl) ?_;refine xp rfl (ak.min2 rfl rfl) ?_;refine xp rfl (ak.bL rfl rfl ⟨by omega,by omega⟩) ?_;refine xp rfl (aP (H.FE _ _) rfl) ?_;refine RW.bh rfl rfl rfl (av.an H.eB rfl rfl s2 (by first|rfl|(simp;done)|(simp;omega)) (by first|decide|exact of_decide_eq_true rfl|(simp;done)|(simp;omega)) (by first|decide|simp[Value.oneCell'])) ?_;rintro _ h6 ⟨rfl,k6,x6,z6⟩;refine xd [0,1,2,4,5,6,14,21,26] rfl ?_;have hmm:(if (16383:Int)<if d<0 then 0 else d then 16383 else if d<0 then 0 else d)=min (max d 0) 16383:=by split<;>split<;>omega
         have k6:br h6 h1.size 87 (cM (2,min (max d 0) 16383+1)):=by rw[<-hmm];exact k6
         refine G.bq func128 rfl (.cons (aL.bn H.jq H.eB rfl (k6.row) (by first|rfl|(simp;done)|(simp;omega))) (.nil)) ?_;exact⟨_,rfl,by rw[haf];rfl,hout x6⟩
       · rw[if_neg h3'] at haf;refine au rfl ?_;refine G.bu [(36,.bool (decide (x.2.2=4/\1<d)))] [(0,_),(1,_),(2,_),(4,_),(5,_),(6,_),(14,_),(21,_),(26,_)] ⟨rfl,rfl,rfl,rfl,rfl,rfl,rfl,rfl,rfl,trivial⟩ func128 rfl ?_ ?_
         · refine xp rfl (aa (off:=2) underlying155 rfl rfl H.aQ rfl) ?_;refine xp rfl (af H.bD rfl (k5.cell (i:=2) rfl)) ?_;refine aV 2 rfl ?_;refine aH (d:=40) rfl (fun hc=>?_) (fun hc=>?_)
           · have hc':=of_decide_eq_true hc;refine xp rfl (aa (off:=1) underlying87 rfl rfl H.aQ rfl) ?_;refine xp rfl (af H.bD rfl (s1.cell (i:=1) rfl)) ?_;refine aV 3 rfl ?_;refine aC rfl ?_;exact⟨rfl,az rfl (by simp[hc']),rfl,rfl,rfl,rfl,rfl,rfl,rfl,rfl,rfl,trivial⟩
           · have hc':=of_decide_eq_false hc;refine aV 5 rfl ?_;refine aC rfl ?_;exact⟨rfl,az rfl (by simp[hc']),rfl,rfl,rfl,rfl,rfl,rfl,rfl,rfl,rfl,trivial⟩
         · refine aG rfl rfl (fun h4'=>?_) (fun h4'=>?_)
           · rw[if_pos h4'] at haf;refine xr func128 rfl ?_;refine xp rfl (aa (off:=1) underlying87 rfl rfl H.aQ rfl) ?_;refine xp rfl (af H.bD rfl (s1.cell (i:=1) rfl)) ?_;refine xp rfl (ak.en rfl rfl ⟨by omega,by omega⟩) ?_;refine xp rfl (aa (off:=1) underlying87 rfl rfl H.aQ rfl) ?_;refine RW.bh rfl rfl rfl (cj H.aQ rfl rfl rfl (s1.cell (i:=1) rfl) s1.nf) ?_;rintro _ h6 ⟨rfl,hg6⟩;have s6:=s1.set 1 (.int .i64 (d-1));have x6:Ext (fun b=>b=h.size) h5 h6:=by rw[hg6];exact Ext.dS _ _ _ rfl
             have s6:br h6 h.size 87 (cM (m,d-1)):=by rw[hg6];exact s6
             refine xd [0,1,2,4,5,6,14,21,26,36] rfl ?_;refine xr func128 rfl ?_;refine xp rfl (ak.aq H.jq H.eB rfl s6.row (by first|rfl|(simp;done)|(simp;omega))) ?_;refine RW.bh rfl rfl rfl (av.an H.eB rfl rfl (s2.ext x6 (fun k=>by omega)) (by first|rfl|(simp;done)|(simp;omega)) (by first|decide|exact of_decide_eq_true rfl|(simp;done)|(simp;omega)) (fM _)) ?_;rintro _ h7 ⟨rfl,k7,x7,z7⟩;refine xd [0,1,2,4,5,6,14,21,26,36] rfl ?_;have k7:br h7 h1.size 87 (cM (m,d-1)):=k7;refine G.bq func128 rfl (.cons (aL.bn H.jq H.eB rfl (k7.row) (by first|rfl|(simp;done)|(simp;omega))) (.nil)) ?_;have hz6:=x6.size;exact⟨_,rfl,by rw[haf];rfl,aD.only (aD.only e05 x6 (Nat.le_refl _)) x7 hz1⟩
           · rw[if_neg h4'] at haf;refine aA rfl ?_;refine G.aT ?_;refine xr func128 rfl ?_;refine xp rfl (aP (H.Kc ) rfl) ?_;refine RW.bh rfl rfl rfl (av.an H.eB rfl rfl s2 (by first|rfl|(simp;done)|(simp;omega)) (by first|decide|exact of_decide_eq_true rfl|(simp;done)|(simp;omega)) (by first|decide|simp[Value.oneCell'])) ?_;rintro _ h6 ⟨rfl,k6,x6,z6⟩;refine xd [0,1,2,4,5,6,14,21,26,36] rfl ?_;have k6:br h6 h1.size 87 (cM (0,0)):=k6;refine G.bq func128 rfl (.cons (aL.bn H.jq H.eB rfl (k6.row) (by first|rfl|(simp;done)|(simp;omega))) (.nil)) ?_;exact⟨_,rfl,by rw[haf];rfl,hout x6⟩
theorem Ag (hg:jb h) (s:By) (k:Nat) (hk:k<s.length) (hs:s.length<=1000000):ah Tryz.prog 76 #[.string (bs s),.int .i64 (k:Nat)] h (bX fun r h'=>(∃(x:Nat) (ok:Bool),r= .tuple #[.int .i32 (x:Nat),.int .i64 (bw (s.drop k):Nat),.bool ok])/\aD h h'):=by
 have hbs:=aZ s;have hne:s.drop k≠[]:=fun e=>by have:=congrArg List.length e;rw[List.length_drop] at this;simp at this;omega
 refine ah.of func76 rfl rfl ?_;refine aY func76 3 [0,1,4,5,6] rfl ?_;refine au rfl ?_;refine au rfl ?_;refine G.bu [(14,.bool false)] [(0,_),(1,_),(4,_),(5,_),(6,_)] ⟨rfl,rfl,rfl,rfl,rfl,trivial⟩ func76 rfl ?_ ?_
 · refine aV 3 rfl ?_;refine RW.dZ (d:=9) (b':=false) rfl ((by simp)) ?_;refine cx 2 rfl rfl (ak.bp underlying9 rfl) ?_;refine aV 2 rfl ?_;refine aC rfl ?_;exact⟨rfl,az rfl (by simp;omega),rfl,rfl,rfl,rfl,rfl,trivial⟩
 · refine aO rfl rfl (fun hc=>absurd hc (by decide)) (fun _=>?_);refine aA rfl ?_;refine bB func76 2 rfl ?_;refine xp rfl (ak.fe underlying9 rfl rfl k rfl (by omega)) ?_;rw[jH];refine xo rfl (aj (vs:=[_]) func83 rfl H.Ja rfl (ah.aX (xY hg (s.drop k) hne))) ?_;rintro _ h1 ⟨⟨x,rfl⟩,e1⟩;generalize hn:bw (s.drop k)=n;refine aS 5 [0,1,4,5,6,14] rfl ?_;refine au rfl ?_;refine G.bu [(4,.int .i32 (x:Nat)),(5,.int .i64 (n:Nat)),(6,.bool (decide (¬(x:Int)=65533\/(1:Int)<n)))] [(0,_),(1,_),(14,_)] ⟨rfl,rfl,rfl,trivial⟩ func76 rfl ?_ ?_
   · refine aV 5 rfl ?_;refine aH (d:=26) rfl (fun hc=>?_) (fun hc=>?_)
     · have hc':=of_decide_eq_true hc;refine aV 6 rfl ?_;refine aC rfl ?_;exact⟨rfl,rfl,rfl,az rfl (by rw[decide_eq_true (Or.inl hc')]),rfl,rfl,rfl,trivial⟩
     · have hc':=of_decide_eq_false hc;refine aV 6 rfl ?_;refine aC rfl ?_;exact⟨rfl,rfl,rfl,az rfl (by simp only[decide_eq_decide];exact⟨fun q=>.inr q,fun q=>q.resolve_left hc'⟩),rfl,rfl,rfl,trivial⟩
   · refine aK func76 rfl rfl ?_;exact⟨_,rfl,⟨x,_,rfl⟩,e1⟩
theorem zB {p:Value}(k:nY h p):ah Tryz.prog 124 #[p] h (bX fun r h'=>r= .bool false/\h'=h):=by
 obtain⟨lb,vm,rfl,hk,⟨oa,n,c,rfl,hl,_⟩⟩:=k;have hl:n=3:=by rw[<-hl];rfl
 subst hl;refine ah.of func124 rfl rfl ?_;refine aY func124 1 [0,2] rfl ?_;refine au rfl ?_;refine G.bu [(2,.bool false)] [(0,_)] ⟨rfl,trivial⟩ func124 rfl ?_ ?_
 · refine cx 1 rfl rfl (ak.qE underlying89 rfl rfl) ?_;refine aV 1 rfl ?_;refine RW.dZ (d:=5) (b':=false) rfl (rfl) ?_;refine cx 2 rfl rfl (aa (off:=0) underlying111 rfl rfl H.vG rfl) ?_;refine xp rfl (af H.CD rfl (hk.cell (i:=0) rfl)) ?_;refine xp rfl (ak.aN underlying109 rfl) ?_;refine aV 3 rfl ?_;refine aC rfl ?_;exact⟨rfl,az rfl (rfl),rfl,trivial⟩
 · refine aK func124 rfl rfl ?_;exact⟨_,rfl,rfl,rfl⟩
def Bh (m:Int) (l:By):Int:=if 0<=m/\m<3 then (bz (kT (nG m)) l 0 0 (0,-1)).2.2 else 0
theorem Dp (m:Nat) (hm:m<3) (s:By) (k:Nat) (hk:k<=s.length):dx (kT (nG m)) s k=((gW m (s.drop k)).1,(gW m (s.drop k)).2,Bh m (s.drop k)):=by
 obtain⟨ss,st,h1,h2,h3,h4,h5⟩:=tD m hm;have hok:=nC h2;have hsp:=vZ hok.1 hok.2;have htl:=AJ hok.1 hsp.1 hsp.2.2.2.2 hok.2 hsp.2.1 (fun w=>(hsp.2.2.2.1 w).symm) s k;have htm:=yE h2 s k;have hst:=(fX h1).stl
 have hM:xy (gS m) s k=gW m (s.drop k):=by
  unfold xy Bb;rw[h1];simp only;rw[if_neg (by omega),Int.toNat_natCast,h4]
 rw[hM] at htm
 have hA:(dx (kT (nG m)) s k).2.2=Bh m (s.drop k):=by
  rw[Bh,if_pos (show (0:Int)<=m/\(m:Int)<3 by omega),dx,if_neg (by have:=hsp.2.1;omega),Int.toNat_natCast]
 rw[<-hA];refine Prod.ext ?_ (Prod.ext ?_ rfl)
 · rw[<-htl.1];exact(Prod.mk.inj htm).1
 · rw[<-htl.2.1];exact(Prod.mk.inj htm).2
theorem E0 {m:Int}(h:m<0\/3<=m) (l:By):gW m l=(0,-1):=by
 unfold gW;rw[if_neg (by omega),if_neg (by omega),if_neg (by omega)]
theorem xA {p:Value}(k:nY h p) (s:By) (i:Nat) (hi:i<=s.length) (hs:s.length<=1000000) (m:Int) :
 ah Tryz.prog 125 #[p,.string (bs s),.int .i64 (i:Nat),.int .i64 m] h (bX fun r h'=>r= .tuple #[.int .i64 (gW m (s.drop i)).1,.int .i64 (gW m (s.drop i)).2,.int .i64 (Bh m (s.drop i))]/\h'=h):=by
 obtain⟨lb,vm,rfl,hk,hv⟩:=k;obtain⟨oa,n,c,rfl,hsl⟩:=hv.open;have hl:n=3:=by rw[<-hsl.len];rfl
 subst hl;refine ah.of func125 rfl rfl ?_;refine aY func125 3 [0,1,2,3,8,9,10] rfl ?_;refine au rfl ?_;refine au rfl ?_;refine G.bu [(21,.bool (decide (m<0\/3<=m)))] [(0,_),(1,_),(2,_),(3,_),(8,_),(9,_),(10,_)] ⟨rfl,rfl,rfl,rfl,rfl,rfl,rfl,trivial⟩ func125 rfl ?_ ?_
 · refine aV 3 rfl ?_;refine aH (d:=13) rfl (fun hc=>?_) (fun hc=>?_)
   · have hc':=of_decide_eq_true hc;refine aV 8 rfl ?_;refine aC rfl ?_;exact⟨rfl,az rfl (by simp[hc']),rfl,rfl,rfl,rfl,rfl,rfl,rfl,trivial⟩
   · have hc':=of_decide_eq_false hc;refine cx 3 rfl rfl (aa (off:=0) underlying111 rfl rfl H.vG rfl) ?_;refine xp rfl (af H.CD rfl (hk.cell (i:=0) rfl)) ?_;refine xp rfl (ak.aN underlying109 rfl) ?_;refine aV 2 rfl ?_;refine aC rfl ?_;exact⟨rfl,az rfl (by simp only[decide_eq_decide];omega),rfl,rfl,rfl,rfl,rfl,rfl,rfl,trivial⟩
 · refine aG rfl rfl (fun hout=>?_) (fun hout=>?_)
   · rw[E0 hout];refine aY func125 3 [0,1,2,3,8,9,10,21] rfl ?_;refine aK func125 rfl rfl ?_;exact⟨_,rfl,by rw[Bh,if_neg (by omega)];rfl,rfl⟩
   · obtain⟨mm,rfl⟩:=Int.eq_ofNat_of_zero_le (show 0<=m by omega);have hmm:mm<3:=by omega
     have hx:(tE 3)[mm]? =some (kT (nG mm)):=by
      match mm,hmm with
      | 0,_=>rfl
      | 1,_=>rfl
      | 2,_=>rfl
     obtain⟨b3,o3,cs3,ha3,_,hrow3,db,rfl,htab⟩:=hsl.get mm _ hx;obtain⟨ss,st,h1,h2,h3,h4,h5⟩:=tD mm hmm;have hok:=nC h2;have hsp:=vZ hok.1 hok.2;refine aA rfl ?_;refine bB func125 2 rfl ?_;refine xp rfl (aa (off:=0) underlying111 rfl rfl H.vG rfl) ?_;refine xp rfl (af H.CD rfl (hk.cell (i:=0) rfl)) ?_;refine cx 1 rfl rfl (ak.aF underlying109 H.I2 rfl rfl mm rfl ha3 (by omega)) ?_;refine xp rfl (af H.Kg rfl (hrow3 0 _ rfl)) ?_;refine aV 2 rfl ?_;refine xo rfl (aj (vs:=[_,_,_]) func142 rfl H.Jt rfl (ah.aX (xV (s:=s) (a:=(i:Int)) (.inr ⟨db,rfl,htab.rd⟩) hsp.1 hs))) ?_;rintro _ h0 ⟨rfl,hh0⟩;subst hh0;rw[Dp mm hmm s i hi];refine aS 6 [0,1,2,3,8,9,10,21] rfl ?_;refine aK func125 rfl rfl ?_;exact⟨_,rfl,rfl,rfl⟩
end
end Go.Proofs.YtiigijehmmcfgaaGreatDoor

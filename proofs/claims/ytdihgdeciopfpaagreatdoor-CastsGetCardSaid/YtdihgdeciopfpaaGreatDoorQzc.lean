/- What the proof of the statement leans on (part 29). -/
import Derived.Shelf.Strings.Builder1
import Derived.Shelf.Strings.Builder2
import Derived.Shelf.Strings.OnBuilder
import Derived.Shelf.Small.Utf8
import Derived.Shelf.Small.Strs
import Derived.Shelf.Strings.BuilderF
import Derived.Shelf.Strings.BuilderK
import Derived.Shelf.Strings.Builder2Cap
import Derived.Shelf.Strconv.Itoa0
import Derived.Shelf.Strconv.Itoa1
import Derived.Shelf.LaysM
import Derived.Shelf.Strconv.Itoa2
import Derived.Shelf.Strconv.Itoa3
import Derived.Shelf.Strings.Search1
import Derived.Shelf.Strings.Search2
import Derived.Shelf.Strings.Search3
import Derived.Shelf.Strings.Cut
import Derived.Shelf.Strings.Shaped
import Derived.Shelf.Strings.LastIndex
import Derived.Shelf.Strings.LastIndexAll
import Derived.Shelf.Strings.Prefix
import Derived.Shelf.Unicode.Decode
import Derived.Shelf.Bits.Mul64
import Derived.Shelf.Strings.Repeat
import Derived.Shelf.Unicode.DecodeSlow
import Derived.Shelf.Unicode.DecodeAny
import Derived.Shelf.Unicode.DecodeLast
import Derived.Test.YtdihgdeciopfpaaGreatDoorProg
import Derived.Deep.Fields
import Derived.Test.YtdihgdeciopfpaaGreatDoorQzb

namespace Go.Proofs
open Go.Shelf
def Tryz.zJ:Go.Shelf.Ren:=⟨fun| 149=>276| 222=>320|n=>n,fun| 9=>9| 5=>5| 3=>3| 4=>4|n=>n,fun|n=>n⟩
theorem Tryz.H8:Go.Proofs.Lays.n149 Tryz.prog Tryz.zJ:= {
  mixed:=by kernel_rfl
  f149:=Tryz.func276.trans (congrArg some (by kernel_rfl))
  f222:=Tryz.func320.trans (congrArg some (by kernel_rfl))
  t3:=Tryz.underlying3
  a3:=Tryz.isAgg3
  z3:=Tryz.sizeOf3
  v3:=Tryz.zeroValue3
  t4:=Tryz.underlying4
  a4:=Tryz.isAgg4
  z4:=Tryz.sizeOf4
  v4:=Tryz.zeroValue4
  t5:=Tryz.underlying5
  a5:=Tryz.isAgg5
  z5:=Tryz.sizeOf5
  v5:=Tryz.zeroValue5
  t9:=Tryz.underlying9
  a9:=Tryz.isAgg9
  z9:=Tryz.sizeOf9
  v9:=Tryz.zeroValue9 }
def Tryz.zH:Go.Shelf.Ren:=⟨fun| 212=>355| 263=>362| 264=>363|n=>n,fun| 46=>321| 51=>374| 146=>375| 53=>236| 148=>440|n=>n,fun|n=>n⟩
theorem Tryz.H6:Go.Proofs.Lays.n212 Tryz.prog Tryz.zH:= {
  mixed:=by kernel_rfl
  f212:=Tryz.func355.trans (congrArg some (by kernel_rfl))
  f263:=Tryz.func362.trans (congrArg some (by kernel_rfl))
  f264:=Tryz.func363.trans (congrArg some (by kernel_rfl))
  t46:=Tryz.underlying321
  a46:=Tryz.isAgg321
  z46:=Tryz.sizeOf321
  v46:=Tryz.zeroValue321
  t51:=Tryz.underlying374
  a51:=Tryz.isAgg374
  z51:=Tryz.sizeOf374
  v51:=Tryz.zeroValue374
  t53:=Tryz.underlying236
  a53:=Tryz.isAgg236
  z53:=Tryz.sizeOf236
  v53:=Tryz.zeroValue236
  t146:=Tryz.underlying375
  a146:=Tryz.isAgg375
  z146:=Tryz.sizeOf375
  v146:=Tryz.zeroValue375
  t148:=Tryz.underlying440
  a148:=Tryz.isAgg440
  z148:=Tryz.sizeOf440
  v148:=Tryz.zeroValue440 }
def Tryz.zO:Go.Shelf.Ren:=⟨fun| 105=>339| 212=>355| 99=>52| 165=>336| 166=>44| 170=>114| 169=>46| 263=>362| 264=>363| 206=>100| 240=>91| 241=>353| 276=>145| 277=>360|n=>n,fun| 9=>9| 3=>3| 4=>4| 20=>20| 0=>0| 46=>321| 109=>433| 5=>5| 72=>112| 76=>115| 51=>374| 146=>375| 53=>236| 148=>440| 70=>109| 37=>110| 75=>114| 127=>172| 164=>247| 80=>67|n=>n,fun|n=>n⟩
theorem Tryz.C3:Go.Proofs.Lays.n105 Tryz.prog Tryz.zO:= {
  mixed:=by kernel_rfl
  f99:=Tryz.func52.trans (congrArg some (by kernel_rfl))
  f105:=Tryz.func339.trans (congrArg some (by kernel_rfl))
  f165:=Tryz.func336.trans (congrArg some (by kernel_rfl))
  f166:=Tryz.func44.trans (congrArg some (by kernel_rfl))
  f169:=Tryz.func46.trans (congrArg some (by kernel_rfl))
  f170:=Tryz.func114.trans (congrArg some (by kernel_rfl))
  f206:=Tryz.func100.trans (congrArg some (by kernel_rfl))
  f212:=Tryz.func355.trans (congrArg some (by kernel_rfl))
  f240:=Tryz.func91.trans (congrArg some (by kernel_rfl))
  f241:=Tryz.func353.trans (congrArg some (by kernel_rfl))
  f263:=Tryz.func362.trans (congrArg some (by kernel_rfl))
  f264:=Tryz.func363.trans (congrArg some (by kernel_rfl))
  f276:=Tryz.func145.trans (congrArg some (by kernel_rfl))
  f277:=Tryz.func360.trans (congrArg some (by kernel_rfl))
  t0:=Tryz.underlying0
  a0:=Tryz.isAgg0
  z0:=Tryz.sizeOf0
  v0:=Tryz.zeroValue0
  t3:=Tryz.underlying3
  a3:=Tryz.isAgg3
  z3:=Tryz.sizeOf3
  v3:=Tryz.zeroValue3
  t4:=Tryz.underlying4
  a4:=Tryz.isAgg4
  z4:=Tryz.sizeOf4
  v4:=Tryz.zeroValue4
  t5:=Tryz.underlying5
  a5:=Tryz.isAgg5
  z5:=Tryz.sizeOf5
  v5:=Tryz.zeroValue5
  t9:=Tryz.underlying9
  a9:=Tryz.isAgg9
  z9:=Tryz.sizeOf9
  v9:=Tryz.zeroValue9
  t20:=Tryz.underlying20
  a20:=Tryz.isAgg20
  z20:=Tryz.sizeOf20
  v20:=Tryz.zeroValue20
  t37:=Tryz.underlying110
  a37:=Tryz.isAgg110
  z37:=Tryz.sizeOf110
  v37:=Tryz.zeroValue110
  t46:=Tryz.underlying321
  a46:=Tryz.isAgg321
  z46:=Tryz.sizeOf321
  v46:=Tryz.zeroValue321
  t51:=Tryz.underlying374
  a51:=Tryz.isAgg374
  z51:=Tryz.sizeOf374
  v51:=Tryz.zeroValue374
  t53:=Tryz.underlying236
  a53:=Tryz.isAgg236
  z53:=Tryz.sizeOf236
  v53:=Tryz.zeroValue236
  t70:=Tryz.underlying109
  a70:=Tryz.isAgg109
  z70:=Tryz.sizeOf109
  v70:=Tryz.zeroValue109
  t72:=Tryz.underlying112
  a72:=Tryz.isAgg112
  z72:=Tryz.sizeOf112
  v72:=Tryz.zeroValue112
  t75:=Tryz.underlying114
  a75:=Tryz.isAgg114
  z75:=Tryz.sizeOf114
  v75:=Tryz.zeroValue114
  t76:=Tryz.underlying115
  a76:=Tryz.isAgg115
  z76:=Tryz.sizeOf115
  v76:=Tryz.zeroValue115
  t109:=Tryz.underlying433
  a109:=Tryz.isAgg433
  z109:=Tryz.sizeOf433
  v109:=Tryz.zeroValue433
  t127:=Tryz.underlying172
  a127:=Tryz.isAgg172
  z127:=Tryz.sizeOf172
  v127:=Tryz.zeroValue172
  t146:=Tryz.underlying375
  a146:=Tryz.isAgg375
  z146:=Tryz.sizeOf375
  v146:=Tryz.zeroValue375
  t148:=Tryz.underlying440
  a148:=Tryz.isAgg440
  z148:=Tryz.sizeOf440
  v148:=Tryz.zeroValue440
  t164:=Tryz.underlying247
  a164:=Tryz.isAgg247
  z164:=Tryz.sizeOf247
  v164:=Tryz.zeroValue247 }
def Tryz.zG:Go.Shelf.Ren:=⟨fun| 271=>302| 120=>338| 197=>150| 260=>210|n=>n,fun| 9=>9| 21=>21| 3=>3| 4=>4| 5=>5| 105=>250| 119=>336| 0=>0| 46=>321| 139=>339| 138=>338|n=>n,fun| 3=>6| 4=>7|n=>n⟩
theorem Tryz.HZ:Go.Proofs.Lays.n271 Tryz.prog Tryz.zG:= {
  mixed:=by kernel_rfl
  f120:=Tryz.func338.trans (congrArg some (by kernel_rfl))
  f197:=Tryz.func150.trans (congrArg some (by kernel_rfl))
  f260:=Tryz.func210.trans (congrArg some (by kernel_rfl))
  f271:=Tryz.func302.trans (congrArg some (by kernel_rfl))
  t0:=Tryz.underlying0
  a0:=Tryz.isAgg0
  z0:=Tryz.sizeOf0
  v0:=Tryz.zeroValue0
  t3:=Tryz.underlying3
  a3:=Tryz.isAgg3
  z3:=Tryz.sizeOf3
  v3:=Tryz.zeroValue3
  t4:=Tryz.underlying4
  a4:=Tryz.isAgg4
  z4:=Tryz.sizeOf4
  v4:=Tryz.zeroValue4
  t5:=Tryz.underlying5
  a5:=Tryz.isAgg5
  z5:=Tryz.sizeOf5
  v5:=Tryz.zeroValue5
  t9:=Tryz.underlying9
  a9:=Tryz.isAgg9
  z9:=Tryz.sizeOf9
  v9:=Tryz.zeroValue9
  t21:=Tryz.underlying21
  a21:=Tryz.isAgg21
  z21:=Tryz.sizeOf21
  v21:=Tryz.zeroValue21
  t46:=Tryz.underlying321
  a46:=Tryz.isAgg321
  z46:=Tryz.sizeOf321
  v46:=Tryz.zeroValue321
  t105:=Tryz.underlying250
  a105:=Tryz.isAgg250
  z105:=Tryz.sizeOf250
  v105:=Tryz.zeroValue250
  t119:=Tryz.underlying336
  a119:=Tryz.isAgg336
  z119:=Tryz.sizeOf336
  t138:=Tryz.underlying338
  a138:=Tryz.isAgg338
  z138:=Tryz.sizeOf338
  v138:=Tryz.zeroValue338
  t139:=Tryz.underlying339
  a139:=Tryz.isAgg339
  z139:=Tryz.sizeOf339
  v139:=Tryz.zeroValue339
  g3:=by kernel_rfl
  g4:=by kernel_rfl }
open Go.RowKit Go.Lib in
theorem Tryz.strings_LastIndexByte (s:ByteArray) (c:Int) (hs:s.size<4611686018427387904) (w:World) :
    Calls Tryz.prog 276 #[.string s,.int .u8 c] w fun e w'=>e= .returned (.int .i64 (Lib.lastIndexByte s c))/\w'=w:=Any.strings_LastIndexByte Tryz.H8 s c hs w
open Go.RowKit Go.Lib in
theorem Tryz.bits_Mul (x y:Nat) (hx:x<18446744073709551616) (hy:y<18446744073709551616) (w:World) :
    Calls Tryz.prog 355 #[.int .u64 x,.int .u64 y] w fun e w'=>e= .returned (.tuple #[.int .u64 ((x*y / 18446744073709551616:Nat):Int),.int .u64 ((x*y%18446744073709551616:Nat):Int)])/\w'=w:=Any.bits_Mul Tryz.H6 x y hx hy w
open Go.RowKit Go.Lib in
theorem Tryz.strings_Repeat_zero (s:ByteArray) (w:World) :
    Calls Tryz.prog 339 #[.string s,.int .i64 0] w fun e w'=>e= .returned (.string ⟨#[]⟩)/\w'=w:=Any.strings_Repeat_zero Tryz.C3 s w
open Go.RowKit Go.Lib in
theorem Tryz.strings_Repeat_one (s:ByteArray) (w:World) :
    Calls Tryz.prog 339 #[.string s,.int .i64 1] w fun e w'=>e= .returned (.string s)/\w'=w:=Any.strings_Repeat_one Tryz.C3 s w
open Go.RowKit Go.Lib in
theorem Tryz.utf8_DecodeLastRuneInString (s:ByteArray) (w:World) (hs:s.size<=9223372036854775807) (hT:Lib.Utf8Tabs 6 7 w) :
    Calls Tryz.prog 302 #[.string s] w fun e w'=>e= .returned (.tuple #[.int .i32 (Lib.decodeLastL s.data.toList).1,.int .i64 (Lib.decodeLastL s.data.toList).2])/\Below w.heap.size w w':=Any.utf8_DecodeLastRuneInString Tryz.HZ s w hs hT
end Go.Proofs
namespace Go.Proofs.YtdihgdeciopfpaaGreatDoor
open Go.Proofs.Tryz
open Go Go.Lw
set_option maxRecDepth 20000
section
variable {h:au}{xs:List (Int×Int)}{r:Nat}
theorem B2 (l:By) (p:Nat):Utf8.decode (bs l) p=(Bm (l.drop p),cU (l.drop p)):=by
 have e:∀i,(bs l).get! i=l.getD i 0:=fun i=>by
  show (l.toArray)[i]! =_
  rw[getElem!_def,List.getElem?_toArray,List.getD_eq_getElem?_getD];cases l[i]? <;>rfl
 rw[Lib.decode_at];unfold Bm cU;rw[e,e,e,e,aR,lN,lN,lN,lN,List.length_drop];rfl
theorem nh:∀(n k:Nat) (l:By) (a:Nat),l.length<=n->l.length<=k->cD n l a=cD k l a
 | 0,0,_,_,_,_=>rfl
 | 0,k+1,l,a,h,_=>by
  have:l=[]:=List.length_eq_zero_iff.1 (by omega);rw[cD,cD,if_pos this]
 |n+1,0,l,a,_,h=>by
  have:l=[]:=List.length_eq_zero_iff.1 (by omega);rw[cD,cD,if_pos this]
 |n+1,k+1,l,a,h1,h2=>by
  rw[cD,cD]
  by_cases hl:l=[]
  · rw[if_pos hl,if_pos hl]
  · have:=fu hl;rw[if_neg hl,if_neg hl,nh n k _ _ (by rw[List.length_drop];omega) (by rw[List.length_drop];omega)]
def vk (s:By) (p:Nat):List Nat:=cD s.length (s.drop p) p
theorem Ec {s:By}{p:Nat}(h:s.length<=p):vk s p=[]:=by
 unfold vk;rw[List.drop_of_length_le h];cases s.length<;>rfl
theorem BS {s:By}{p:Nat}(h:p<s.length):vk s p=p::vk s (p+cU (s.drop p))/\1<=cU (s.drop p)/\p+cU (s.drop p)<=s.length:=by
 have hne:s.drop p≠[]:=by intro e;have:=congrArg List.length e;rw[List.length_drop,List.length_nil] at this;omega
 have hr:=fu hne;have hd:(s.drop p).length=s.length-p:=List.length_drop;refine⟨?_,hr.1,by omega⟩;unfold vk;obtain⟨n,hn⟩:∃n,s.length=n+1:=⟨s.length-1,by omega⟩
 conv=>lhs;rw[hn,cD,if_neg hne,List.drop_drop]
 rw[nh n s.length _ _ (by rw[List.length_drop];omega) (by rw[List.length_drop];omega)]
theorem wg (s:By) (hs:s.length<=1000000):af Tryz.prog 224 #[.string (bs s)] h (bC fun r h'=>cj cT h' h.size 3 r (cR s)/\av h h'):=by
 have hbs:=aR s;refine af.of func224 rfl rfl ?_;refine aQ func224 1 [0,2] rfl ?_;refine aQ func224 1 [0,2,3] rfl ?_;refine ak rfl ?_;refine bg func224 1 rfl ?_;refine xo rfl (ax.rD underlying9 rfl) ?_;rintro _ h1 ⟨rfl,i1,e1,z1⟩;refine xd [0,2,3,6] rfl ?_;refine G.block rfl rfl ?_;refine bf (σ:=Nat×Value×List Nat) (fun w=>[(0,.string (bs s)),(3,w.2.1),(6,.pointer (some ⟨h.size,0,none⟩))]) (fun w g=>eZ g h.size (bs s) w.1/\cj cT g (h.size+1) 3 w.2.1 w.2.2/\Ext (fun b=>b=h.size) h1 g/\w.2.2++vk s w.1=cR s/\w.1<=s.length/\w.2.2.length<=w.1) (fun w=>s.length-w.1) ((0,.slice none 0 0,[])) rfl ⟨rfl,rfl,rfl,trivial⟩ ⟨i1,cj.nil cT h1 (h.size+1) 3,Ext.refl _ _,rfl,Nat.zero_le _,Nat.le_refl _⟩ ?_;rintro⟨p,v,xs⟩ g ⟨hI,hw,hx,hf,hp,hl⟩ ih
 try dsimp only
 dsimp only at hI hw hx hf hp hl;have hgz:=hx.size
 by_cases hlt:p<s.length
 · obtain⟨f1,f2,f3⟩:=BS hlt;have hz:p<(bs s).size:=by omega
   refine xr func224 rfl ?_;refine xo rfl (ax.wF rfl (hI) (hz)) ?_;rintro _ g1 ⟨rfl,i2,x2,z2⟩;rw[B2] at *;refine aM 1 [0,3,6,7,8] rfl ?_;refine ak rfl ?_;refine ay rfl rfl (fun _=>?_) (fun hc=>absurd hc (by simp));have hw1:cj cT g1 (h.size+1) 3 v xs:=aC.ext x2 hw (fun b hb k=>by have:=aC.lt hw hb;omega);refine az rfl ?_;refine G.block rfl rfl ?_;refine aQ func224 2 [0,3,4,6,7,8] rfl ?_;refine G.bB func224 rfl ?_;refine br 2 rfl ?_;refine xo rfl (ax.bA (us:=[_]) underlying101 H.lR rfl rfl (by decide) (by simp[Value.oneCell'])) ?_;rintro _ _ ⟨rfl,rfl⟩;refine xo rfl (ax.bN underlying101 H.lR rfl rfl (hw1) rfl rfl (by first|decide|simp[Value.oneCell']) (by omega) (by decide) (by omega)) ?_;rintro v2 g2 ⟨ho2,hx2,hx2',hv2⟩;refine aM 1 [0,3,4,6,7,8] rfl ?_;refine G.aJ ?_;have i3:=i2.ext hx2 (fun k=>by have:=aC.lt hw1 (b:=h.size) k.symm;omega);have ho2:cj cT g2 (h.size+1) 3 v2 (xs++[p]):=cj.of ho2 rfl rfl rfl;exact ih (p+cU (s.drop p),v2,xs++[p]) _ _ ⟨rfl,rfl,rfl,trivial⟩ ⟨i3,ho2,(hx.trans x2).ON hx2 (fun b hb k=>by have:=aC.lt hw1 (b:=b) k.symm;omega),by rw[List.append_assoc,List.singleton_append,<-f1];exact hf,f3,by rw[List.length_append];simp only[List.length_cons,List.length_nil];omega⟩ (by show s.length-(p+cU (s.drop p))<s.length-p;omega)
 · refine xr func224 rfl ?_;refine xo rfl (ax.wG rfl (hI) ((by omega))) ?_;rintro _ g1 ⟨rfl,rfl⟩;refine aM 1 [0,3,6,7,8] rfl ?_;refine ak rfl ?_;refine ay rfl rfl (fun hc=>absurd hc (by simp)) (fun _=>?_);refine aW rfl rfl ?_;refine aQ func224 2 [0,2,3,6,7,8] rfl ?_;refine G.ret func224 rfl rfl ?_;rw[Ec (by omega),List.append_nil] at hf;subst hf;exact⟨_,rfl,hw.lower (by omega),av.only e1 hx (Nat.le_refl _)⟩
theorem B3 (hg:Hw h) (l:By) (hl:l≠[]):af Tryz.prog 150 #[.string (bs l)] h (bC fun r h'=>r= .tuple #[.int .i32 (Bm l:Nat),.int .i64 (cU l:Nat)]/\av h h'):=by
 refine af.qp fun w hw=>?_
 subst hw;have hT:Lib.Utf8Tabs 6 7 w:=⟨fun c hc=>by rw[dJ];exact hg.utf.1 c hc,fun i hi=>⟨by rw[dJ];exact(hg.utf.2 i hi).1,by rw[dJ];exact(hg.utf.2 i hi).2⟩⟩
 refine(Tryz.utf8_DecodeRuneInString (bs l) w hT).mono ?_;rintro e w' ⟨rfl,hb⟩
 have hn:Lib.decodeGo (bs l)=(Bm l,cU l):=by
  have h0:¬(bs l).size=0:=by rw[aR];have:=List.length_pos_iff.2 hl;omega
  unfold Lib.decodeGo;rw[if_neg h0,Lib.decode_N,xM];rfl
 rw[hn];exact⟨_,rfl,⟨rfl,⟨hb.size,fun b hlt _=>hb.block b hlt⟩⟩,hb.os,hb.tape,hb.output⟩
theorem Ef (l:List Nat) (a:Int) (i x:Nat) (h:l[i]? =some x):(l.take (i+1)).foldl (fun(o k:Nat)=>if (k:Int)<=a then k else o) 0=if (x:Int)<=a then x else (l.take i).foldl (fun(o k:Nat)=>if (k:Int)<=a then k else o) 0:=by
 rw[List.take_add_one,h,Option.toList_some,List.foldl_append];rfl
theorem Ee (s:By) (a:Int) (hs:s.length<=1000000):af Tryz.prog 168 #[.string (bs s),.int .i64 a] h (bC fun r h'=>r= .int .i64 (uj s a:Nat)/\av h h'):=by
 have hbs:=aR s;refine af.of func168 rfl rfl ?_;refine aQ func168 1 [0,1,4] rfl ?_;refine ak rfl ?_;refine bg func168 2 rfl ?_;refine xp rfl (ai.aU underlying9 rfl) ?_;refine aM 1 [0,1,4,11] rfl ?_;refine aN rfl rfl (fun c=>?_) (fun c=>?_)
 · refine bg func168 1 rfl ?_;refine xp rfl (ai.aU underlying9 rfl) ?_;refine aM 1 [0,1,4,11] rfl ?_;refine G.ret func168 rfl rfl ?_;have e:uj s a=s.length:=by unfold uj;rw[if_pos (by omega)]
   exact⟨_,rfl,congrArg (Value.int .i64) (by rw[e,hbs]),Ext.refl _ _⟩
 · refine az rfl ?_;refine aQ func168 1 [0,1,4,5,11] rfl ?_;refine ak rfl ?_;refine bg func168 1 rfl ?_;refine xo rfl (aj (vs:=[_]) func224 rfl H.Mb rfl (af.aX (wg s hs))) ?_;rintro v g ⟨hw,e1⟩;have hr:bF gj g (fun _=>False) v (cR s):=hw.read (fun _ _ k=>k);obtain⟨oa,n,cp,rfl,hsl⟩:=hr.open;have hn:=hsl.len;subst hn;have hcap:=hsl.cap;have hle:=hsl.le;unfold maxLen at hcap;refine xp rfl (ai.aI underlying101 rfl) ?_;refine aM 1 [0,1,4,5,11,15,16,17] rfl ?_;refine G.block rfl rfl ?_;refine bf (σ:=Nat) (fun i=>[(0,.string (bs s)),(1,.int .i64 a),(5,.int .i64 (((cR s).take i).foldl (fun(o k:Nat)=>if (k:Int)<=a then k else o) 0:Nat)),(15,.slice oa (cR s).length cp),(16,.int .i64 ((cR s).length:Nat)),(17,.int .i64 (i:Nat))]) (fun i g'=>g'=g/\i<=(cR s).length) (fun i=>(cR s).length-i) (0) rfl ⟨rfl,rfl,rfl,rfl,rfl,rfl,trivial⟩ ⟨rfl,Nat.zero_le _⟩ ?_;rintro i g' ⟨rfl,hi⟩ ih;refine aQ func168 1 [0,1,5,15,16,17,18] rfl ?_;refine ak rfl ?_;refine aN rfl rfl (fun hlt=>?_) (fun hlt=>?_)
   · have hil:i<(cR s).length:=by omega
     obtain⟨b,o,x,ha,_,hx,hc⟩:=hsl.at hil;have hst:=Ef (cR s) a i x hx;refine az rfl ?_;refine ak rfl ?_;refine G.block rfl rfl ?_;refine xr func168 rfl ?_;refine xp rfl (ai.aA underlying101 H.bG rfl rfl i rfl ha (by omega)) ?_;refine xp rfl (ah H.bU rfl hc) ?_;refine aM 1 [0,1,5,7,15,16,17,18] rfl ?_;refine aQ func168 3 [0,1,5,7,15,16,17,18,23] rfl ?_;refine aN rfl rfl (fun hk=>?_) (fun hk=>?_)
     · refine G.bB func168 rfl ?_;refine aM 2 [0,1,5,7,15,16,17,18,23] rfl ?_;refine G.aJ ?_;refine G.bB func168 rfl ?_;refine xp rfl (ai.aT rfl rfl ⟨by omega,by omega⟩) ?_;refine aM 1 [0,1,5,7,15,16,17,18,23] rfl ?_;rw[if_pos hk] at hst;rw[<-hst];exact ih (i+1) _ _ ⟨rfl,rfl,rfl,rfl,rfl,rfl,trivial⟩ ⟨rfl,by omega⟩ (by omega)
     · refine az rfl ?_;refine G.aJ ?_;refine G.bB func168 rfl ?_;refine xp rfl (ai.aT rfl rfl ⟨by omega,by omega⟩) ?_;refine aM 1 [0,1,5,7,15,16,17,18,23] rfl ?_;rw[if_neg hk] at hst;rw[<-hst];exact ih (i+1) _ _ ⟨rfl,rfl,rfl,rfl,rfl,rfl,trivial⟩ ⟨rfl,by omega⟩ (by omega)
   · refine aW rfl rfl ?_;refine aQ func168 2 [0,1,4,5,15,16,17,18] rfl ?_;refine G.ret func168 rfl rfl ?_;have hil:i=(cR s).length:=by omega
     have e:uj s a=(cR s).foldl (fun(o k:Nat)=>if (k:Int)<=a then k else o) 0:=by unfold uj;rw[if_neg (by omega)]
     exact⟨_,rfl,congrArg (Value.int .i64) (by rw[e,hil,List.take_length]),e1⟩
def O4:fF Bool:=.flat Value.bool fun _=>rfl
def KH (s:MS) (rv hv lv fv:Value):List Value:=[.string (bs s.text),.int .i64 s.cur,.int .i64 s.mode,.int .i64 s.mark,rv,hv,.int .i64 s.at_,.string (bs s.draft),.int .i64 s.last,.int .i64 s.from_,.int .i64 s.to_,.string (bs s.query),.int .i64 s.found,.string (bs s.saved),.int .i64 s.savedAt,.int .i64 s.was,lv,fv,.int .i64 s.bells]
structure Hf (O:Nat->Prop) (h:au) (s:MS) (rv hv lv fv:Value):Prop where
 ring:bF Iv h O rv s.ring
 hist:bF Iv h O hv s.hist
 lines:bF Iv h O lv s.lines
 flags:bF O4 h O fv s.flags
theorem Hf.mv {O O':Nat->Prop}{h h':au}{s:MS}{rv hv lv fv:Value}(k:Hf O h s rv hv lv fv) (m:Mv O O' h h'):Hf O' h' s rv hv lv fv:=⟨k.ring.mv m,k.hist.mv m,k.lines.mv m,k.flags.mv m⟩
theorem Hf.aq {O:Nat->Prop}{h h':au}{s:MS}{rv hv lv fv:Value}(k:Hf O h s rv hv lv fv) (e:av h h'):Hf O h' s rv hv lv fv:=k.mv (Mv.aq e)
theorem Hf.of {O:Nat->Prop}{s t:MS}{rv hv lv fv:Value}(k:Hf O h s rv hv lv fv) (h1:t.ring=s.ring) (h2:t.hist=s.hist) (h3:t.lines=s.lines) (h4:t.flags=s.flags):Hf O h t rv hv lv fv:=⟨h1▸k.ring,h2▸k.hist,h3▸k.lines,h4▸k.flags⟩
theorem ms1 {s:MS}{xa ya za ua:Option Addr}{xn xc yn yc zn zc un uc:Nat}:∀v∈KH s (.slice xa xn xc) (.slice ya yn yc) (.slice za zn zc) (.slice ua un uc),v.oneCell'=true:=by
 intro v hv;simp only[KH,List.mem_cons,List.not_mem_nil,or_false] at hv
 rcases hv with rfl|rfl|rfl|rfl|rfl|rfl|rfl|rfl|rfl|rfl|rfl|rfl|rfl|rfl|rfl|rfl|rfl|rfl|rfl<;>rfl
def OU:MS:=⟨[],0,0,0,[],[],0,[],0,0,0,[],0,[],0,0,[],[],0⟩
abbrev zC:List Value:=KH OU (.slice none 0 0) (.slice none 0 0) (.slice none 0 0) (.slice none 0 0)
abbrev O2 (b r:Nat) (O:Nat->Prop):Nat->Prop:=fun y=>y=b\/y=r\/O y
structure Fr (O:Nat->Prop) (h g:au) (b r:Nat) (s:MS) (rv hv lv fv:Value):Prop where
 blk:aL g b 144 (KH s rv hv lv fv)
 res:aL g r 144 zC
 ext:av h g
 hb:h.size<=b
 hr:h.size<=r
 ne:¬r=b
 old:∀y,O y->y<h.size
 ms:Hf (O2 b r O) g s rv hv lv fv
section
variable {O:Nat->Prop}{h g g':au}{b r:Nat}{s t:MS}{rv hv lv fv rv' hv' lv' fv':Value}
end
def kZ (x:Int×Int):List Value:=[.int .i32 x.1,.int .i32 x.2]
def NJ:fF (Int×Int):=.record 2 (by decide) kZ (fun _=>rfl) (fun _ v hv=>by simp[kZ] at hv;rcases hv with rfl|rfl<;>rfl)
def hidL:List (Int×Int):=[(0,31),(127,159),(768,879),(8203,8207),(8232,8238),(55296,57343),(65024,65039),(65279,65279)]
def I3:List (Int×Int):=[(4352,4447),(11904,12350),(12353,13311),(13312,19903),(19968,40959),(40960,42191),(44032,55203),(63744,64255),(65072,65135),(65281,65376),(65504,65510),(127744,128591),(129280,129535),(131072,262141)]
def iX (r:Nat):List Value:=[.int .i32 (r:Nat),.int .i64 1,.int .i64 0,.bool false,.bool false,.bool false]
theorem Iy (r:Nat):∀v∈iX r,v.oneCell'=true:=fun v hv=>by simp[iX] at hv;rcases hv with rfl|rfl|rfl|rfl|rfl|rfl<;>rfl
def NK:fF Nat:=.record 6 (by decide) iX (fun _=>rfl) Iy
structure oJ (h:au):Prop where
 lx:Hw h
 hid:Lw.rowAt h 3 0 (hidL.flatMap kZ)
 wid:Lw.rowAt h 4 0 (I3.flatMap kZ)
 gb:Lw.rowAt h 0 0 (iX 32)
 tb:Lw.rowAt h 5 0 (iX 32)
theorem oJ.aq {h h':au}(k:oJ h) (e:av h h'):oJ h':=⟨k.lx.aq e,e.rowAt (fun q=>q) k.hid,e.rowAt (fun q=>q) k.wid,e.rowAt (fun q=>q) k.gb,e.rowAt (fun q=>q) k.tb⟩
theorem wk {α:Type}{sz:Nat}{pos:0<sz}{enc:α->List Value} {hl:∀x,(enc x).length=sz} {h1:∀x,∀v∈enc x,v.oneCell'=true}{O:Nat->Prop}{b:Nat}(ho:¬O b){xs:List α}{n:Nat}(hr:Lw.rowAt h b 0 (xs.flatMap enc)) (hn:xs.length=n) (hm:n<=maxLen):bF (.record sz pos enc hl h1) h O (.slice (some ⟨b,0,none⟩) n n) xs :=
 ⟨_,n,n,rfl,hn,Nat.le_refl _,hm,fun i x hx=>⟨b,0,enc x,rfl,ho,fun j v hv=>by
  have h2:=hr _ _ (eW hl xs i x j v hx hv);rw[Nat.zero_add] at h2 ⊢;exact h2,rfl⟩⟩
def NC (xs:List (Int×Int)) (r:Int) (k:Nat):Bool:=decide (k<xs.length) && decide ((xs.getD k (0,0)).1<=r)
def G0 (xs:List (Int×Int)) (r:Int) (k:Nat):Bool:=decide (r<=(xs.getD k (0,0)).2)
theorem D8 {b1 b2:Nat}{v:Value}{r:Int}(k1:aL h b1 331 [v]) (k2:aL h b2 21 [.int .i32 r]) (hv:bF NJ h (fun _=>False) v xs) (i:Nat) (hi:i<xs.length) :
 af Tryz.prog 254 #[.int .i64 (i:Nat),.pointer (some ⟨b1,0,none⟩),.pointer (some ⟨b2,0,none⟩)] h (bC fun q h'=>q= .bool (G0 xs r i)/\h'=h):=by
 obtain⟨va,vn,vc,rfl,hvs⟩:=hv.open;have hl:xs.length=vn:=hvs.len;obtain⟨bb,o,t,ha,_,ht,hrow⟩:=hvs.iR (i:=i) (by omega);have hgt:xs.getD i (0,0)=t:=by rw[List.getD_eq_getElem?_getD,ht];rfl
 unfold G0;rw[hgt];refine af.of func254 rfl rfl ?_;refine aQ func254 1 [0,1,2,4] rfl ?_;refine ak rfl ?_;refine G.gG func254 H.mixed rfl (by kernel_rfl) ?_;refine RQ.an rfl rfl rfl rfl (ah H.Dm rfl (k1.cell (i:=0) rfl)) ?_;refine RQ.an rfl rfl rfl rfl (aF rfl) ?_;refine RQ.an rfl rfl rfl rfl (ai.aA underlying331 H.CL rfl rfl i rfl ha (by omega)) ?_;refine RQ.an rfl rfl rfl rfl (aa (off:=1) underlying333 rfl rfl H.DA rfl) ?_;refine RQ.an rfl rfl rfl rfl (ah H.AP rfl (hrow 1 _ rfl)) ?_;refine RQ.an rfl rfl rfl rfl (ah H.AP rfl (k2.cell (i:=0) rfl)) ?_;refine RQ.an rfl rfl rfl rfl (nV rfl rfl) ?_;refine RQ.an rfl rfl rfl rfl (ai.assign rfl) ?_;refine RQ.done rfl ?_;refine xu [0,1,2,4] rfl ?_;refine G.ret func254 rfl rfl ?_;exact⟨_,rfl,rfl,rfl⟩
theorem vj {v:Value}(hv:bF NJ h (fun _=>False) v xs) (hx:xs.length<=1000) (r:Int) (hno:∀k,k<=xs.length->(0<k->G0 xs r (k-1)=false)->(k<xs.length->G0 xs r k=true)->NC xs r k=false) :
 af Tryz.prog 209 #[v,.int .i32 r] h (bC fun q h'=>q= .bool false/\av h h'):=by
 obtain⟨va,vn,vc,rfl,hvs⟩:=id hv.open;have hl:xs.length=vn:=hvs.len;subst hl;refine af.of func209 rfl rfl ?_;refine xr func209 rfl ?_;refine xo rfl (ax.cq rfl) ?_;rintro _ h1 ⟨rfl,k1,e1,z1⟩;refine xo rfl (ax.cq rfl) ?_;rintro _ h2 ⟨rfl,k2,e2,z2⟩;have k1:aL h2 h.size 331 [.slice va xs.length vc]:=k1.aq e2;have k2:aL h2 h1.size 21 [.int .i32 r]:=k2;have e02:=e1.trans e2;have hv2:=hv.aq e02;have hsr:=jz (h:=h2) (g:=254) (caps:=[.pointer (some ⟨h.size,0,none⟩),.pointer (some ⟨h1.size,0,none⟩)]) ⟨_,func254,rfl,by kernel_rfl⟩ xs.length (by omega) (G0 xs r) (fun i hi=>D8 k1 k2 hv2 i hi);refine aM 1 [0,1,2,3,4] rfl ?_;refine xr func209 rfl ?_;refine xp rfl (ah H.Dm rfl (k1.cell (i:=0) rfl)) ?_;refine xp rfl (ai.aI underlying331 rfl) ?_;refine xp rfl (ai.makeFunc (vs:=[_,_]) rfl) ?_;refine xo rfl (aj (vs:=[_,_]) func230 rfl H.FI rfl (af.aX (hsr))) ?_;rintro _ h3 ⟨⟨k,rfl,hk,hk1,hk2⟩,hh3⟩;subst hh3;have hf:=hno k hk hk1 hk2;refine aM 1 [0,1,2,3,4,5] rfl ?_;refine ak rfl ?_;refine G.lf [(4,.bool false)] [(0,_),(1,_),(2,_),(3,_),(5,_)] ⟨rfl,rfl,rfl,rfl,rfl,trivial⟩ func209 H.mixed rfl (by kernel_rfl) ?_ ?_
 · refine RQ.an rfl rfl rfl rfl (aF rfl) ?_;refine RQ.an rfl rfl rfl rfl (ah H.Dm rfl (k1.cell (i:=0) rfl)) ?_;refine RQ.an rfl rfl rfl rfl (ai.aI underlying331 rfl) ?_;refine RQ.an rfl rfl rfl rfl (xW rfl rfl) ?_;refine RQ.an rfl rfl rfl rfl (aF rfl) ?_;refine tN (d:=14) rfl (fun g1=>?_) (fun g1=>?_)
   · have g1:=of_decide_eq_true g1;obtain⟨bb,o,t,ha,_,ht,hrow⟩:=hv2.open_slice.iR (i:=k) (by omega);have hgt:xs.getD k (0,0)=t:=by rw[List.getD_eq_getElem?_getD,ht];rfl
     rw[NC,hgt,decide_eq_true (by omega),Bool.true_and] at hf;refine RQ.an rfl rfl rfl rfl (ah H.Dm rfl (k1.cell (i:=0) rfl)) ?_;refine RQ.an rfl rfl rfl rfl (aF rfl) ?_;refine RQ.an rfl rfl rfl rfl (ai.aA underlying331 H.CL rfl rfl k rfl ha (by omega)) ?_;refine RQ.an rfl rfl rfl rfl (aa (off:=0) underlying333 rfl rfl H.DA rfl) ?_;refine RQ.an rfl rfl rfl rfl (ah H.AP rfl (hrow 0 _ rfl)) ?_;refine RQ.an rfl rfl rfl rfl (ah H.AP rfl (k2.cell (i:=0) rfl)) ?_;refine RQ.an rfl rfl rfl rfl (Dr rfl rfl) ?_;refine RQ.an rfl rfl rfl rfl (ai.yZ rfl rfl) ?_;refine RQ.an rfl rfl rfl rfl (ai.assign rfl) ?_;refine RQ.done rfl ?_;exact⟨rfl,aK rfl (hf),rfl,rfl,rfl,rfl,rfl,trivial⟩
   · refine RQ.bD rfl rfl rfl rfl ?_;refine RQ.bD rfl rfl rfl rfl ?_;refine RQ.bD rfl rfl rfl rfl ?_;refine RQ.bD rfl rfl rfl rfl ?_;refine RQ.bD rfl rfl rfl rfl ?_;refine RQ.bD rfl rfl rfl rfl ?_;refine RQ.bD rfl rfl rfl rfl ?_;refine RQ.an rfl rfl rfl rfl (ai.jW rfl rfl) ?_;refine RQ.an rfl rfl rfl rfl (ai.assign rfl) ?_;refine RQ.done rfl ?_;exact⟨rfl,aK rfl (rfl),rfl,rfl,rfl,rfl,rfl,trivial⟩
 · refine G.ret func209 rfl rfl ?_;exact⟨_,rfl,rfl,e02⟩
def O1 (xs:List (Int×Int)):Bool:=(List.range 95).all fun r=>(List.range (xs.length+1)).all fun k=> !((Nat.beq k 0 || !G0 xs ((r+32:Nat):Int) (k-1)) && (Nat.beq k xs.length ||G0 xs ((r+32:Nat):Int) k) && NC xs ((r+32:Nat):Int) k)
theorem Jg (hb:O1 xs=true) (h0:32<=r) (h1:r<127) (k:Nat) (hk:k<=xs.length) (q1:0<k->G0 xs r (k-1)=false) (q2:k<xs.length->G0 xs r k=true):NC xs r k=false:=by
 have h:=List.all_eq_true.1 (List.all_eq_true.1 hb (r-32) (List.mem_range.2 (by omega))) k (List.mem_range.2 (by omega));rw[show r-32+32=r by omega] at h
 have e1:(Nat.beq k 0 || !G0 xs r (k-1))=true:=by
  rcases Nat.eq_zero_or_pos k with rfl|hp
  · rfl
  · rw[q1 hp];simp
 have e2:(Nat.beq k xs.length ||G0 xs r k)=true:=by
  rcases Nat.lt_or_ge k xs.length with hp|hp
  · rw[q2 hp];simp
  · rw[show k=xs.length by omega,Nat.beq_refl];rfl
 rw[e1,e2] at h;simpa using h
theorem jk (hW:oJ h) (h0:32<=r) (h1:r<127):af Tryz.prog 137 #[.int .i32 (r:Nat)] h (bC fun q h'=>q= .int .i64 1/\av h h'):=by
 have hv1:bF NJ h (fun _=>False) (.slice (bQ (some ⟨3,0,none⟩) 0 2 8) (8-0) (8-0)) hidL:=by rw[uW];exact wk (fun q=>q) hW.hid rfl (by decide)
 have hc1:=vj hv1 (by decide) r (Jg (by decide +kernel) h0 h1);refine af.of func137 rfl rfl ?_;refine aQ func137 1 [0,2] rfl ?_;refine ak rfl ?_;refine G.block rfl rfl ?_;refine ak rfl ?_;refine aQ func137 3 [0,2,3] rfl ?_;refine ay rfl rfl (fun hc=>absurd hc (by simp)) (fun _=>?_);refine aQ func137 3 [0,2,3] rfl ?_;refine ay rfl rfl (fun hc=>absurd hc (by simp;omega)) (fun _=>?_);refine G.bB func137 rfl ?_;refine xp rfl (ai.oU underlying334 H.CL rfl  ) ?_;refine br 1 rfl ?_;refine xo rfl (aj (vs:=[_,_]) func209 rfl H.Jr rfl (af.aX (hc1))) ?_;rintro _ g1 ⟨rfl,e1⟩;refine aM 1 [0,2,3] rfl ?_;refine ay rfl rfl (fun hc=>absurd hc (by decide)) (fun _=>?_);have hv2:bF NJ g1 (fun _=>False) (.slice (bQ (some ⟨4,0,none⟩) 0 2 14) (14-0) (14-0)) I3:=by rw[uW];exact wk (fun q=>q) (hW.aq e1).wid rfl (by decide)
 have hc2:=vj hv2 (by decide) r (Jg (by decide +kernel) h0 h1);refine xr func137 rfl ?_;refine xp rfl (ai.oU underlying335 H.CL rfl  ) ?_;refine br 1 rfl ?_;refine xo rfl (aj (vs:=[_,_]) func209 rfl H.Jr rfl (af.aX (hc2))) ?_;rintro _ g2 ⟨rfl,e2⟩;refine aM 1 [0,2,3,11] rfl ?_;refine ay rfl rfl (fun hc=>absurd hc (by decide)) (fun _=>?_);refine az rfl ?_;refine G.aJ ?_;refine aQ func137 1 [0,2,3,11] rfl ?_;refine G.ret func137 rfl rfl ?_;exact⟨_,rfl,rfl,e1.trans e2⟩
theorem nq (hW:oJ h) (h0:32<=r) (h1:r<127):af Tryz.prog 86 #[.int .i32 (r:Nat)] h (bC fun q h'=>q= .int .i32 (r:Nat)/\av h h'):=by
 refine af.of func86 rfl rfl ?_;refine aQ func86 1 [0,2] rfl ?_;refine ak rfl ?_;refine bg func86 1 rfl ?_;refine xo rfl (aj (vs:=[_]) func137 rfl H.zk rfl (af.aX (jk hW h0 h1))) ?_;rintro _ g1 ⟨rfl,e1⟩;refine aM 1 [0,2,5] rfl ?_;refine ay rfl rfl (fun hc=>absurd hc (by decide)) (fun _=>?_);refine az rfl ?_;refine aQ func86 2 [0,2,5] rfl ?_;refine G.ret func86 rfl rfl ?_;exact⟨_,rfl,rfl,e1⟩
end
end Go.Proofs.YtdihgdeciopfpaaGreatDoor
namespace Go.Proofs.YtdihgdeciopfpaaGreatDoor
open Go
structure EO where
 t:By
 c:Int
 were:List (By×Int)
 gone:List (By×Int)
 o:Int
def I4 (t:By) (c:Int):EO:=⟨t,c,[],[],0⟩
def Bb (u:EO):Option EO:=match u.were.getLast? with
 |none=>none
 |some x=>some ⟨x.1,x.2,u.were.dropLast,u.gone++[(u.t,u.c)],0⟩
def HB (u:EO):Option EO:=match u.gone.getLast? with
 |none=>none
 |some x=>some ⟨x.1,x.2,u.were++[(u.t,u.c)],u.gone.dropLast,0⟩
structure Tm (H:List (By×Int)) (p:Nat) (u:EO):Prop where
 now:H[p]? =some (u.t,u.c)
 were:u.were=H.take p
 gone:u.gone=(H.drop (p+1)).reverse
theorem Tm.back {H:List (By×Int)}{p:Nat}{u:EO}(k:Tm H (p+1) u):∃u',Bb u=some u'/\Tm H p u'/\u'.o=0:=by
 have hlt:=(List.getElem?_eq_some_iff.1 k.now).1;obtain⟨x,hx⟩:∃x,H[p]? =some x:=⟨_,List.getElem?_eq_getElem (by omega)⟩
 have hw:u.were=H.take p++[x]:=by rw[k.were,List.take_add_one,hx];rfl
 unfold Bb;rw[hw,List.getLast?_concat];refine⟨_,rfl,⟨hx,by simp,?_⟩,rfl⟩;dsimp only;rw[k.gone]
 have hd:H.drop (p+1)=(u.t,u.c)::H.drop (p+2):=by
  obtain⟨h1,h2⟩:=List.getElem?_eq_some_iff.1 k.now;rw[List.drop_eq_getElem_cons h1,h2]
 rw[hd,List.reverse_cons]
def fA:List By->By
 | []=>[]
 |s::r=>s++fA r
theorem jI:∀(a b:List By),fA (a++b)=fA a++fA b
 | [],_=>rfl
 |s::r,b=>by simp only[List.cons_append,fA,jI r b,List.append_assoc]
theorem BU (l:List By) (i:Nat):fA (l.take i)++fA (l.drop i)=fA l:=by rw[<-jI,List.take_append_drop]
end Go.Proofs.YtdihgdeciopfpaaGreatDoor
namespace Go.Proofs.YtdihgdeciopfpaaGreatDoor
open Go.Proofs.Tryz
open Go Go.Lw
set_option maxRecDepth 20000
section
variable {h:au}
abbrev EN (x:By):Value:=.string (bs x)
def NE (l:List By):Prop:=∀s∈l,s≠[]
theorem NE.take {l:List By}(h:NE l) (i:Nat):NE (l.take i):=fun s hs=>h s (List.mem_of_mem_take hs)
theorem NE.drop {l:List By}(h:NE l) (i:Nat):NE (l.drop i):=fun s hs=>h s (List.mem_of_mem_drop hs)
def Cv (h:au) (O:Nat->Prop) (v:Value) (s:By):Prop :=
 ∃b vl l,v= .pointer (some ⟨b,0,none⟩)/\¬O b/\aL h b 276 [.bool true,vl,.int .i64 (s.length:Nat)]/\bF Iv h O vl l/\fA l=s/\NE l
theorem Cv.mv {h h':au}{O O':Nat->Prop}{v:Value}{s:By}(k:Cv h O v s) (m:Mv O O' h h'):Cv h' O' v s:=by
 obtain⟨b,vl,l,hv,ho,hk,h1,h2,h3⟩:=k;have hm:=m.block b hk.lt ho;exact⟨b,vl,l,hv,hm.2,hm.1.trans hk,h1.mv m,h2,h3⟩
theorem Er {s:By}(h:decide (bs s=⟨#[]⟩)=true):s=[]:=ef (of_decide_eq_true h:bs s=bs [])
theorem DW {O:Nat->Prop}{v:Value}{l:List By}(hv:bF Iv h O v l) (hl:(fA l).length<=100000000) :
 af Tryz.prog 116 #[v] h (bC fun r h'=>(∃b:Nat,r= .pointer (some ⟨b,0,none⟩)/\h.size<=b/\aL h' b 276 [.bool true,v,.int .i64 ((fA l).length:Nat)])/\av h h'):=by
 obtain⟨oa,n,c,rfl,hsl⟩:=id hv.open;have hn:=hsl.len;have hcap:=hsl.cap;have hle:=hsl.le;simp only[maxLen] at hcap;refine af.of func116 rfl rfl ?_;refine aQ func116 1 [0,2] rfl ?_;refine bg func116 1 rfl ?_;refine xp rfl (aE (H.Eu _ _ _ _) rfl) ?_;refine xo rfl (ax.cq rfl) ?_;rintro _ h1 ⟨rfl,k1,e1,z1⟩;have k1:aL h1 h.size 276 [.bool true,.slice oa n c,.int .i64 0]:=k1;refine aM 1 [0,2,3] rfl ?_;refine ak rfl ?_;refine bg func116 1 rfl ?_;refine xp rfl (ai.aI underlying59 rfl) ?_;refine aM 1 [0,2,3,9,10,11] rfl ?_;refine G.block rfl rfl ?_;refine bf (σ:=Nat) (fun i=>[(3,.pointer (some ⟨h.size,0,none⟩)),(9,.slice oa n c),(10,.int .i64 (n:Nat)),(11,.int .i64 (i:Nat))]) (fun i h'=>i<=n/\aL h' h.size 276 [.bool true,.slice oa n c,.int .i64 ((fA (l.take i)).length:Nat)]/\av h h') (fun i=>n-i) (0) rfl ⟨rfl,rfl,rfl,rfl,trivial⟩ ⟨Nat.zero_le _,k1,e1⟩ ?_;rintro i g ⟨hi,kg,eg⟩ ih;refine aQ func116 1 [3,9,10,11,12] rfl ?_;refine ak rfl ?_;refine aN rfl rfl (fun hlt=>?_) (fun hlt=>?_)
 · obtain⟨s,hs⟩:∃s,l[i]? =some s:=⟨_,List.getElem?_eq_getElem (by omega)⟩
   obtain⟨b,o,cs,ha,_,hrow,rfl⟩:=(hsl.mv (Mv.aq eg)).get i s hs;have hbs:=aR s;have htk:l.take (i+1)=l.take i++[s]:=by rw[List.take_add_one,hs];rfl
   have hfl:(fA (l.take (i+1))).length=(fA (l.take i)).length+s.length:=by rw[htk,jI,List.length_append];simp[fA]
   have hle2:(fA (l.take (i+1))).length<=(fA l).length:=by rw[<-BU l (i+1),List.length_append];omega
   have hz:=eg.size;refine az rfl ?_;refine ak rfl ?_;refine G.block rfl rfl ?_;refine xr func116 rfl ?_;refine xp rfl (ai.aA underlying59 H.gU rfl rfl i rfl ha (by omega)) ?_;refine xp rfl (ah H.gr rfl (hrow 0 _ rfl)) ?_;refine aM 1 [3,5,9,10,11,12] rfl ?_;refine G.bB func116 rfl ?_;refine bO 2 rfl rfl (aa (off:=2) underlying276 rfl rfl H.bG rfl) ?_;refine xp rfl (ah H.bU rfl (kg.cell (i:=2) rfl)) ?_;refine bO 1 rfl rfl (ai.aU underlying9 rfl) ?_;refine xp rfl (ai.aT rfl rfl ⟨by omega,by omega⟩) ?_;refine bO 1 rfl rfl (aa (off:=2) underlying276 rfl rfl H.bG rfl) ?_;refine RW.bT rfl rfl rfl (ax.aH H.bG rfl rfl kg (by first|decide|exact of_decide_eq_true rfl|(simp;done)|(simp;omega)) rfl) ?_;rintro _ g2 ⟨rfl,k2,x2,z2⟩;have k2:aL g2 h.size 276 [.bool true,.slice oa n c,.int .i64 ((fA (l.take (i+1))).length:Nat)]:=by rw[hfl,<-hbs];exact k2
   refine xd [3,5,9,10,11,12] rfl ?_;refine G.aJ ?_;refine G.bB func116 rfl ?_;refine xp rfl (ai.aT rfl rfl ⟨by omega,by omega⟩) ?_;refine aM 1 [3,5,9,10,11,12] rfl ?_;exact ih (i+1) _ _ ⟨rfl,rfl,rfl,rfl,trivial⟩ ⟨by omega,k2,av.only eg x2 (Nat.le_refl _)⟩ (by omega)
 · rw[List.take_of_length_le (by omega)] at kg;refine aW rfl rfl ?_;refine aQ func116 2 [2,3,9,10,11,12] rfl ?_;refine G.ret func116 rfl rfl ?_;exact⟨_,rfl,⟨_,rfl,Nat.le_refl _,kg⟩,eg⟩
theorem yG {O:Nat->Prop}{v:Value}{l:List By}(hv:bF Iv h O v l) (s:By) (hl:l.length<=100000000) :
 af Tryz.prog 117 #[v,.string (bs s)] h (bC fun r h'=>((s=[]/\r=v)\/(s≠[]/\aC h' h.size 9 1 r (l.length+1) (l.map EN++[EN s])))/\av h h'):=by
 obtain⟨oa,n,c,rfl,hsl⟩:=id hv.open;have hn:=hsl.len;have hle:=hsl.le;have hcap:=hsl.cap;have hrow:=(bF.row (h1:=fun _=>rfl) hv).2.1;refine af.of func117 rfl rfl ?_;refine aQ func117 1 [0,1,4] rfl ?_;refine ak rfl ?_;refine bg func117 1 rfl ?_;refine xp rfl (ai.eX rfl rfl) ?_;refine xd [0,1,4,6] rfl ?_;refine ay rfl rfl (fun hs=>?_) (fun hs=>?_)
 · refine aQ func117 2 [0,1,4,6] rfl ?_;refine G.ret func117 rfl rfl ?_;exact⟨_,rfl,.inl ⟨Er hs,rfl⟩,Ext.refl _ _⟩
 · have hs0:s≠[]:=fun e=>by subst e;simp[bs] at hs
   refine az rfl ?_;refine bg func117 2 rfl ?_;refine xp rfl (ai.aI underlying59 rfl) ?_;refine bO 1 rfl rfl (ai.aI underlying59 rfl) ?_;refine xp rfl (ai.ud underlying59 H.gU rfl rfl n rfl rfl n rfl (Nat.le_refl _) hle) ?_;refine br 1 rfl ?_;refine xo rfl (ax.bA (us:=[_]) underlying59 H.KR rfl rfl (by decide) (by simp[Value.oneCell'])) ?_;rintro _ h1 ⟨rfl,hh1⟩;have e1:av h h1:=by rw[hh1];exact Ext.push _ _ _
   have hr1:Lw.rowAt h1 h.size 0 [EN s]:=by rw[hh1];exact fy h [EN s] _
   refine xo rfl (ax.Cq underlying59 H.KR rfl rfl (xs:=l.map EN) (news:=[EN s]) (by simp[hn]) (hrow.imp id fun⟨b,o,q1,q2⟩=>⟨b,o,q1,e1.rowAt (fun q=>q) q2⟩) rfl (by simp) ⟨_,_,rfl,hr1⟩ (by decide) (by simp only[maxLen];omega) (by omega)) ?_;rintro v2 h2 ⟨ho2,e2⟩;refine aM 1 [0,1,4,6] rfl ?_;refine G.ret func117 rfl rfl ?_;have hz:=e1.size;have ho3:aC h2 h.size 9 1 v2 (l.length+1) (l.map EN++[EN s]):=by rw[hn];exact aC.lower ho2 hz
   exact⟨_,rfl,.inr ⟨hs0,ho3⟩,e1.trans e2⟩
def Ot (Z:Nat->Prop) (h:au):Nat->Prop:=fun b=>¬((cu h b 276\/cu h b 9)/\¬Z b)
theorem Ki {Z:Nat->Prop}{M:Nat->Prop}{h':au}(x:Ext M h h') (hM:∀b,M b->Ot Z h b):Mv (Ot Z h) (Ot Z h') h h':=Mv.eE x fun b _ hn=>⟨fun q=>hn (hM b q),fun q=>hn fun q2=>q ⟨q2.1.imp (fun k=>k.ext x (fun q3=>hM b q3 q2)) (fun k=>k.ext x (fun q3=>hM b q3 q2)),q2.2⟩⟩
theorem Mv.K9 {Z:Nat->Prop}{h':au}(x:av h h'):Mv (Ot Z h) (Ot Z h') h h':=Ki x fun _ q=>q.elim
abbrev NN (Z:Nat->Prop) (h:au) (v:Value) (s:By):Prop:=Cv h (Ot Z h) v s
theorem wX (l:List By):∀u∈l.map EN,u.oneCell'=true:=fun u hu=>by obtain⟨_,_,rfl⟩:=List.mem_map.1 hu;rfl
end
end Go.Proofs.YtdihgdeciopfpaaGreatDoor

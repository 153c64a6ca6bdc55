/- What the proof of the statement leans on (part 30). -/
import Derived.Shelf.Strings.Builder1
import Derived.Shelf.Strings.Builder2
import Derived.Shelf.Strings.OnBuilder
import Derived.Shelf.Small.Utf8
import Derived.Shelf.Small.Strs
import Derived.Shelf.Strings.BuilderF
import Derived.Shelf.Strings.BuilderK
import Derived.Shelf.Strings.Builder2Cap
import Derived.Shelf.Strconv.Itoa0
import Derived.Shelf.Strconv.Itoa1
import Derived.Shelf.LaysM
import Derived.Shelf.Strconv.Itoa2
import Derived.Shelf.Strconv.Itoa3
import Derived.Shelf.Strings.Search1
import Derived.Shelf.Strings.Search2
import Derived.Shelf.Strings.Search3
import Derived.Shelf.Strings.Cut
import Derived.Shelf.Strings.Shaped
import Derived.Shelf.Strings.LastIndex
import Derived.Shelf.Strings.LastIndexAll
import Derived.Shelf.Strings.Prefix
import Derived.Shelf.Unicode.Decode
import Derived.Shelf.Bits.Mul64
import Derived.Shelf.Strings.Repeat
import Derived.Shelf.Unicode.DecodeSlow
import Derived.Shelf.Unicode.DecodeAny
import Derived.Shelf.Unicode.DecodeLast
import Derived.Test.YtdihgdeciopfpaaGreatDoorProg
import Derived.Lib.MakeNoZero
import Derived.Laws.CopyOwn
import Derived.Test.YtdihgdeciopfpaaGreatDoorQzc

namespace Go.Proofs
open Go.Shelf
def Tryz.CD:Go.Shelf.Ren:=⟨fun| 149=>276| 222=>320|n=>n,fun| 9=>9| 5=>5| 3=>3| 4=>4|n=>n,fun|n=>n⟩
theorem Tryz.KT:Go.Proofs.Lays.n149 Tryz.prog Tryz.CD:= {
  mixed:=by kernel_rfl
  f149:=Tryz.func276.trans (congrArg some (by kernel_rfl))
  f222:=Tryz.func320.trans (congrArg some (by kernel_rfl))
  t3:=Tryz.underlying3
  a3:=Tryz.isAgg3
  z3:=Tryz.sizeOf3
  v3:=Tryz.zeroValue3
  t4:=Tryz.underlying4
  a4:=Tryz.isAgg4
  z4:=Tryz.sizeOf4
  v4:=Tryz.zeroValue4
  t5:=Tryz.underlying5
  a5:=Tryz.isAgg5
  z5:=Tryz.sizeOf5
  v5:=Tryz.zeroValue5
  t9:=Tryz.underlying9
  a9:=Tryz.isAgg9
  z9:=Tryz.sizeOf9
  v9:=Tryz.zeroValue9 }
def Tryz.CB:Go.Shelf.Ren:=⟨fun| 212=>355| 263=>362| 264=>363|n=>n,fun| 46=>321| 51=>374| 146=>375| 53=>236| 148=>440|n=>n,fun|n=>n⟩
theorem Tryz.KR:Go.Proofs.Lays.n212 Tryz.prog Tryz.CB:= {
  mixed:=by kernel_rfl
  f212:=Tryz.func355.trans (congrArg some (by kernel_rfl))
  f263:=Tryz.func362.trans (congrArg some (by kernel_rfl))
  f264:=Tryz.func363.trans (congrArg some (by kernel_rfl))
  t46:=Tryz.underlying321
  a46:=Tryz.isAgg321
  z46:=Tryz.sizeOf321
  v46:=Tryz.zeroValue321
  t51:=Tryz.underlying374
  a51:=Tryz.isAgg374
  z51:=Tryz.sizeOf374
  v51:=Tryz.zeroValue374
  t53:=Tryz.underlying236
  a53:=Tryz.isAgg236
  z53:=Tryz.sizeOf236
  v53:=Tryz.zeroValue236
  t146:=Tryz.underlying375
  a146:=Tryz.isAgg375
  z146:=Tryz.sizeOf375
  v146:=Tryz.zeroValue375
  t148:=Tryz.underlying440
  a148:=Tryz.isAgg440
  z148:=Tryz.sizeOf440
  v148:=Tryz.zeroValue440 }
def Tryz.sD:Go.Shelf.Ren:=⟨fun| 105=>339| 212=>355| 99=>52| 165=>336| 166=>44| 170=>114| 169=>46| 263=>362| 264=>363| 206=>100| 240=>91| 241=>353| 276=>145| 277=>360|n=>n,fun| 9=>9| 3=>3| 4=>4| 20=>20| 0=>0| 46=>321| 109=>433| 5=>5| 72=>112| 76=>115| 51=>374| 146=>375| 53=>236| 148=>440| 70=>109| 37=>110| 75=>114| 127=>172| 164=>247| 80=>67|n=>n,fun|n=>n⟩
theorem Tryz.lC:Go.Proofs.Lays.n105 Tryz.prog Tryz.sD:= {
  mixed:=by kernel_rfl
  f99:=Tryz.func52.trans (congrArg some (by kernel_rfl))
  f105:=Tryz.func339.trans (congrArg some (by kernel_rfl))
  f165:=Tryz.func336.trans (congrArg some (by kernel_rfl))
  f166:=Tryz.func44.trans (congrArg some (by kernel_rfl))
  f169:=Tryz.func46.trans (congrArg some (by kernel_rfl))
  f170:=Tryz.func114.trans (congrArg some (by kernel_rfl))
  f206:=Tryz.func100.trans (congrArg some (by kernel_rfl))
  f212:=Tryz.func355.trans (congrArg some (by kernel_rfl))
  f240:=Tryz.func91.trans (congrArg some (by kernel_rfl))
  f241:=Tryz.func353.trans (congrArg some (by kernel_rfl))
  f263:=Tryz.func362.trans (congrArg some (by kernel_rfl))
  f264:=Tryz.func363.trans (congrArg some (by kernel_rfl))
  f276:=Tryz.func145.trans (congrArg some (by kernel_rfl))
  f277:=Tryz.func360.trans (congrArg some (by kernel_rfl))
  t0:=Tryz.underlying0
  a0:=Tryz.isAgg0
  z0:=Tryz.sizeOf0
  v0:=Tryz.zeroValue0
  t3:=Tryz.underlying3
  a3:=Tryz.isAgg3
  z3:=Tryz.sizeOf3
  v3:=Tryz.zeroValue3
  t4:=Tryz.underlying4
  a4:=Tryz.isAgg4
  z4:=Tryz.sizeOf4
  v4:=Tryz.zeroValue4
  t5:=Tryz.underlying5
  a5:=Tryz.isAgg5
  z5:=Tryz.sizeOf5
  v5:=Tryz.zeroValue5
  t9:=Tryz.underlying9
  a9:=Tryz.isAgg9
  z9:=Tryz.sizeOf9
  v9:=Tryz.zeroValue9
  t20:=Tryz.underlying20
  a20:=Tryz.isAgg20
  z20:=Tryz.sizeOf20
  v20:=Tryz.zeroValue20
  t37:=Tryz.underlying110
  a37:=Tryz.isAgg110
  z37:=Tryz.sizeOf110
  v37:=Tryz.zeroValue110
  t46:=Tryz.underlying321
  a46:=Tryz.isAgg321
  z46:=Tryz.sizeOf321
  v46:=Tryz.zeroValue321
  t51:=Tryz.underlying374
  a51:=Tryz.isAgg374
  z51:=Tryz.sizeOf374
  v51:=Tryz.zeroValue374
  t53:=Tryz.underlying236
  a53:=Tryz.isAgg236
  z53:=Tryz.sizeOf236
  v53:=Tryz.zeroValue236
  t70:=Tryz.underlying109
  a70:=Tryz.isAgg109
  z70:=Tryz.sizeOf109
  v70:=Tryz.zeroValue109
  t72:=Tryz.underlying112
  a72:=Tryz.isAgg112
  z72:=Tryz.sizeOf112
  v72:=Tryz.zeroValue112
  t75:=Tryz.underlying114
  a75:=Tryz.isAgg114
  z75:=Tryz.sizeOf114
  v75:=Tryz.zeroValue114
  t76:=Tryz.underlying115
  a76:=Tryz.isAgg115
  z76:=Tryz.sizeOf115
  v76:=Tryz.zeroValue115
  t109:=Tryz.underlying433
  a109:=Tryz.isAgg433
  z109:=Tryz.sizeOf433
  v109:=Tryz.zeroValue433
  t127:=Tryz.underlying172
  a127:=Tryz.isAgg172
  z127:=Tryz.sizeOf172
  v127:=Tryz.zeroValue172
  t146:=Tryz.underlying375
  a146:=Tryz.isAgg375
  z146:=Tryz.sizeOf375
  v146:=Tryz.zeroValue375
  t148:=Tryz.underlying440
  a148:=Tryz.isAgg440
  z148:=Tryz.sizeOf440
  v148:=Tryz.zeroValue440
  t164:=Tryz.underlying247
  a164:=Tryz.isAgg247
  z164:=Tryz.sizeOf247
  v164:=Tryz.zeroValue247 }
def Tryz.CA:Go.Shelf.Ren:=⟨fun| 271=>302| 120=>338| 197=>150| 260=>210|n=>n,fun| 9=>9| 21=>21| 3=>3| 4=>4| 5=>5| 105=>250| 119=>336| 0=>0| 46=>321| 139=>339| 138=>338|n=>n,fun| 3=>6| 4=>7|n=>n⟩
theorem Tryz.KQ:Go.Proofs.Lays.n271 Tryz.prog Tryz.CA:= {
  mixed:=by kernel_rfl
  f120:=Tryz.func338.trans (congrArg some (by kernel_rfl))
  f197:=Tryz.func150.trans (congrArg some (by kernel_rfl))
  f260:=Tryz.func210.trans (congrArg some (by kernel_rfl))
  f271:=Tryz.func302.trans (congrArg some (by kernel_rfl))
  t0:=Tryz.underlying0
  a0:=Tryz.isAgg0
  z0:=Tryz.sizeOf0
  v0:=Tryz.zeroValue0
  t3:=Tryz.underlying3
  a3:=Tryz.isAgg3
  z3:=Tryz.sizeOf3
  v3:=Tryz.zeroValue3
  t4:=Tryz.underlying4
  a4:=Tryz.isAgg4
  z4:=Tryz.sizeOf4
  v4:=Tryz.zeroValue4
  t5:=Tryz.underlying5
  a5:=Tryz.isAgg5
  z5:=Tryz.sizeOf5
  v5:=Tryz.zeroValue5
  t9:=Tryz.underlying9
  a9:=Tryz.isAgg9
  z9:=Tryz.sizeOf9
  v9:=Tryz.zeroValue9
  t21:=Tryz.underlying21
  a21:=Tryz.isAgg21
  z21:=Tryz.sizeOf21
  v21:=Tryz.zeroValue21
  t46:=Tryz.underlying321
  a46:=Tryz.isAgg321
  z46:=Tryz.sizeOf321
  v46:=Tryz.zeroValue321
  t105:=Tryz.underlying250
  a105:=Tryz.isAgg250
  z105:=Tryz.sizeOf250
  v105:=Tryz.zeroValue250
  t119:=Tryz.underlying336
  a119:=Tryz.isAgg336
  z119:=Tryz.sizeOf336
  t138:=Tryz.underlying338
  a138:=Tryz.isAgg338
  z138:=Tryz.sizeOf338
  v138:=Tryz.zeroValue338
  t139:=Tryz.underlying339
  a139:=Tryz.isAgg339
  z139:=Tryz.sizeOf339
  v139:=Tryz.zeroValue339
  g3:=by kernel_rfl
  g4:=by kernel_rfl }
open Go.RowKit Go.Lib in
theorem Tryz.strings_LastIndexByte (s:ByteArray) (c:Int) (hs:s.size<4611686018427387904) (w:World) :
    Calls Tryz.prog 276 #[.string s,.int .u8 c] w fun e w'=>e= .returned (.int .i64 (Lib.lastIndexByte s c))/\w'=w:=Any.strings_LastIndexByte Tryz.KT s c hs w
open Go.RowKit Go.Lib in
theorem Tryz.bits_Mul (x y:Nat) (hx:x<18446744073709551616) (hy:y<18446744073709551616) (w:World) :
    Calls Tryz.prog 355 #[.int .u64 x,.int .u64 y] w fun e w'=>e= .returned (.tuple #[.int .u64 ((x*y / 18446744073709551616:Nat):Int),.int .u64 ((x*y%18446744073709551616:Nat):Int)])/\w'=w:=Any.bits_Mul Tryz.KR x y hx hy w
open Go.RowKit Go.Lib in
theorem Tryz.strings_Repeat_zero (s:ByteArray) (w:World) :
    Calls Tryz.prog 339 #[.string s,.int .i64 0] w fun e w'=>e= .returned (.string ⟨#[]⟩)/\w'=w:=Any.strings_Repeat_zero Tryz.lC s w
open Go.RowKit Go.Lib in
theorem Tryz.strings_Repeat_one (s:ByteArray) (w:World) :
    Calls Tryz.prog 339 #[.string s,.int .i64 1] w fun e w'=>e= .returned (.string s)/\w'=w:=Any.strings_Repeat_one Tryz.lC s w
open Go.RowKit Go.Lib in
theorem Tryz.utf8_DecodeLastRuneInString (s:ByteArray) (w:World) (hs:s.size<=9223372036854775807) (hT:Lib.Utf8Tabs 6 7 w) :
    Calls Tryz.prog 302 #[.string s] w fun e w'=>e= .returned (.tuple #[.int .i32 (Lib.decodeLastL s.data.toList).1,.int .i64 (Lib.decodeLastL s.data.toList).2])/\Below w.heap.size w w':=Any.utf8_DecodeLastRuneInString Tryz.KQ s w hs hT
end Go.Proofs
namespace Go.Proofs.YtdihgdeciopfpaaGreatDoor
open Go.Proofs.Tryz
open Go Go.Lw
set_option maxRecDepth 20000 set_option maxHeartbeats 4000000
section
variable {s:MS}{h:aj}{O:Nat->Prop}
theorem Ez (l:By) (p:Nat):Utf8.decode (bs l) p=(tq (l.drop p),aZ (l.drop p)):=by
 have e:∀i,(bs l).get! i=l.getD i 0:=fun i=>by
  show (l.toArray)[i]! =_
  rw[getElem!_def,List.getElem?_toArray,List.getD_eq_getElem?_getD];cases l[i]? <;>rfl
 rw[Lib.decode_at];unfold tq aZ;rw[e,e,e,e,aR,gp,gp,gp,gp,List.length_drop];rfl
theorem pZ:∀(n k:Nat) (l:By) (a:Nat),l.length<=n->l.length<=k->bM n l a=bM k l a
 | 0,0,_,_,_,_=>rfl
 | 0,k+1,l,a,h,_=>by
  have:l=[]:=List.length_eq_zero_iff.1 (by omega);rw[bM,bM,if_pos this]
 |n+1,0,l,a,_,h=>by
  have:l=[]:=List.length_eq_zero_iff.1 (by omega);rw[bM,bM,if_pos this]
 |n+1,k+1,l,a,h1,h2=>by
  rw[bM,bM]
  by_cases hl:l=[]
  · rw[if_pos hl,if_pos hl]
  · have:=dG hl;rw[if_neg hl,if_neg hl,pZ n k _ _ (by rw[List.length_drop];omega) (by rw[List.length_drop];omega)]
def zy (s:By) (p:Nat):List Nat:=bM s.length (s.drop p) p
theorem G4 {s:By}{p:Nat}(h:s.length<=p):zy s p=[]:=by
 unfold zy;rw[List.drop_of_length_le h];cases s.length<;>rfl
theorem Eo {s:By}{p:Nat}(h:p<s.length):zy s p=p::zy s (p+aZ (s.drop p))/\1<=aZ (s.drop p)/\p+aZ (s.drop p)<=s.length:=by
 have hne:s.drop p≠[]:=by intro e;have:=congrArg List.length e;rw[List.length_drop,List.length_nil] at this;omega
 have hr:=dG hne;have hd:(s.drop p).length=s.length-p:=List.length_drop;refine⟨?_,hr.1,by omega⟩;unfold zy;obtain⟨n,hn⟩:∃n,s.length=n+1:=⟨s.length-1,by omega⟩
 conv=>lhs;rw[hn,bM,if_neg hne,List.drop_drop]
 rw[pZ n s.length _ _ (by rw[List.length_drop];omega) (by rw[List.length_drop];omega)]
theorem An (s:By) (hs:s.length<=1000000):af Tryz.prog 224 #[.string (bs s)] h (bf fun r h'=>b7 dA h' h.size 3 r (cE s)/\aq h h'):=by
 have hbs:=aR s;refine eV ?_;refine ax ?_;refine xo rfl (aB.ve underlying9 rfl) ?_;rintro _ h1 ⟨rfl,i1,e1,z1⟩;refine ax ?_;refine qS (σ:=Nat×Value×List Nat) (fun w=>[(3,w.2.1)]) (fun w g=>gi g h.size (bs s) w.1/\b7 dA g (h.size+1) 3 w.2.1 w.2.2/\Ext (fun b=>b=h.size) h1 g/\w.2.2++zy s w.1=cE s/\w.1<=s.length/\w.2.2.length<=w.1) (fun w=>s.length-w.1) ((0,.slice none 0 0,[])) ⟨i1,b7.nil dA h1 (h.size+1) 3,Ext.refl _ _,rfl,Nat.zero_le _,Nat.le_refl _⟩ rfl ?_;rintro⟨p,v,xs⟩ g ⟨hI,hw,hx,hf,hp,hl⟩ ih
 try dsimp only
 dsimp only at hI hw hx hf hp hl;have hgz:=hx.size
 by_cases hlt:p<s.length
 · obtain⟨f1,f2,f3⟩:=Eo hlt;have hz:p<(bs s).size:=by omega
   refine ax ?_;refine xo rfl (aB.AK rfl (hI) (hz)) ?_;rintro _ g1 ⟨rfl,i2,x2,z2⟩;rw[Ez] at *;refine ax ?_;refine tf rfl (by simp) ?_;have hw1:b7 dA g1 (h.size+1) 3 v xs:=az.ext x2 hw (fun b hb k=>by have:=az.lt hw hb;omega);refine ax ?_;refine xo rfl (xI [_]) ?_;rintro _ _ ⟨rfl,rfl⟩;refine xo rfl (F9 rfl rfl hw1 rfl rfl) ?_;rintro v2 g2 ⟨ho2,hx2,hx2',hv2⟩;refine ax ?_;have i3:=i2.ext hx2 (fun k=>by have:=az.lt hw1 (b:=h.size) k.symm;omega);have ho2:b7 dA g2 (h.size+1) 3 v2 (xs++[p]):=b7.of ho2 rfl rfl rfl;exact ih (p+aZ (s.drop p),v2,xs++[p]) ⟨i3,ho2,(hx.trans x2).Se hx2 (fun b hb k=>by have:=az.lt hw1 (b:=b) k.symm;omega),by rw[List.append_assoc,List.singleton_append,<-f1];exact hf,f3,by rw[List.length_append];simp only[List.length_cons,List.length_nil];omega⟩
 · refine ax ?_;refine xo rfl (aB.AL rfl (hI) ((by omega))) ?_;rintro _ g1 ⟨rfl,rfl⟩;refine ax ?_;refine qT rfl (by simp) ?_;refine ax ?_;refine dS ?_;rw[G4 (by omega),List.append_nil] at hf;subst hf;exact⟨_,rfl,hw.lower (by omega),aq.only e1 hx (Nat.le_refl _)⟩
theorem EA (hg:tG h) (l:By) (hl:l≠[]):af Tryz.prog 150 #[.string (bs l)] h (bf fun r h'=>r= .tuple #[.int .i32 (tq l:Nat),.int .i64 (aZ l:Nat)]/\aq h h'):=by
 refine af.qj fun w hw=>?_
 subst hw;have hT:Lib.Utf8Tabs 6 7 w:=⟨fun c hc=>by rw[cR];exact hg.utf.1 c hc,fun i hi=>⟨by rw[cR];exact(hg.utf.2 i hi).1,by rw[cR];exact(hg.utf.2 i hi).2⟩⟩
 refine(Tryz.utf8_DecodeRuneInString (bs l) w hT).mono ?_;rintro e w' ⟨rfl,hb⟩
 have hn:Lib.decodeGo (bs l)=(tq l,aZ l):=by
  have h0:¬(bs l).size=0:=by rw[aR];have:=List.length_pos_iff.2 hl;omega
  unfold Lib.decodeGo;rw[if_neg h0,Lib.decode_N,qF];rfl
 rw[hn];exact⟨_,rfl,⟨rfl,⟨hb.size,fun b hlt _=>hb.block b hlt⟩⟩,hb.os,hb.tape,hb.output⟩
theorem G5 (l:List Nat) (a:Int) (i x:Nat) (h:l[i]? =some x):(l.take (i+1)).foldl (fun(o k:Nat)=>if (k:Int)<=a then k else o) 0=if (x:Int)<=a then x else (l.take i).foldl (fun(o k:Nat)=>if (k:Int)<=a then k else o) 0:=by
 rw[List.take_add_one,h,Option.toList_some,List.foldl_append];rfl
theorem rI (s:By) (a:Int) (hs:s.length<=1000000):af Tryz.prog 168 #[.string (bs s),.int .i64 a] h (bf fun r h'=>r= .int .i64 (nT s a:Nat)/\aq h h'):=by
 have hbs:=aR s;refine eV ?_;refine ax ?_;refine dM (fun c=>?_) (fun c=>?_)
 · refine ax ?_;refine dS ?_;have e:nT s a=s.length:=by unfold nT;rw[if_pos (by omega)]
   exact⟨_,rfl,congrArg (Value.int .i64) (by rw[e,hbs]),Ext.refl _ _⟩
 · refine ax ?_;refine xo rfl (dz rfl (An s hs)) ?_;rintro v g ⟨hw,e1⟩;have hr:bB ia g (fun _=>False) v (cE s):=hw.read (fun _ _ k=>k);obtain⟨oa,n,cp,rfl,hsl⟩:=hr.open;have hn:=hsl.len;subst hn;have hcap:=hsl.cap;have hle:=hsl.le;unfold maxLen at hcap;refine ax ?_;refine qS (σ:=Nat) (fun i=>[(5,.int .i64 (((cE s).take i).foldl (fun(o k:Nat)=>if (k:Int)<=a then k else o) 0:Nat)),(17,.int .i64 (i:Nat))]) (fun i g'=>g'=g/\i<=(cE s).length) (fun i=>(cE s).length-i) (0) ⟨rfl,Nat.zero_le _⟩ rfl ?_;rintro i g' ⟨rfl,hi⟩ ih;refine ax ?_;refine dM (fun hlt=>?_) (fun hlt=>?_)
   · have hil:i<(cE s).length:=by omega
     obtain⟨b,o,x,ha,_,hx,hc⟩:=hsl.at hil;have hst:=G5 (cE s) a i x hx
     iterate 4 refine dc ?_
     refine fE ?_;refine xp rfl (fN rfl rfl i rfl ha) ?_;refine xp rfl (bJ rfl hc) ?_;refine ax ?_;refine dM (fun hk=>?_) (fun hk=>?_)
     · refine ax ?_;rw[if_pos hk] at hst;rw[<-hst];exact ih (i+1) ⟨rfl,by omega⟩
     · refine ax ?_;rw[if_neg hk] at hst;rw[<-hst];exact ih (i+1) ⟨rfl,by omega⟩
   · refine ax ?_;refine dS ?_;have hil:i=(cE s).length:=by omega
     have e:nT s a=(cE s).foldl (fun(o k:Nat)=>if (k:Int)<=a then k else o) 0:=by unfold nT;rw[if_neg (by omega)]
     exact⟨_,rfl,congrArg (Value.int .i64) (by rw[e,hil,List.take_length]),e1⟩
def S3:gH Bool:=.flat Value.bool fun _=>rfl
def tu (s:MS) (rv hv lv fv:Value):List Value:=[.string (bs s.text),.int .i64 s.cur,.int .i64 s.mode,.int .i64 s.mark,rv,hv,.int .i64 s.at_,.string (bs s.draft),.int .i64 s.last,.int .i64 s.from_,.int .i64 s.to_,.string (bs s.query),.int .i64 s.found,.string (bs s.saved),.int .i64 s.savedAt,.int .i64 s.was,lv,fv,.int .i64 s.bells]
structure xK (O:Nat->Prop) (h:aj) (s:MS) (rv hv lv fv:Value):Prop where
 ring:bB yB h O rv s.ring
 hist:bB yB h O hv s.hist
 lines:bB yB h O lv s.lines
 flags:bB S3 h O fv s.flags
theorem xK.mv {O O':Nat->Prop}{h h':aj}{s:MS}{rv hv lv fv:Value}(k:xK O h s rv hv lv fv) (m:Mv O O' h h'):xK O' h' s rv hv lv fv:=⟨k.ring.mv m,k.hist.mv m,k.lines.mv m,k.flags.mv m⟩
theorem xK.ak {O:Nat->Prop}{h h':aj}{s:MS}{rv hv lv fv:Value}(k:xK O h s rv hv lv fv) (e:aq h h'):xK O h' s rv hv lv fv:=k.mv (Mv.ak e)
theorem xK.of {t:MS}{rv hv lv fv:Value}(k:xK O h s rv hv lv fv) (h1:t.ring=s.ring) (h2:t.hist=s.hist) (h3:t.lines=s.lines) (h4:t.flags=s.flags):xK O h t rv hv lv fv:=⟨h1▸k.ring,h2▸k.hist,h3▸k.lines,h4▸k.flags⟩
def mw (O:Nat->Prop) (h:aj) (v:Value) (s:MS):Prop:=∃rv hv lv fv,v= .agg (tu s rv hv lv fv).toArray/\xK O h s rv hv lv fv
theorem mw.get {v:Value}(k:mw O h v s):∃xa xn xc ya yn yc za zn zc ua un uc,v= .agg (tu s (.slice xa xn xc) (.slice ya yn yc) (.slice za zn zc) (.slice ua un uc)).toArray/\xK O h s (.slice xa xn xc) (.slice ya yn yc) (.slice za zn zc) (.slice ua un uc):=by
 obtain⟨rv,hv,lv,fv,rfl,hS⟩:=k;obtain⟨xa,xn,xc,rfl,_⟩:=hS.ring.open;obtain⟨ya,yn,yc,rfl,_⟩:=hS.hist.open;obtain⟨za,zn,zc,rfl,_⟩:=hS.lines.open;obtain⟨ua,un,uc,rfl,_⟩:=hS.flags.open;exact⟨xa,xn,xc,ya,yn,yc,za,zn,zc,ua,un,uc,rfl,hS⟩
theorem ms1 {xa ya za ua:Option Addr}{xn xc yn yc zn zc un uc:Nat}:∀v∈tu s (.slice xa xn xc) (.slice ya yn yc) (.slice za zn zc) (.slice ua un uc),v.oneCell'=true:=by
 intro v hv;simp only[tu,List.mem_cons,List.not_mem_nil,or_false] at hv
 rcases hv with rfl|rfl|rfl|rfl|rfl|rfl|rfl|rfl|rfl|rfl|rfl|rfl|rfl|rfl|rfl|rfl|rfl|rfl|rfl<;>rfl
def SS:MS:=⟨[],0,0,0,[],[],0,[],0,0,0,[],0,[],0,0,[],[],0⟩
abbrev zC:List Value:=tu SS (.slice none 0 0) (.slice none 0 0) (.slice none 0 0) (.slice none 0 0)
abbrev Ou (b r:Nat) (O:Nat->Prop):Nat->Prop:=fun y=>y=b\/y=r\/O y
structure Fr (O:Nat->Prop) (h g:aj) (b r:Nat) (s:MS) (rv hv lv fv:Value):Prop where
 blk:aH g b 144 (tu s rv hv lv fv)
 res:aH g r 144 zC
 ext:aq h g
 hb:h.size<=b
 hr:h.size<=r
 ne:¬r=b
 old:∀y,O y->y<h.size
 ms:xK (Ou b r O) g s rv hv lv fv
section
variable {O:Nat->Prop}{h g g':aj}{b r:Nat}{s t:MS}{rv hv lv fv rv' hv' lv' fv':Value}
theorem Fr.start (hS:xK O h s rv hv lv fv) (hO:∀y,O y->y<h.size) (e:aq h g) (k1:aH g b 144 (tu s rv hv lv fv)) (k2:aH g r 144 zC) (hb:h.size<=b) (hr:h.size<=r) (ne:¬r=b):Fr O h g b r s rv hv lv fv :=
 ⟨k1,k2,e,hb,hr,ne,hO,hS.mv (Mv.cU e fun y hy q=>⟨fun k=>k,by rintro(rfl|rfl|k);omega;omega;exact q k⟩)⟩
theorem Fr.ak (F:Fr O h g b r s rv hv lv fv) (e:aq g g'):Fr O h g' b r s rv hv lv fv:=⟨F.blk.ak e,F.res.ak e,F.ext.trans e,F.hb,F.hr,F.ne,F.old,F.ms.ak e⟩
theorem Fr.set (F:Fr O h g b r s rv hv lv fv) (k:aH g' b 144 (tu t rv' hv' lv' fv')) (x:Ext (fun y=>y=b) g g') (m:xK (Ou b r O) g t rv' hv' lv' fv'):Fr O h g' b r t rv' hv' lv' fv' :=
 ⟨k,F.res.ext x F.ne,aq.only F.ext x F.hb,F.hb,F.hr,F.ne,F.old,m.mv (Mv.cU x fun y hy q=>⟨fun k=>q (.inl k),q⟩)⟩
theorem Fr.IX (F:Fr O h g b r s rv hv lv fv):mw (Ou b r O) g (.agg (tu s rv hv lv fv).toArray) s:=⟨_,_,_,_,rfl,F.ms⟩
theorem Fr.hO (F:Fr O h g b r s rv hv lv fv):∀y,Ou b r O y->y<g.size:=by
 have:=F.ext.size;rintro y (rfl|rfl|k)
 · exact F.blk.lt
 · exact F.res.lt
 · have:=F.old y k;omega
theorem Fr.out (F:Fr O h g b r s rv hv lv fv) (x:Ext (fun y=>y=r) g g'):mw O g' (.agg (tu s rv hv lv fv).toArray) s/\aq h g' :=
 ⟨⟨_,_,_,_,rfl,F.ms.mv (Mv.cU x fun y hy q=>⟨fun k=>q (.inr (.inl k)),fun k=>q (.inr (.inr k))⟩)⟩,aq.only F.ext x F.hr⟩
def HL (c:Cm):List Value:=[.int .i64 c.kind,.int .i64 c.way,.int .i64 c.n,.string (bs c.text),.bool c.incl]
def Oy (c:Cm):Value:=.agg #[.int .i64 c.kind,.int .i64 c.way,.int .i64 c.n,.string (bs c.text),.bool c.incl]
structure M4 (O:Nat->Prop) (h g:aj) (b r cb:Nat) (c:Cm) (s:MS) (rv hv lv fv:Value):Prop extends Fr O h g b r s rv hv lv fv where
 cmd:aH g cb 187 (HL c)
 cne:¬cb=b
theorem M4.ak {cb:Nat}{c:Cm}(F:M4 O h g b r cb c s rv hv lv fv) (e:aq g g'):M4 O h g' b r cb c s rv hv lv fv:=⟨F.toFr.ak e,F.cmd.ak e,F.cne⟩
theorem M4.set {cb:Nat}{c:Cm}(F:M4 O h g b r cb c s rv hv lv fv) (k:aH g' b 144 (tu t rv' hv' lv' fv')) (x:Ext (fun y=>y=b) g g') (m:xK (Ou b r O) g t rv' hv' lv' fv'):M4 O h g' b r cb c t rv' hv' lv' fv' :=
 ⟨F.toFr.set k x m,F.cmd.ext x F.cne,F.cne⟩
theorem Fr.K1 (F:Fr O h g b r s rv hv lv fv) (m:xK (Ou b r O) g t rv' hv' lv' fv') (x:Ext (fun y=>y=r) g g'):mw O g' (.agg (tu t rv' hv' lv' fv').toArray) t/\aq h g' :=
 ⟨⟨_,_,_,_,rfl,m.mv (Mv.cU x fun y hy q=>⟨fun k=>q (.inr (.inl k)),fun k=>q (.inr (.inr k))⟩)⟩,aq.only F.ext x F.hr⟩
end
theorem wL {v:Value}(k:mw O h v s) (hO:∀y,O y->y<h.size){B:Nat}(hI:MI B s) (hB:B<=100000000):af Tryz.prog 258 #[v] h (bf fun r h'=>mw O h' r (dR s)/\aq h h'):=by
 have hb0:=hI.bell0;have hb1:=hI.bell1;obtain⟨xa,xn,xc,ya,yn,yc,za,zn,zc,ua,un,uc,rfl,hS⟩:=mw.get k;refine eV ?_;refine ax ?_;refine xo rfl (Bu) ?_;rintro _ h1 ⟨rfl,k1,e1,z1⟩;refine xo rfl (pI) ?_;rintro _ h2 ⟨rfl,k2,e2,z2⟩;have F:Fr O h h2 h.size h1.size s _ _ _ _:=Fr.start hS hO (e1.trans e2) (k1.ak e2) k2 (Nat.le_refl _) (by omega) (by omega);refine ax ?_;refine xp rfl (bJ rfl (F.blk.cell (i:=18) rfl)) ?_;refine ax ?_;refine dD rfl (qY rfl rfl F.blk) ?_;rintro _ h3 ⟨rfl,k3,x3,z3⟩;have F:=F.set (t:= { s with bells:=s.bells+1 }) k3 x3 (F.ms.of rfl rfl rfl rfl);refine ax ?_;refine dD rfl (qY rfl rfl F.blk) ?_;rintro _ h4 ⟨rfl,k4,x4,z4⟩;have F:=F.set (t:=dR s) k4 x4 (F.ms.of rfl rfl rfl rfl);refine ax ?_;refine xp rfl (jT rfl F.blk.row) ?_;refine dD rfl (iV rfl rfl F.res ms1) ?_;rintro _ gz ⟨rfl,kz,xz,zz⟩;refine ax ?_;refine qZ (pH rfl kz.row qW) ?_;exact⟨_,rfl,F.out xz⟩
end
end Go.Proofs.YtdihgdeciopfpaaGreatDoor
namespace Go.Proofs.YtdihgdeciopfpaaGreatDoor
open Go.Proofs.Tryz
open Go Go.Lw
set_option maxRecDepth 20000
section
variable {h:aj}{b a:Int}{v:Value}{xs:List Nat}{r c g:Nat}
def mY (x:Int×Int):List Value:=[.int .i32 x.1,.int .i32 x.2]
def Rg:gH (Int×Int):=.record 2 (by decide) mY (fun _=>rfl) (fun _ v hv=>by simp[mY] at hv;rcases hv with rfl|rfl<;>rfl)
def hidL:List (Int×Int):=[(0,31),(127,159),(768,879),(8203,8207),(8232,8238),(55296,57343),(65024,65039),(65279,65279)]
def LN:List (Int×Int):=[(4352,4447),(11904,12350),(12353,13311),(13312,19903),(19968,40959),(40960,42191),(44032,55203),(63744,64255),(65072,65135),(65281,65376),(65504,65510),(127744,128591),(129280,129535),(131072,262141)]
def jt (r:Nat):List Value:=[.int .i32 (r:Nat),.int .i64 1,.int .i64 0,.bool false,.bool false,.bool false]
theorem Ki (r:Nat):∀v∈jt r,v.oneCell'=true:=fun v hv=>by simp[jt] at hv;rcases hv with rfl|rfl|rfl|rfl|rfl|rfl<;>rfl
def Rh:gH Nat:=.record 6 (by decide) jt (fun _=>rfl) Ki
structure pJ (h:aj):Prop where
 lx:tG h
 hid:Lw.rowAt h 3 0 (hidL.flatMap mY)
 wid:Lw.rowAt h 4 0 (LN.flatMap mY)
 gb:Lw.rowAt h 0 0 (jt 32)
 tb:Lw.rowAt h 5 0 (jt 32)
theorem pJ.ak {h h':aj}(k:pJ h) (e:aq h h'):pJ h':=⟨k.lx.ak e,e.rowAt (fun q=>q) k.hid,e.rowAt (fun q=>q) k.wid,e.rowAt (fun q=>q) k.gb,e.rowAt (fun q=>q) k.tb⟩
theorem Aq {α:Type}{sz:Nat}{pos:0<sz}{enc:α->List Value} {hl:∀x,(enc x).length=sz} {h1:∀x,∀v∈enc x,v.oneCell'=true}{O:Nat->Prop}{b:Nat}(ho:¬O b){xs:List α}{n:Nat}(hr:Lw.rowAt h b 0 (xs.flatMap enc)) (hn:xs.length=n) (hm:n<=maxLen):bB (.record sz pos enc hl h1) h O (.slice (some ⟨b,0,none⟩) n n) xs :=
 ⟨_,n,n,rfl,hn,Nat.le_refl _,hm,fun i x hx=>⟨b,0,enc x,rfl,ho,fun j v hv=>by
  have h2:=hr _ _ (fV hl xs i x j v hx hv);rw[Nat.zero_add] at h2 ⊢;exact h2,rfl⟩⟩
def Rc (xs:List (Int×Int)) (r:Int) (k:Nat):Bool:=decide (k<xs.length) && decide ((xs.getD k (0,0)).1<=r)
def JV (xs:List (Int×Int)) (r:Int) (k:Nat):Bool:=decide (r<=(xs.getD k (0,0)).2)
theorem G0 {b1 b2:Nat}{xs:List (Int×Int)}{r:Int}(k1:aH h b1 331 [v]) (k2:aH h b2 21 [.int .i32 r]) (hv:bB Rg h (fun _=>False) v xs) (i:Nat) (hi:i<xs.length) :
 af Tryz.prog 254 #[.int .i64 (i:Nat),.pointer (some ⟨b1,0,none⟩),.pointer (some ⟨b2,0,none⟩)] h (bf fun q h'=>q= .bool (JV xs r i)/\h'=h):=by
 obtain⟨va,vn,vc,rfl,hvs⟩:=hv.open;have hl:xs.length=vn:=hvs.len;obtain⟨bb,o,t,ha,_,ht,hrow⟩:=hvs.lq (i:=i) (by omega);have hgt:xs.getD i (0,0)=t:=by rw[List.getD_eq_getElem?_getD,ht];rfl
 unfold JV;rw[hgt];refine af.of func254 rfl rfl ?_;refine bI func254 1 [0,1,2,4] rfl ?_;refine av rfl ?_;refine G.l7 func254 H.mixed rfl (by kernel_rfl) ?_;refine RQ.an rfl rfl rfl rfl (ah H.FO rfl (k1.cell (i:=0) rfl)) ?_;refine RQ.an rfl rfl rfl rfl (aD rfl) ?_;refine RQ.an rfl rfl rfl rfl (ai.aN underlying331 H.Fc rfl rfl i rfl ha (by omega)) ?_;refine RQ.an rfl rfl rfl rfl (aa (off:=1) underlying333 rfl rfl H.DO rfl) ?_;refine RQ.an rfl rfl rfl rfl (ah H.Bo rfl (hrow 1 _ rfl)) ?_;refine RQ.an rfl rfl rfl rfl (ah H.Bo rfl (k2.cell (i:=0) rfl)) ?_;refine RQ.an rfl rfl rfl rfl (tS rfl rfl) ?_;refine RQ.an rfl rfl rfl rfl (ai.assign rfl) ?_;refine RQ.done rfl ?_;refine xu [0,1,2,4] rfl ?_;refine G.ret func254 rfl rfl ?_;exact⟨_,rfl,rfl,rfl⟩
theorem zv {xs:List (Int×Int)}(hv:bB Rg h (fun _=>False) v xs) (hx:xs.length<=1000) (r:Int) (hno:∀k,k<=xs.length->(0<k->JV xs r (k-1)=false)->(k<xs.length->JV xs r k=true)->Rc xs r k=false) :
 af Tryz.prog 209 #[v,.int .i32 r] h (bf fun q h'=>q= .bool false/\aq h h'):=by
 obtain⟨va,vn,vc,rfl,hvs⟩:=id hv.open;have hl:xs.length=vn:=hvs.len;subst hl;refine af.of func209 rfl rfl ?_;refine xr func209 rfl ?_;refine xo rfl (aB.cx rfl) ?_;rintro _ h1 ⟨rfl,k1,e1,z1⟩;refine xo rfl (aB.cx rfl) ?_;rintro _ h2 ⟨rfl,k2,e2,z2⟩;have k1:aH h2 h.size 331 [.slice va xs.length vc]:=k1.ak e2;have k2:aH h2 h1.size 21 [.int .i32 r]:=k2;have e02:=e1.trans e2;have hv2:=hv.ak e02;have hsr:=lf (h:=h2) (g:=254) (caps:=[.pointer (some ⟨h.size,0,none⟩),.pointer (some ⟨h1.size,0,none⟩)]) ⟨_,func254,rfl,by kernel_rfl⟩ xs.length (by omega) (JV xs r) (fun i hi=>G0 k1 k2 hv2 i hi);refine bq 1 [0,1,2,3,4] rfl ?_;refine xr func209 rfl ?_;refine xp rfl (ah H.FO rfl (k1.cell (i:=0) rfl)) ?_;refine xp rfl (ai.aX underlying331 rfl) ?_;refine xp rfl (ai.makeFunc (vs:=[_,_]) rfl) ?_;refine xo rfl (au (vs:=[_,_]) func230 rfl H.Mb rfl (af.bD (hsr))) ?_;rintro _ h3 ⟨⟨k,rfl,hk,hk1,hk2⟩,hh3⟩;subst hh3;have hf:=hno k hk hk1 hk2;refine bq 1 [0,1,2,3,4,5] rfl ?_;refine av rfl ?_;refine G.ic [(4,.bool false)] [(0,_),(1,_),(2,_),(3,_),(5,_)] ⟨rfl,rfl,rfl,rfl,rfl,trivial⟩ func209 H.mixed rfl (by kernel_rfl) ?_ ?_
 · refine RQ.an rfl rfl rfl rfl (aD rfl) ?_;refine RQ.an rfl rfl rfl rfl (ah H.FO rfl (k1.cell (i:=0) rfl)) ?_;refine RQ.an rfl rfl rfl rfl (ai.aX underlying331 rfl) ?_;refine RQ.an rfl rfl rfl rfl (qP rfl rfl) ?_;refine RQ.an rfl rfl rfl rfl (aD rfl) ?_;refine RQ.split (d:=14) rfl (fun g1=>?_) (fun g1=>?_)
   · have g1:=of_decide_eq_true g1;obtain⟨bb,o,t,ha,_,ht,hrow⟩:=hv2.open_slice.lq (i:=k) (by omega);have hgt:xs.getD k (0,0)=t:=by rw[List.getD_eq_getElem?_getD,ht];rfl
     rw[Rc,hgt,decide_eq_true (by omega),Bool.true_and] at hf;refine RQ.an rfl rfl rfl rfl (ah H.FO rfl (k1.cell (i:=0) rfl)) ?_;refine RQ.an rfl rfl rfl rfl (aD rfl) ?_;refine RQ.an rfl rfl rfl rfl (ai.aN underlying331 H.Fc rfl rfl k rfl ha (by omega)) ?_;refine RQ.an rfl rfl rfl rfl (aa (off:=0) underlying333 rfl rfl H.DO rfl) ?_;refine RQ.an rfl rfl rfl rfl (ah H.Bo rfl (hrow 0 _ rfl)) ?_;refine RQ.an rfl rfl rfl rfl (ah H.Bo rfl (k2.cell (i:=0) rfl)) ?_;refine RQ.an rfl rfl rfl rfl (F3 rfl rfl) ?_;refine RQ.an rfl rfl rfl rfl (ai.og rfl rfl) ?_;refine RQ.an rfl rfl rfl rfl (ai.assign rfl) ?_;refine RQ.done rfl ?_;exact⟨rfl,aC rfl (hf),rfl,rfl,rfl,rfl,rfl,trivial⟩
   · refine RQ.aK rfl rfl rfl rfl ?_;refine RQ.aK rfl rfl rfl rfl ?_;refine RQ.aK rfl rfl rfl rfl ?_;refine RQ.aK rfl rfl rfl rfl ?_;refine RQ.aK rfl rfl rfl rfl ?_;refine RQ.aK rfl rfl rfl rfl ?_;refine RQ.aK rfl rfl rfl rfl ?_;refine RQ.an rfl rfl rfl rfl (ai.iB rfl rfl) ?_;refine RQ.an rfl rfl rfl rfl (ai.assign rfl) ?_;refine RQ.done rfl ?_;exact⟨rfl,aC rfl (rfl),rfl,rfl,rfl,rfl,rfl,trivial⟩
 · refine G.ret func209 rfl rfl ?_;exact⟨_,rfl,rfl,e02⟩
def SX (xs:List (Int×Int)):Bool:=(List.range 95).all fun r=>(List.range (xs.length+1)).all fun k=> !((Nat.beq k 0 || !JV xs ((r+32:Nat):Int) (k-1)) && (Nat.beq k xs.length ||JV xs ((r+32:Nat):Int) k) && Rc xs ((r+32:Nat):Int) k)
theorem L9 {xs:List (Int×Int)}(hb:SX xs=true) (h0:32<=r) (h1:r<127) (k:Nat) (hk:k<=xs.length) (q1:0<k->JV xs r (k-1)=false) (q2:k<xs.length->JV xs r k=true):Rc xs r k=false:=by
 have h:=List.all_eq_true.1 (List.all_eq_true.1 hb (r-32) (List.mem_range.2 (by omega))) k (List.mem_range.2 (by omega));rw[show r-32+32=r by omega] at h
 have e1:(Nat.beq k 0 || !JV xs r (k-1))=true:=by
  rcases Nat.eq_zero_or_pos k with rfl|hp
  · rfl
  · rw[q1 hp];simp
 have e2:(Nat.beq k xs.length ||JV xs r k)=true:=by
  rcases Nat.lt_or_ge k xs.length with hp|hp
  · rw[q2 hp];simp
  · rw[show k=xs.length by omega,Nat.beq_refl];rfl
 rw[e1,e2] at h;simpa using h
theorem ko (hW:pJ h) (h0:32<=r) (h1:r<127):af Tryz.prog 137 #[.int .i32 (r:Nat)] h (bf fun q h'=>q= .int .i64 1/\aq h h'):=by
 have hv1:bB Rg h (fun _=>False) (.slice (bu (some ⟨3,0,none⟩) 0 2 8) (8-0) (8-0)) hidL:=by rw[iR];exact Aq (fun q=>q) hW.hid rfl (by decide)
 have hc1:=zv hv1 (by decide) r (L9 (by decide +kernel) h0 h1);refine af.of func137 rfl rfl ?_;refine bI func137 1 [0,2] rfl ?_;refine av rfl ?_;refine G.block rfl rfl ?_;refine av rfl ?_;refine bI func137 3 [0,2,3] rfl ?_;refine aA rfl rfl (fun hc=>absurd hc (by simp)) (fun _=>?_);refine bI func137 3 [0,2,3] rfl ?_;refine aA rfl rfl (fun hc=>absurd hc (by simp;omega)) (fun _=>?_);refine G.cA func137 rfl ?_;refine xp rfl (ai.si underlying334 H.Fc rfl  ) ?_;refine bW 1 rfl ?_;refine xo rfl (au (vs:=[_,_]) func209 rfl H.Mc rfl (af.bD (hc1))) ?_;rintro _ g1 ⟨rfl,e1⟩;refine bq 1 [0,2,3] rfl ?_;refine aA rfl rfl (fun hc=>absurd hc (by decide)) (fun _=>?_);have hv2:bB Rg g1 (fun _=>False) (.slice (bu (some ⟨4,0,none⟩) 0 2 14) (14-0) (14-0)) LN:=by rw[iR];exact Aq (fun q=>q) (hW.ak e1).wid rfl (by decide)
 have hc2:=zv hv2 (by decide) r (L9 (by decide +kernel) h0 h1);refine xr func137 rfl ?_;refine xp rfl (ai.si underlying335 H.Fc rfl  ) ?_;refine bW 1 rfl ?_;refine xo rfl (au (vs:=[_,_]) func209 rfl H.Mc rfl (af.bD (hc2))) ?_;rintro _ g2 ⟨rfl,e2⟩;refine bq 1 [0,2,3,11] rfl ?_;refine aA rfl rfl (fun hc=>absurd hc (by decide)) (fun _=>?_);refine aI rfl ?_;refine G.bE ?_;refine bI func137 1 [0,2,3,11] rfl ?_;refine G.ret func137 rfl rfl ?_;exact⟨_,rfl,rfl,e1.trans e2⟩
theorem qb (hW:pJ h) (h0:32<=r) (h1:r<127):af Tryz.prog 86 #[.int .i32 (r:Nat)] h (bf fun q h'=>q= .int .i32 (r:Nat)/\aq h h'):=by
 refine af.of func86 rfl rfl ?_;refine bI func86 1 [0,2] rfl ?_;refine av rfl ?_;refine cm func86 1 rfl ?_;refine xo rfl (au (vs:=[_]) func137 rfl H.Cn rfl (af.bD (ko hW h0 h1))) ?_;rintro _ g1 ⟨rfl,e1⟩;refine bq 1 [0,2,5] rfl ?_;refine aA rfl rfl (fun hc=>absurd hc (by decide)) (fun _=>?_);refine aI rfl ?_;refine bI func86 2 [0,2,5] rfl ?_;refine G.ret func86 rfl rfl ?_;exact⟨_,rfl,rfl,e1⟩
def mj (rows cols:Int) (v:Value) (row col:Int):List Value:=[.int .i64 rows,.int .i64 cols,v,.int .i64 row,.int .i64 col]
theorem Jr {c d:Int}(hv:v.oneCell'=true):∀u∈mj a b v c d,u.oneCell'=true:=fun u hu=>by
 simp only[mj,List.mem_cons,List.not_mem_nil,or_false] at hu
 rcases hu with rfl|rfl|rfl|rfl|rfl
 · rfl
 · rfl
 · exact hv
 · rfl
 · rfl
theorem rL (xs:List Nat):(xs.flatMap jt).length=xs.length*6:=fk (enc:=jt) (sz:=6) (fun _=>rfl) xs
theorem EF {L:List Value}(hL:L=xs.flatMap jt){i:Nat}(r:Nat) (hi:i<xs.length):over L (0+i*6) (jt r)=(xs.set i r).flatMap jt:=by
 subst hL;have h:=sL (sz:=6) (xs.map jt) i (jt r) (fun c hc=>by obtain⟨x,_,rfl⟩:=List.mem_map.1 hc;rfl) rfl (by simpa using hi);rw[<-List.map_set] at h;rw[List.flatMap_def,List.flatMap_def,h,over,Nat.zero_add];rfl
structure qU (h:aj) (g:Nat) (xs:List Nat):Prop where
 blk:aH h g 79 (xs.flatMap jt)
 len:xs.length=80
abbrev uV (g:Nat):Value:=.slice (some ⟨g,0,none⟩) 80 80
section
variable {h h':aj}{g:Nat}{xs:List Nat}
theorem qU.ak (k:qU h g xs) (e:aq h h'):qU h' g xs:=⟨k.blk.ak e,k.len⟩
structure Bq (h:aj) (g:Nat) (xs:List Nat):Prop where
 row:Lw.rowAt h g 0 (xs.flatMap jt)
 len:xs.length=80
abbrev HJ (g c:Nat):Value:=.slice (some ⟨g,0,none⟩) 80 c
theorem qU.rZ (k:qU h g xs):Bq h g xs:=⟨k.blk.row,k.len⟩
theorem Bq.ak (k:Bq h g xs) (e:aq h h'):Bq h' g xs:=⟨e.rowAt (fun q=>q) k.row,k.len⟩
theorem Bq.mV {M:Nat->Prop}(k:Bq h g xs) (x:Ext M h h') (hm:¬M g):Bq h' g xs:=⟨x.rowAt hm k.row,k.len⟩
theorem Bq.lt (k:Bq h g xs):g<h.size:=cX k.row fun e=>by have:=congrArg List.length e;rw[rL,k.len] at this;cases this
theorem Bq.at (k:Bq h g xs){i:Nat}(hi:i<80):∃r,xs[i]? =some r/\Lw.rowAt h g (0+i*6) (jt r):=by
 have hl:=k.len;obtain⟨r,hx⟩:∃r,xs[i]? =some r:=⟨_,List.getElem?_eq_getElem (by omega)⟩
 exact⟨r,hx,fun j v hv=>by rw[Nat.add_assoc];exact k.row _ _ (fV (enc:=jt) (sz:=6) (fun _=>rfl) xs i r j v hx hv)⟩
theorem qU.at (k:qU h g xs){i:Nat}(hi:i<80):∃r,xs[i]? =some r/\Lw.rowAt h g (0+i*6) (jt r):=k.rZ.at hi
theorem qU.cells (k:qU h g xs):∃L,aH h g 79 L/\L.length=480/\∀i r,i<80->over L (0+i*6) (jt r)=(xs.set i r).flatMap jt :=
 ⟨_,k.blk,by rw[rL,k.len],fun i r hi=>EF rfl r (by rw[k.len];exact hi)⟩
end
def GN (a b:Int):Bool:=decide (2<=a/\a<=100/\8<=b/\b<=200)
theorem oN (a b:Int):af Tryz.prog 62 #[.int .i64 a,.int .i64 b] h (bf fun r h'=>r= .bool (GN a b)/\h'=h):=by
 unfold GN;refine af.of func62 rfl rfl ?_;refine bI func62 1 [0,1,4] rfl ?_;refine av rfl ?_;refine G.bK [(4,.bool (decide (2<=a/\a<=100/\8<=b/\b<=200)))] [(0,_),(1,_)] ⟨rfl,rfl,trivial⟩ func62 rfl ?_ ?_
 · refine bW 3 rfl ?_;refine RW.split (d:=7) rfl (fun g1=>?_) (fun g1=>?_)
   · have h1:=of_decide_eq_true g1;refine bW 4 rfl ?_;refine RW.split (d:=11) rfl (fun g2=>?_) (fun g2=>?_)
     · have h2:=of_decide_eq_true g2;refine bW 4 rfl ?_;refine RW.split (d:=15) rfl (fun g3=>?_) (fun g3=>?_)
       · have h3:=of_decide_eq_true g3;refine bW 4 rfl ?_;refine RW.done rfl ?_;exact⟨rfl,aC rfl (by exact decide_eq_decide.2 (by omega)),rfl,rfl,trivial⟩
       · refine bW 4 rfl ?_;refine RW.done rfl ?_;exact⟨rfl,aC rfl (by have:=of_decide_eq_false g3;exact(decide_eq_false (by omega)).symm),rfl,rfl,trivial⟩
     · refine bW 8 rfl ?_;refine RW.done rfl ?_;exact⟨rfl,aC rfl (by have:=of_decide_eq_false g2;exact(decide_eq_false (by omega)).symm),rfl,rfl,trivial⟩
   · refine bW 12 rfl ?_;refine RW.done rfl ?_;exact⟨rfl,aC rfl (by have:=of_decide_eq_false g1;exact(decide_eq_false (by omega)).symm),rfl,rfl,trivial⟩
 · refine G.ret func62 rfl rfl ?_;exact⟨_,rfl,rfl,rfl⟩
theorem K0 (hm:GN a b=false):af Tryz.prog 26 #[.int .i64 a,.int .i64 b] h (bf fun r h'=>r= .tuple #[.agg #[.int .i64 0,.int .i64 0,.slice none 0 0,.int .i64 0,.int .i64 0],.int .i64 2]/\aq h h'):=by
 refine af.of func26 rfl rfl ?_;refine xr func26 rfl ?_;refine xo rfl (aB.aQ H.qX) ?_;rintro _ h1 ⟨rfl,k4,e1,z1⟩;refine bq 1 [0,1,4,5] rfl ?_;refine av rfl ?_;refine cm func26 2 rfl ?_;refine xo rfl (au (vs:=[_,_]) func62 rfl H.NA rfl (af.bD (oN a b))) ?_;rintro _ h2 ⟨rfl,hh2⟩;refine bq 1 [0,1,4,5,11] rfl ?_;subst hh2;rw[hm];refine aA rfl rfl (fun _=>?_) (fun hc=>absurd hc (by decide));refine xr func26 rfl ?_;refine xp rfl (aE (H.MQ ) rfl) ?_;refine RW.dQ rfl rfl rfl (aB.aG H.cI rfl rfl k4 (by first|rfl|(simp;done)|(simp;omega)) (by first|decide|exact of_decide_eq_true rfl|(simp;done)|(simp;omega)) (by first|decide|simp[Value.oneCell'])) ?_;rintro _ h3 ⟨rfl,k3,x3,z3⟩;refine bq 1 [0,1,4,5,11] rfl ?_;refine G.jI func26 rfl (.cons (bT.ja H.kQ H.cI rfl (k3.row) (by first|rfl|(simp;done)|(simp;omega))) (.cons (bT.tmp rfl) (.nil))) ?_;exact⟨_,rfl,rfl,aq.only e1 x3 (Nat.le_refl _)⟩
theorem oW (hW:pJ h):af Tryz.prog 26 #[.int .i64 4,.int .i64 20] h (bf fun r h'=>(∃g,r= .tuple #[.agg (mj 4 20 (uV g) 0 0).toArray,.int .i64 0]/\h.size<=g/\qU h' g (List.replicate 80 32))/\aq h h'):=by
 refine af.of func26 rfl rfl ?_;refine xr func26 rfl ?_;refine xo rfl (aB.aQ H.qX) ?_;rintro _ h1 ⟨rfl,k4,e1,z1⟩;refine bq 1 [0,1,4,5] rfl ?_;refine av rfl ?_;refine cm func26 2 rfl ?_;refine xo rfl (au (vs:=[_,_]) func62 rfl H.NA rfl (af.bD (oN 4 20))) ?_;rintro _ h2 ⟨rfl,hh2⟩;refine bq 1 [0,1,4,5,11] rfl ?_;subst hh2;refine aA rfl rfl (fun hc=>absurd hc (by decide)) (fun _=>?_);refine aI rfl ?_;refine cm func26 4 rfl ?_;refine xp rfl (ai.zj rfl rfl ⟨by decide,by decide⟩) ?_;refine xo rfl (aB.Cx underlying31 H.K8 H.Km rfl rfl (n:=80) (by decide) (by decide) (by decide)) ?_;rintro _ h3 ⟨rfl,kr,e3,z3⟩;refine xp rfl (aE (H.EN _ _ _ _ _) rfl) ?_;refine xo rfl (aB.aQ H.qX) ?_;rintro _ h4 ⟨rfl,k6,e4,z4⟩;refine RW.dQ rfl rfl rfl (aB.aG H.cI rfl rfl k6 (by first|rfl|(simp;done)|(simp;omega)) (by first|decide|exact of_decide_eq_true rfl|(simp;done)|(simp;omega)) (by first|decide|simp[Value.oneCell'])) ?_;rintro _ h5 ⟨rfl,k5,x5,z5⟩;have k5:aH h5 h3.size 33 (mj 4 20 (uV h2.size) 0 0):=k5;have e05:aq h2 h5:=aq.only (e3.trans e4) x5 (by omega);have k4:=k4.ak e05;obtain⟨L,hL,kL⟩:∃L:List Value,L.length=480/\aH h5 h2.size 79 L:=⟨_,by simp[madeCells],(kr.ak e4).ext x5 (by omega)⟩
 refine xd [0,1,4,5,6,11] rfl ?_;refine av rfl ?_;refine xr func26 rfl ?_;refine xp rfl (aa (off:=2) underlying33 rfl rfl H.iq rfl) ?_;refine xp rfl (ah H.iu rfl (k5.cell (i:=2) rfl)) ?_;refine xp rfl (ai.aX underlying31 rfl) ?_;refine bq 1 [0,1,4,5,6,11,22,23] rfl ?_;refine G.block rfl rfl ?_;refine cL (σ:=Nat) (fun i=>[(4,.pointer (some ⟨h.size,0,none⟩)),(6,.pointer (some ⟨h3.size,0,none⟩)),(22,.int .i64 80),(23,.int .i64 (i:Nat))]) (fun i h'=>i<=80/\Ext (fun b=>b=h2.size) h5 h'/\∃L,L.length=480/\aH h' h2.size 79 L/\L.take (i*6)=(List.replicate i 32).flatMap jt) (fun i=>80-i) (0) rfl ⟨rfl,rfl,rfl,rfl,trivial⟩ ⟨Nat.zero_le _,Ext.refl _ _,L,hL,kL,rfl⟩ ?_;rintro i g1 ⟨hi,eg,L,hL,kL,ht⟩ ih;have hn4:¬h.size=h2.size:=by omega
 have hn6:¬h3.size=h2.size:=by omega
 refine bI func26 1 [4,6,22,23,24] rfl ?_;refine av rfl ?_;refine dm rfl rfl (fun hlt=>?_) (fun hlt=>?_)
 · have hi80:i<80:=by omega
   have hb:Lw.rowAt g1 0 0 (jt 32):=eg.rowAt (fun q=>by have:=cX hW.gb (by decide);omega) ((hW.ak (e1.trans e05)).gb);refine aI rfl ?_;refine av rfl ?_;refine G.block rfl rfl ?_;refine bI func26 2 [4,6,7,22,23,24] rfl ?_;refine G.cA func26 rfl ?_;refine xp rfl (aa (off:=2) underlying33 rfl rfl H.iq rfl) ?_;refine xp rfl (ah H.iu rfl ((k5.ext eg hn6).cell (i:=2) rfl)) ?_;refine cT 1 rfl rfl (ai.aF H.De H.fQ rfl hb (by first|rfl|(simp;done)|(simp;omega))) ?_;refine xp rfl (ai.aN underlying31 H.fQ rfl rfl i rfl rfl (by omega)) ?_;refine RW.dQ rfl rfl rfl (aB.aG H.fQ rfl rfl kL (by first|rfl|(simp;done)|(simp;omega)) (by first|decide|exact of_decide_eq_true rfl|(simp;done)|(simp;omega)) ((Ki 32))) ?_;rintro _ g2 ⟨rfl,k2,x2,z2⟩;refine xd [4,6,7,22,23,24] rfl ?_;refine G.bE ?_;refine G.cA func26 rfl ?_;refine xp rfl (ai.ck rfl rfl ⟨by omega,by omega⟩) ?_;refine bq 1 [4,6,7,22,23,24] rfl ?_;have hlt6:(L.take (0+i*6)).length=i*6:=by rw[List.length_take,hL];omega
   have k2:aH g2 h2.size 79 (L.take (0+i*6)++jt 32++L.drop (0+i*6+6)):=k2
   exact ih (i+1) _ _ ⟨rfl,rfl,rfl,rfl,trivial⟩ ⟨hi80,eg.trans x2,_,by rw[List.length_append,List.length_append,hlt6,List.length_drop,hL];show i*6+6+_=480;omega,k2,by
    have e6:(i+1)*6=(L.take (0+i*6)++jt 32).length:=by rw[List.length_append,hlt6];show _=i*6+6;omega
    rw[e6,List.take_left,List.replicate_succ',List.flatMap_append,<-ht,Nat.zero_add];rfl⟩ (by omega)
 · obtain rfl:i=80:=by omega
   rw[List.take_of_length_le (by omega)] at ht;refine cy rfl rfl ?_;refine xr func26 rfl ?_;refine xp rfl (ai.aF H.kQ H.cI rfl ((k5.ext eg hn6).row) (by first|rfl|(simp;done)|(simp;omega))) ?_;refine RW.dQ rfl rfl rfl (aB.aG H.cI rfl rfl (k4.ext eg hn4) (by first|rfl|(simp;done)|(simp;omega)) (by first|decide|exact of_decide_eq_true rfl|(simp;done)|(simp;omega)) ((Jr rfl))) ?_;rintro _ g3 ⟨rfl,k3,x3,z3⟩;refine bq 1 [4,5,6,22,23,24] rfl ?_;have k3:aH g3 h.size 33 (mj 4 20 (uV h2.size) 0 0):=k3;refine G.jI func26 rfl (.cons (bT.ja H.kQ H.cI rfl (k3.row) (by first|rfl|(simp;done)|(simp;omega))) (.cons (bT.tmp rfl) (.nil))) ?_;exact⟨_,rfl,⟨h2.size,rfl,by omega,ht▸kL.ext x3 (by omega),rfl⟩,aq.only (aq.only (e1.trans e05) eg (by omega)) x3 (Nat.le_refl _)⟩
abbrev Pr (xs:List Nat):Prop:=∀r∈xs,32<=r/\r<127
theorem A3:af Tryz.prog 144 #[.agg #[.int .i64 0,.bool false,.bool false,.bool false]] h (bf fun r h'=>r= .bool true/\aq h h'):=by
 refine af.of func144 rfl rfl ?_;refine xr func144 rfl ?_;refine xo rfl (aB.cx rfl) ?_;rintro _ h1 ⟨rfl,k1,e1,z1⟩;have k1:aH h1 h.size 77 [.int .i64 0,.bool false,.bool false,.bool false]:=k1;refine bq 1 [0,1,2] rfl ?_;refine av rfl ?_;refine G.bK [(2,.bool true)] [(0,_),(1,_)] ⟨rfl,rfl,trivial⟩ func144 rfl ?_ ?_
 · refine xp rfl (aa (off:=0) underlying77 rfl rfl H.bL rfl) ?_;refine xp rfl (ah H.cC rfl (k1.cell (i:=0) rfl)) ?_;refine bW 2 rfl ?_;refine RW.bH (d:=6) (b':=true) rfl (by simp) ?_;refine xp rfl (aa (off:=0) underlying77 rfl rfl H.bL rfl) ?_;refine xp rfl (ah H.cC rfl (k1.cell (i:=0) rfl)) ?_;refine bW 3 rfl ?_;refine RW.done rfl ?_;exact⟨rfl,aC rfl (by simp),rfl,rfl,trivial⟩
 · refine G.ret func144 rfl rfl ?_;exact⟨_,rfl,rfl,e1⟩
theorem EB (hW:pJ h) (hv:bB Rh h (fun _=>False) v xs) (hp:Pr xs) (hl:xs.length<=1000):af Tryz.prog 89 #[v] h (bf fun r h'=>r= .bool true/\aq h h'):=by
 refine af.of func89 rfl rfl ?_;refine bI func89 1 [0,2] rfl ?_;refine av rfl ?_;refine G.block rfl rfl ?_;refine cL (σ:=Value×List Nat) (fun q=>[(0,q.1)]) (fun q h'=>bB Rh h' (fun _=>False) q.1 q.2/\aq h h'/\Pr q.2/\q.2.length<=1000) (fun q=>q.2.length) ((v,xs)) rfl ⟨rfl,trivial⟩ ⟨hv,Ext.refl _ _,hp,hl⟩ ?_;rintro⟨v,xs⟩ g ⟨hv,eg,hp,hl⟩ ih
 try dsimp only
 dsimp only at hv hp hl;obtain⟨oa,n,c,rfl,hs⟩:=hv.open;have hn:=hs.len;have hc:=hs.le;refine av rfl ?_;refine cm func89 1 rfl ?_;refine xp rfl (ai.aX underlying31 rfl) ?_;refine bq 1 [0,7] rfl ?_;refine dm rfl rfl (fun hgt=>?_) (fun hgt=>?_)
 · obtain⟨b,o,r,ha,_,hr,hrow⟩:=hs.lq (i:=0) (by omega);obtain⟨p0,p1⟩:=hp r (List.mem_of_getElem? hr);refine aI rfl ?_;refine G.block rfl rfl ?_;refine cm func89 1 rfl ?_;refine xp rfl (ai.aN underlying31 H.fQ rfl rfl 0 rfl ha (by omega)) ?_;refine xp rfl (ai.aF H.De H.fQ rfl hrow (by first|rfl|(simp;done)|(simp;omega))) ?_;refine xo rfl (aB.aQ H.Km) ?_;rintro _ g1 ⟨rfl,k1,e1,z1⟩;refine RW.dQ rfl rfl rfl (aB.aG H.fQ rfl rfl k1 (by first|rfl|(simp;done)|(simp;omega)) (by first|decide|exact of_decide_eq_true rfl|(simp;done)|(simp;omega)) ((Ki r))) ?_;rintro _ g2 ⟨rfl,k2,x2,z2⟩;have e2:aq g g2:=aq.only e1 x2 (Nat.le_refl _);have k2:aH g2 g.size 79 (jt r):=k2;refine xd [0,3,7] rfl ?_;refine xr func89 rfl ?_;refine xp rfl (aa (off:=1) underlying79 rfl rfl H.bL rfl) ?_;refine xp rfl (ah H.cC rfl (k2.cell (i:=1) rfl)) ?_;refine bq 1 [0,3,4,7] rfl ?_;refine av rfl ?_;refine G.block rfl rfl ?_;refine av rfl ?_;refine bI func89 3 [0,3,4,7,13] rfl ?_;refine aA rfl rfl (fun hc=>absurd hc (by decide)) (fun _=>?_);refine bI func89 3 [0,3,4,7,13] rfl ?_;refine aA rfl rfl (fun hc=>absurd hc (by decide)) (fun _=>?_);refine cm func89 2 rfl ?_;refine xp rfl (ai.aX underlying31 rfl) ?_;refine bq 2 [0,3,4,7,13] rfl ?_;refine aA rfl rfl (fun hc=>absurd hc (by simp;omega)) (fun _=>?_);refine xr func89 rfl ?_;refine xp rfl (aa (off:=0) underlying79 rfl rfl H.DO rfl) ?_;refine xp rfl (ah H.Bo rfl (k2.cell (i:=0) rfl)) ?_;refine xo rfl (au (vs:=[_]) func137 rfl H.Cn rfl (af.bD (ko ((hW.ak eg).ak e2) p0 p1))) ?_;rintro _ g3 ⟨rfl,e3⟩;refine bq 3 [0,3,4,7,13] rfl ?_;refine aA rfl rfl (fun hc=>absurd hc (by decide)) (fun _=>?_)
   have k3:Lw.rowAt g3 g.size (0+2) [.int .i64 0,.bool false,.bool false,.bool false]:=fun j v hv=>by
    have k:=k2.ak e3
    match j,hv with
    | 0,hv=>cases hv;exact k.cell (i:=2) rfl
    | 1,hv=>cases hv;exact k.cell (i:=3) rfl
    | 2,hv=>cases hv;exact k.cell (i:=4) rfl
    | 3,hv=>cases hv;exact k.cell (i:=5) rfl
   refine G.cA func89 rfl ?_;refine xp rfl (aa (off:=2) underlying79 rfl rfl H.jX rfl) ?_;refine xp rfl (ai.aF H.yI H.jX rfl k3 (by first|rfl|(simp;done)|(simp;omega))) ?_;refine xo rfl (au (vs:=[_]) func144 rfl H.P6 rfl (af.bD (A3))) ?_;rintro _ g4 ⟨rfl,e4⟩;refine bq 2 [0,3,4,7,13] rfl ?_;refine aA rfl rfl (fun hc=>absurd hc (by decide)) (fun _=>?_);refine av rfl ?_;refine G.ic [(31,.bool false)] [(0,_),(3,_),(4,_),(7,_),(13,_)] ⟨rfl,rfl,rfl,rfl,rfl,trivial⟩ func89 H.mixed rfl (by kernel_rfl) ?_ ?_
   · refine RQ.an rfl rfl rfl rfl (aD rfl) ?_;refine RQ.an rfl rfl rfl rfl (ai.mX rfl rfl) ?_;refine RQ.an rfl rfl rfl rfl (aD rfl) ?_;refine RQ.bH (d:=34) (b':=false) rfl (by simp) ?_;refine RQ.aK rfl rfl rfl rfl ?_;refine RQ.aK rfl rfl rfl rfl ?_;refine RQ.aK rfl rfl rfl rfl ?_;refine RQ.aK rfl rfl rfl rfl ?_;refine RQ.aK rfl rfl rfl rfl ?_;refine RQ.aK rfl rfl rfl rfl ?_;refine RQ.aK rfl rfl rfl rfl ?_;refine RQ.an rfl rfl rfl rfl (ai.iB rfl rfl) ?_;refine RQ.an rfl rfl rfl rfl (ai.assign rfl) ?_;refine RQ.done rfl ?_;exact⟨rfl,aC rfl (rfl),rfl,rfl,rfl,rfl,rfl,trivial⟩
   · refine aA rfl rfl (fun hc=>absurd hc (by decide)) (fun _=>?_);refine aI rfl ?_;refine G.bE ?_;refine G.cA func89 rfl ?_;refine cT 2 rfl rfl (ai.iJ underlying31 H.fQ rfl rfl 1 rfl (by omega)) ?_;refine bq 1 [0,3,4,7,13,31] rfl ?_;refine G.bE ?_;have e24:=(e2.trans e3).trans e4;exact ih (.slice (bu oa 1 6 c) (n-1) (c-1),(xs.take n).drop 1) _ _ ⟨rfl,trivial⟩ ⟨((hs.part (i:=1) (j:=n) (by omega) (Nat.le_refl _)).shut).ak e24,eg.trans e24,fun r hr=>hp r (List.mem_of_mem_take (List.mem_of_mem_drop hr)),by show ((xs.take n).drop 1).length<=1000;rw[List.length_drop,List.length_take];omega⟩ (by show ((xs.take n).drop 1).length<xs.length;rw[List.length_drop,List.length_take];omega)
 · refine cy rfl rfl ?_;refine bI func89 1 [0,2,7] rfl ?_;refine G.ret func89 rfl rfl ?_;exact⟨_,rfl,rfl,eg⟩
theorem qD {l cs cn:Nat}(hc:80<=c){J:Nat->aj->Prop}(hread:∀j h,J j h->aH h cs 31 [HJ g c]/\aH h cn 3 [.int .i64 20])
 (hy:∀j h,J j h->j<4->eC Tryz.prog l #[.slice (some ⟨g,j*20*6,none⟩) 20 20] h (bf fun r h'=>r= .bool true/\J (j+1) h')) (h0:J 0 h) :
 af Tryz.prog 90 #[.func (.yield l) #[] #[],.pointer (some ⟨cs,0,none⟩),.pointer (some ⟨cn,0,none⟩)] h (bf fun _ h'=>J 4 h'):=by
 refine af.of func90 rfl rfl ?_;refine bI func90 1 [0,1,2,4] rfl ?_;refine G.block rfl rfl ?_;refine cL (σ:=Nat) (fun j=>[(0,.func (.yield l) #[] #[]),(1,.pointer (some ⟨cs,0,none⟩)),(2,.pointer (some ⟨cn,0,none⟩)),(4,.int .i64 (j*20:Nat))]) (fun j h'=>J j h'/\j<=4) (fun j=>4-j) (0) rfl ⟨rfl,rfl,rfl,rfl,trivial⟩ ⟨h0,Nat.zero_le _⟩ ?_;rintro j h1 ⟨hJ,hj⟩ ih;obtain⟨ks,kn⟩:=hread j h1 hJ;refine av rfl ?_;refine cm func90 1 rfl ?_;refine xp rfl (ah H.iu rfl (ks.cell (i:=0) rfl)) ?_;refine xp rfl (ai.aX underlying31 rfl) ?_;refine bq 1 [0,1,2,4,9] rfl ?_;refine dm rfl rfl (fun hlt=>?_) (fun hlt=>?_)
 · have hj4:j<4:=by omega
   refine aI rfl ?_;refine av rfl ?_;refine G.block rfl rfl ?_;refine av rfl ?_;refine G.ic [(5,.int .i64 20)] [(0,_),(1,_),(2,_),(4,_),(9,_)] ⟨rfl,rfl,rfl,rfl,rfl,trivial⟩ func90 H.mixed rfl (by kernel_rfl) ?_ ?_
   · refine RQ.an rfl rfl rfl rfl (ah H.cC rfl (kn.cell (i:=0) rfl)) ?_;refine RQ.an rfl rfl rfl rfl (ah H.iu rfl (ks.cell (i:=0) rfl)) ?_;refine RQ.an rfl rfl rfl rfl (aD rfl) ?_;refine RQ.an rfl rfl rfl rfl (ai.iJ underlying31 H.fQ rfl rfl (j*20) rfl (by omega)) ?_;refine RQ.an rfl rfl rfl rfl (ai.aX underlying31 rfl) ?_;refine RQ.an rfl rfl rfl rfl (ai.min2 rfl rfl) ?_;refine RQ.an rfl rfl rfl rfl (ai.assign rfl) ?_;refine RQ.done rfl ?_;exact⟨rfl,congrArg (fun x:Int=>some (Value.int .i64 x)) (by split<;>omega),rfl,rfl,rfl,rfl,rfl,trivial⟩
   · have hp:bu (some ⟨g,0,none⟩) (j*20) 6 (j*20+20)=some ⟨g,j*20*6,none⟩:=by
      unfold bu;rw[if_neg (by omega),Option.map_some,Addr.add,Nat.zero_add];split
      · rename_i e;rw[e]
      · rfl
     refine av rfl ?_;refine G.Ix func90 rfl ?_;refine bS.an rfl rfl rfl rfl rfl (aD rfl) ?_;refine bS.an rfl rfl rfl rfl rfl (ah H.iu rfl (ks.cell (i:=0) rfl)) ?_;refine bS.an rfl rfl rfl rfl rfl (aD rfl) ?_;refine bS.an rfl rfl rfl rfl rfl (aD rfl) ?_;refine bS.an rfl rfl rfl rfl rfl (aD rfl) ?_;refine bS.an rfl rfl rfl rfl rfl (ai.ck rfl rfl ⟨by omega,by omega⟩) ?_;refine bS.an rfl rfl rfl rfl rfl (aD rfl) ?_;refine bS.an rfl rfl rfl rfl rfl (aD rfl) ?_;refine bS.an rfl rfl rfl rfl rfl (ai.ck rfl rfl ⟨by omega,by omega⟩) ?_;refine bS.an rfl rfl rfl rfl rfl (ai.BW underlying31 H.fQ rfl rfl (j*20) rfl rfl (j*20+20) rfl rfl (j*20+20) rfl (by omega) (by omega) (by omega)) ?_;refine bS.yield (vs:=[_]) rfl rfl rfl rfl rfl rfl rfl (((by rw[hp,show j*20+20-j*20=20 by omega];exact hy j h1 hJ hj4))) ?_;rintro _ h2 ⟨rfl,hJ2⟩;refine bS.an rfl rfl rfl rfl rfl (ai.D8 rfl) ?_;refine bS.done rfl ?_;refine xu [0,1,2,4,5,9,30] rfl ?_;refine aA rfl rfl (fun hc=>absurd hc (by decide)) (fun _=>?_);obtain⟨ks2,kn2⟩:=hread (j+1) h2 hJ2;refine aI rfl ?_;refine G.bE ?_;refine G.cA func90 rfl ?_;refine cT 1 rfl rfl (ah H.cC rfl (kn2.cell (i:=0) rfl)) ?_;refine xp rfl (ai.ck rfl rfl ⟨by omega,by omega⟩) ?_;refine bq 1 [0,1,2,4,5,9,30] rfl ?_;exact ih (j+1) _ _ ⟨rfl,rfl,rfl,congrArg (fun x:Int=>some (Value.int .i64 x)) (by omega),trivial⟩ ⟨hJ2,by omega⟩ (by omega)
 · obtain rfl:j=4:=by omega
   refine cy rfl rfl ?_;refine G.kJ func90 rfl ?_;exact⟨_,rfl,hJ⟩
theorem sX:af Tryz.prog 43 #[HJ g c,.int .i64 20] h (bf fun r h'=>r= .func (.func 90) #[] #[.pointer (some ⟨h.size,0,none⟩),.pointer (some ⟨h.size+1,0,none⟩)]/\aH h' h.size 31 [HJ g c]/\aH h' (h.size+1) 3 [.int .i64 20]/\aq h h'/\h'.size=h.size+2):=by
 refine af.of func43 rfl rfl ?_;refine xr func43 rfl ?_;refine xo rfl (aB.cx rfl) ?_;rintro _ h1 ⟨rfl,k1,e1,z1⟩;refine xo rfl (aB.cx rfl) ?_;rintro _ h2 ⟨rfl,k2,e2,z2⟩;have k1:aH h2 h.size 31 [HJ g c]:=k1.ak e2;have k2:aH h2 h1.size 3 [.int .i64 20]:=k2;refine bq 1 [0,1,2,3,4] rfl ?_;refine av rfl ?_;refine xr func43 rfl ?_;refine xp rfl (ah H.cC rfl (k2.cell (i:=0) rfl)) ?_;refine bq 1 [0,1,2,3,4,6] rfl ?_;refine aA rfl rfl (fun hc=>absurd hc (by decide)) (fun _=>?_);refine aI rfl ?_;refine xr func43 rfl ?_;refine xp rfl (ai.makeFunc (vs:=[_,_]) rfl) ?_;refine bq 1 [0,1,2,3,4,6] rfl ?_;refine G.ret func43 rfl rfl ?_;rw[z1] at k2;exact⟨_,rfl,by rw[z1];rfl,k1,k2,e1.trans e2,by omega⟩
theorem Bq.part (k:Bq h g xs){j:Nat}(hj:j<4):bB Rh h (fun _=>False) (.slice (some ⟨g,j*20*6,none⟩) 20 20) ((xs.drop (j*20)).take 20):=by
 have hl:=k.len;refine⟨_,20,20,rfl,by rw[List.length_take,List.length_drop];omega,Nat.le_refl _,by decide,fun i x hx=>?_⟩
 have hi:i<20:=by
  have:=(List.getElem?_eq_some_iff.1 hx).1;rw[List.length_take,List.length_drop] at this;omega
 rw[List.getElem?_take_of_lt hi,List.getElem?_drop] at hx;refine⟨g,j*20*6,jt x,rfl,fun q=>q,fun m v hv=>?_,rfl⟩;have:=k.row _ _ (fV (enc:=jt) (sz:=6) (fun _=>rfl) xs (j*20+i) x m v hx hv);rw[Nat.zero_add] at this
 show cellAt h ⟨g,j*20*6+i*6+m,none⟩=some v
 rw[show j*20*6+i*6+m=(j*20+i)*6+m by omega];exact this
theorem Mx {L:Nat}{g1 g2:aj}(e:aq h g1) (x:Ext (fun b=>b=L+1) g1 g2) (hL:h.size<=L):aq h g2:=aq.only e x (by omega)
theorem mB (hW:pJ h) (hcc:80<=c) (k:Bq h g xs) (hp:Pr xs){row col:Int}(hr:0<=row/\row<4) (hc:0<=col/\col<20) :
 af Tryz.prog 42 #[.agg (mj 4 20 (HJ g c) row col).toArray] h (bf fun r h'=>r= .bool true/\aq h h'):=by
 refine af.of func42 rfl rfl ?_;refine xr func42 rfl ?_;refine xo rfl (aB.cx rfl) ?_;rintro _ h1 ⟨rfl,k1,e1,z1⟩;refine xo rfl (aB.aQ H.Q6) ?_;rintro _ h2 ⟨rfl,k2,e2,z2⟩;have k1:aH h2 h.size 33 (mj 4 20 (HJ g c) row col):=k1.ak e2;have k2:aH h2 h1.size 4 [.bool false]:=k2;have e02:=e1.trans e2;refine xd [0,1,2] rfl ?_;refine av rfl ?_;refine av rfl ?_;refine G.bK [(44,.bool false)] [(0,_),(1,_),(2,_)] ⟨rfl,rfl,rfl,trivial⟩ func42 rfl ?_ ?_
 · refine xp rfl (aa (off:=0) underlying33 rfl rfl H.bL rfl) ?_;refine xp rfl (ah H.cC rfl (k1.cell (i:=0) rfl)) ?_;refine xp rfl (aa (off:=1) underlying33 rfl rfl H.bL rfl) ?_;refine xp rfl (ah H.cC rfl (k1.cell (i:=1) rfl)) ?_;refine xo rfl (au (vs:=[_,_]) func62 rfl H.NA rfl (af.bD (oN 4 20))) ?_;rintro _ h3 ⟨rfl,hh3⟩;subst hh3;refine bW 2 rfl ?_;refine RW.bH (d:=10) (b':=false) rfl (by decide) ?_;refine xp rfl (aa (off:=2) underlying33 rfl rfl H.iq rfl) ?_;refine xp rfl (ah H.iu rfl (k1.cell (i:=2) rfl)) ?_;refine xp rfl (ai.aX underlying31 rfl) ?_;refine xp rfl (aa (off:=0) underlying33 rfl rfl H.bL rfl) ?_;refine xp rfl (ah H.cC rfl (k1.cell (i:=0) rfl)) ?_;refine xp rfl (aa (off:=1) underlying33 rfl rfl H.bL rfl) ?_;refine xp rfl (ah H.cC rfl (k1.cell (i:=1) rfl)) ?_;refine xp rfl (ai.zj rfl rfl ⟨by decide,by decide⟩) ?_;refine bW 3 rfl ?_;refine RW.bH (d:=21) (b':=false) rfl (by decide) ?_;refine xp rfl (aa (off:=3) underlying33 rfl rfl H.bL rfl) ?_;refine xp rfl (ah H.cC rfl (k1.cell (i:=3) rfl)) ?_;refine bW 3 rfl ?_;refine RW.bH (d:=26) (b':=false) rfl (decide_eq_false (by omega)) ?_;refine xp rfl (aa (off:=3) underlying33 rfl rfl H.bL rfl) ?_;refine xp rfl (ah H.cC rfl (k1.cell (i:=3) rfl)) ?_;refine xp rfl (aa (off:=0) underlying33 rfl rfl H.bL rfl) ?_;refine xp rfl (ah H.cC rfl (k1.cell (i:=0) rfl)) ?_;refine bW 3 rfl ?_;refine RW.bH (d:=33) (b':=false) rfl (decide_eq_false (by omega)) ?_;refine xp rfl (aa (off:=4) underlying33 rfl rfl H.bL rfl) ?_;refine xp rfl (ah H.cC rfl (k1.cell (i:=4) rfl)) ?_;refine bW 3 rfl ?_;refine RW.bH (d:=38) (b':=false) rfl (decide_eq_false (by omega)) ?_;refine xp rfl (aa (off:=4) underlying33 rfl rfl H.bL rfl) ?_;refine xp rfl (ah H.cC rfl (k1.cell (i:=4) rfl)) ?_;refine xp rfl (aa (off:=1) underlying33 rfl rfl H.bL rfl) ?_;refine xp rfl (ah H.cC rfl (k1.cell (i:=1) rfl)) ?_;refine bW 2 rfl ?_;refine RW.done rfl ?_;exact⟨rfl,aC rfl (by rw[decide_eq_false (by omega)]),rfl,rfl,rfl,trivial⟩
 · refine aA rfl rfl (fun hc=>absurd hc (by decide)) (fun _=>?_);refine aI rfl ?_;refine av rfl ?_;refine xr func42 rfl ?_;refine xp rfl (aa (off:=2) underlying33 rfl rfl H.iq rfl) ?_;refine xp rfl (ah H.iu rfl (k1.cell (i:=2) rfl)) ?_;refine xp rfl (aa (off:=1) underlying33 rfl rfl H.bL rfl) ?_;refine xp rfl (ah H.cC rfl (k1.cell (i:=1) rfl)) ?_;refine xo rfl (au (vs:=[_,_]) func43 rfl H.Pp rfl (af.bD (sX))) ?_;rintro _ h4 ⟨rfl,kc1,kc2,e4,z4⟩;have k24:=k2.ak e4;have k04:Bq h4 g xs:=k.ak (e02.trans e4);have hW4:=hW.ak (e02.trans e4);refine xd [0,1,2,44,49] rfl ?_;refine G.block rfl rfl ?_;refine G.D1 (assign:=L2 (Lw.sub (ay f42) [0,1,0,1,1])) (body:=L1 (Lw.sub (ay f42) [0,1,0,1,1])) (fun g'=>aq h4 g') rfl rfl func90 rfl (by decide +kernel) (fun fid tmps hL hfits eL R0=>?_) (fun g2 g3 hJ hdf hlt x=>?_)
   skip
   · refine(qD (c:=c) hcc (l:=h4.size+1) (cs:=h2.size) (cn:=h2.size+1) (g:=g) (J:=fun _ g'=>FX h4.size (eP fid tmps #[50] (L2 (Lw.sub (ay f42) [0,1,0,1,1])) (L1 (Lw.sub (ay f42) [0,1,0,1,1])) h4.size) (fun g'=>aq h4 g') g') (fun j g' q=>⟨kc1.ak q.j,kc2.ak q.j⟩) (fun j g' q hj=>?_) ⟨R0.lp,R0.df,eL⟩).ret fun _ _ q=>q
     refine q.Du rfl rfl rfl (we hfits rfl) rfl rfl (fun g1 g2 e x=>Mx e x (Nat.le_refl _)) ?_;refine GI.cA func42 rfl ?_;refine bS.an rfl rfl rfl rfl rfl (ai.assign rfl) ?_;refine bS.done rfl ?_;refine⟨Ext.refl _ _,fun g3 x3=>?_⟩;have e3:=Mx q.j x3 (Nat.le_refl _);have hlt:=q.lp.lt;have hz3:=x3.size;have hrow:=EB (hW4.ak e3) ((k04.ak e3).part hj) (fun r hr=>hp r (List.mem_of_mem_drop (List.mem_of_mem_take hr))) (by rw[List.length_take];omega);refine GI.block rfl rfl ?_;refine GI.seq rfl ?_;refine GI.cA func42 rfl ?_;refine bS.an rfl rfl rfl rfl rfl (aD rfl) ?_;refine bS.xJ rfl rfl rfl rfl rfl (au (vs:=[_]) func89 rfl H.RG rfl (af.bD (hrow))) ?_;rintro _ g4 ⟨rfl,e4'⟩;refine bS.an rfl rfl rfl rfl rfl (ai.D8 rfl) ?_;refine bS.done rfl ?_;refine GI.sub (ρ':=[(0,_),(1,_),(2,_),(3,_),(44,_),(49,_),(50,_),(53,_)]) ⟨rfl,rfl,rfl,rfl,rfl,rfl,rfl,rfl,trivial⟩ ?_;refine GI.cond rfl rfl (fun hc=>absurd hc (by decide)) (fun _=>?_);refine GI.skip rfl ?_;exact⟨rfl,⟨e4'.block _ (by omega) (fun q=>q),e4'.block _ (by omega) (fun q=>q)⟩,e3.trans e4'⟩
   · have z12:=e2.size;have z24:=e4.size;refine GD.bE ?_;refine iy rfl ?_;refine GD.cA func42 rfl ?_;refine gE.dQ rfl rfl rfl (aB.aS H.Fb rfl rfl ((k24.ak hJ).ext x (by omega)) (by first|decide|exact of_decide_eq_true rfl|(simp;done)|(simp;omega)) rfl) ?_;rintro _ g4 ⟨rfl,k5,x5,z5⟩;refine gE.done rfl ?_;refine GD.sub (ρ':=[(0,_),(1,_),(2,_),(44,_),(49,_)]) ⟨rfl,rfl,rfl,rfl,rfl,trivial⟩ ?_
     have hdf5:g4[h4.size]? =some (.deferred (some [])):=by
      rw[x5.block h4.size (by have:=x.size;omega) (by omega),x.block h4.size (by omega) (by omega)];exact hdf
     have x6:Ext (fun b=>b=h4.size) g4 (Lw.cu g4 h4.size (.deferred none)):=Ext.cu _ _ _ rfl;have k6:=k5.ext x6 (by omega);refine GD.B5 func42 rfl hdf5 (.cons (bT.cell (t:=4) (by kernel_rfl) rfl (k6.cell (i:=0) rfl)) .nil) ?_;exact⟨_,rfl,rfl,aq.only (aq.only (aq.only ((e02.trans e4).trans hJ) x (by omega)) x5 (by omega)) x6 (by omega)⟩
theorem Kw {w:Value}{c d e:Int}(hne:d≠e) (hv:v.oneCell'=true) (hw:w.oneCell'=true):af Tryz.prog 111 #[.agg (mj a b v c d).toArray,.agg (mj a b w c e).toArray] h (bf fun r h'=>r= .bool false/\aq h h'):=by
 refine af.of func111 rfl rfl ?_;refine xr func111 rfl ?_;refine xo rfl (aB.cx rfl) ?_;rintro _ h1 ⟨rfl,k1,e1,z1⟩;refine xo rfl (aB.cx rfl) ?_;rintro _ h2 ⟨rfl,k2,e2,z2⟩;have k1:aH h2 h.size 33 (mj a b v c d):=k1.ak e2;have k2:aH h2 h1.size 33 (mj a b w c e):=k2;refine bq 1 [0,1,2,3,4] rfl ?_;refine av rfl ?_;refine G.bK [(4,.bool false)] [(0,_),(1,_),(2,_),(3,_)] ⟨rfl,rfl,rfl,rfl,trivial⟩ func111 rfl ?_ ?_
 · refine xp rfl (aa (off:=0) underlying33 rfl rfl H.bL rfl) ?_;refine xp rfl (ah H.cC rfl (k1.cell (i:=0) rfl)) ?_;refine xp rfl (aa (off:=0) underlying33 rfl rfl H.bL rfl) ?_;refine xp rfl (ah H.cC rfl (k2.cell (i:=0) rfl)) ?_;refine bW 2 rfl ?_;refine RW.bH (d:=10) (b':=true) rfl (by simp) ?_;refine xp rfl (aa (off:=1) underlying33 rfl rfl H.bL rfl) ?_;refine xp rfl (ah H.cC rfl (k1.cell (i:=1) rfl)) ?_;refine xp rfl (aa (off:=1) underlying33 rfl rfl H.bL rfl) ?_;refine xp rfl (ah H.cC rfl (k2.cell (i:=1) rfl)) ?_;refine bW 3 rfl ?_;refine RW.bH (d:=17) (b':=true) rfl (by simp) ?_;refine xp rfl (aa (off:=3) underlying33 rfl rfl H.bL rfl) ?_;refine xp rfl (ah H.cC rfl (k1.cell (i:=3) rfl)) ?_;refine xp rfl (aa (off:=3) underlying33 rfl rfl H.bL rfl) ?_;refine xp rfl (ah H.cC rfl (k2.cell (i:=3) rfl)) ?_;refine bW 3 rfl ?_;refine RW.bH (d:=24) (b':=true) rfl (by simp) ?_;refine xp rfl (aa (off:=4) underlying33 rfl rfl H.bL rfl) ?_;refine xp rfl (ah H.cC rfl (k1.cell (i:=4) rfl)) ?_;refine xp rfl (aa (off:=4) underlying33 rfl rfl H.bL rfl) ?_;refine xp rfl (ah H.cC rfl (k2.cell (i:=4) rfl)) ?_;refine bW 3 rfl ?_;refine RW.bH (d:=31) (b':=false) rfl (by simp[hne]) ?_;refine bW 7 rfl ?_;refine RW.done rfl ?_;exact⟨rfl,aC rfl (rfl),rfl,rfl,rfl,rfl,trivial⟩
 · refine G.ret func111 rfl rfl ?_;exact⟨_,rfl,rfl,e1.trans e2⟩
end
end Go.Proofs.YtdihgdeciopfpaaGreatDoor
namespace Go.Proofs.YtdihgdeciopfpaaGreatDoor
open Go.Proofs.Tryz
open Go Go.Lw
set_option maxRecDepth 20000 set_option maxHeartbeats 4000000
theorem BH {h:aj}(n:Int):af Tryz.prog 305 #[.int .i64 n] h (bf fun r h'=>r= .int .i64 (gw n)/\h'=h):=by
 refine eV ?_;refine ax ?_;refine dS ?_;exact⟨_,rfl,congrArg (Value.int .i64) (by unfold gw;(repeat' split)<;>omega),rfl⟩
theorem GB {O:Nat->Prop}{h:aj}{v:Value}{s:MS}(k:mw O h v s) (hO:∀y,O y->y<h.size){B:Nat}(hI:MI B s) (hB:B<=100000000) (a:Nat) (ha:a<=s.text.length) (t:By) (ht:t.length<=100000000) :
 af Tryz.prog 304 #[v,.int .i64 (a:Nat),.string (bs t)] h (bf fun r h'=>(∃w,r= .tuple #[w,.bool (eM s a t).2]/\mw O h' w (eM s a t).1)/\aq h h'):=by
 have hbs:=aR s.text;have hbt:=aR t;have htx:=hI.text;have hq1:(bs s.text).extract 0 a=bs (s.text.take a):=by rw[qE s.text 0 a (Nat.zero_le _),List.drop_zero]
 have hq2:=lO s.text a;obtain⟨xa,xn,xc,ya,yn,yc,za,zn,zc,ua,un,uc,rfl,hS⟩:=mw.get k;refine eV ?_;refine ax ?_;refine xo rfl (Bu) ?_;rintro _ h1 ⟨rfl,k1,e1,z1⟩;refine xo rfl (pI) ?_;rintro _ h2 ⟨rfl,k2,e2,z2⟩;have F:Fr O h h2 h.size h1.size s _ _ _ _:=Fr.start hS hO (e1.trans e2) (k1.ak e2) k2 (Nat.le_refl _) (by omega) (by omega);refine ax ?_;refine xp rfl (bJ rfl (F.blk.cell (i:=0) rfl)) ?_;refine ax ?_;refine dM (fun c=>?_) (fun c=>?_)
 · have hp:eM s a t=(dR s,false):=by unfold eM;rw[if_pos (by omega)]
   refine ax ?_;refine xp rfl (jT rfl F.blk.row) ?_;refine xo rfl (dz rfl (wL F.IX F.hO hI hB)) ?_;rintro v3 h3 ⟨kv,e3⟩;obtain⟨_,_,_,_,_,_,_,_,_,_,_,_,rfl,hT⟩:=mw.get kv;have F:=F.ak e3;refine dD rfl (iV rfl rfl F.res ms1) ?_;rintro _ gz ⟨rfl,kz,xz,zz⟩;refine ax ?_;refine qZ (pH rfl kz.row (M6 qW)) ?_;rw[hp];exact⟨_,rfl,⟨_,rfl,(F.K1 hT xz).1⟩,(F.K1 hT xz).2⟩
 · have hp:eM s a t=({ s with text:=s.text.take a++t++s.text.drop a,cur:=((a+t.length:Nat):Int) },true):=by unfold eM;rw[if_neg (by omega)]
   have hl:(s.text.take a).length=a:=by rw[List.length_take];omega
   have hM:¬Array.size h2<=h.size:=by omega
   have hq3:((bs s.text).extract 0 a++bs t)++(bs s.text).extract a (bs s.text).size=bs (s.text.take a++t++s.text.drop a):=by rw[hq1,hq2,eH,eH]
   refine ax ?_;refine Sq 13 12 ?_;refine cS 0 ?_;refine eO 1 rfl (fun h' e=>bJ rfl (e.cell hM (F.blk.cell (i:=0) rfl))) ?_;refine cS 2 ?_;refine eO 3 rfl (fun h' e=>ai.kY underlying9 rfl rfl a (by omega) (by omega)) ?_;refine cS 4 ?_;refine eO 5 rfl (fun h' e=>ai.jm rfl rfl (by rw[hq1,aR,aR];omega)) ?_;refine cS 6 ?_;refine eO 7 rfl (fun h' e=>bJ rfl (e.cell hM (F.blk.cell (i:=0) rfl))) ?_;refine cS 8 ?_;refine eO 9 rfl (fun h' e=>ai.eZ underlying9 rfl rfl a (by omega) (by omega)) ?_;refine eO 10 rfl (fun h' e=>ai.jm rfl rfl (by rw[hq2,ByteArray.size_append,hq1,aR,aR,aR,List.length_drop];omega)) ?_;refine cS 11 ?_;refine zS 12 rfl (qY rfl rfl F.blk rfl) ?_;rintro _ h3 ⟨rfl,k3,x3,z3⟩;refine⟨nofun,?_⟩;rw[hq3] at k3;have F:=F.set (t:= { s with text:=s.text.take a++t++s.text.drop a }) k3 x3 (F.ms.of rfl rfl rfl rfl);refine xM ?_;refine ax ?_;refine dD rfl (qY rfl rfl F.blk) ?_;rintro _ h4 ⟨rfl,k4,x4,z4⟩;rw[hbt,show ((a:Nat):Int)+(t.length:Nat)=((a+t.length:Nat):Int) by omega] at k4;have F:=F.set (t:= { s with text:=s.text.take a++t++s.text.drop a,cur:=((a+t.length:Nat):Int) }) k4 x4 (F.ms.of rfl rfl rfl rfl);refine ax ?_;refine xp rfl (jT rfl F.blk.row) ?_;refine dD rfl (iV rfl rfl F.res ms1) ?_;rintro _ gz ⟨rfl,kz,xz,zz⟩;refine ax ?_;refine qZ (pH rfl kz.row (M6 qW)) ?_;rw[hp];exact⟨_,rfl,⟨_,rfl,(F.out xz).1⟩,(F.out xz).2⟩
end Go.Proofs.YtdihgdeciopfpaaGreatDoor
namespace Go.Proofs.YtdihgdeciopfpaaGreatDoor
open Go Go.Lw
set_option maxRecDepth 20000
theorem Rx:Go.Proofs.Builder.Extra Tryz.prog Tryz.sD where
  sizeBuilder:=by kernel_rfl
  liesBuilder:=by kernel_rfl
  t5:=Tryz.lC.t5
  a5:=Tryz.lC.a5
  z5:=Tryz.lC.z5
  v5:=Tryz.lC.v5
  infoByte:=by kernel_rfl
  cellsByte:=by kernel_rfl
  sizeByte:=by kernel_rfl
  neB5:=by decide
theorem Iw (t:By):∀n,Lib.repeatL t n=ym t n
  | 0=>rfl
  |n+1=>by rw[ym,<-Iw t n];rfl
theorem Gx {h:aj}(t:By) (n:Nat) (ht:t.length<=16384) (hn:n<=1000):af Tryz.prog 339 #[.string (bs t),.int .i64 (n:Nat)] h (bf fun r h'=>r= .string (bs (ym t n))/\aq h h'):=by
  have hm:t.length*n<=16384*1000:=Nat.mul_le_mul ht hn;refine af.qj fun w hw=>?_
  subst hw;refine(Any.strings_Repeat Tryz.lC Rx (bs t) n w (by omega) (by rw[aR];omega)).mono ?_;rintro e w' ⟨rfl,hb⟩;refine⟨_,rfl,⟨?_,⟨hb.size,fun b hlt _=>hb.block b hlt⟩⟩,hb.os,hb.tape,hb.output⟩;rw[qF,Iw];rfl
theorem B6 (t:By):∀n,(ym t n).length=n*t.length
  | 0=>by simp[ym]
  |n+1=>by rw[ym,List.length_append,B6 t n,Nat.succ_mul];omega
end Go.Proofs.YtdihgdeciopfpaaGreatDoor
namespace Go.Proofs.YtdihgdeciopfpaaGreatDoor
open Go.Proofs.Tryz
open Go Go.Lw
set_option maxRecDepth 20000 set_option maxHeartbeats 4000000
theorem DG {h:aj}(t:By) (n:Int) (ht:t.length<=100000000):af Tryz.prog 303 #[.string (bs t),.int .i64 n] h (bf fun r h'=>r= .tuple #[.string (bs ((jx t n).getD [])),.bool (jx t n).isSome]/\aq h h'):=by
 have hbt:=aR t;obtain⟨m,hm⟩:∃m:Nat,gw n=(m:Nat):=⟨(gw n).toNat,by unfold gw;omega⟩
 have hm1:m<=1000:=by unfold gw at hm;omega
 have hR:jx t n=if t≠[]/\((16384 / t.length:Nat):Int)<(m:Nat) then none else some (ym t m):=by unfold jx;rw[hm,Int.toNat_natCast]
 refine eV ?_;refine ax ?_;refine xo rfl (dz rfl (BH n)) ?_;rintro _ h ⟨rfl,rfl⟩;rw[hm];refine cG ?_;refine iF ?_
 iterate 2 refine dc ?_
 obtain⟨D0,hD0⟩:∃D0,16384 / t.length=D0:=⟨_,rfl⟩
 rw[hD0] at hR;refine rV [(16,.bool (decide (t≠[]/\(D0:Int)<(m:Nat))))] rfl ?_ ?_
 · refine ax ?_;refine qV 10 (fun c=>?_) (fun c=>?_)
   · have c:=of_decide_eq_true c;have hne:t≠[]:=fun e=>c (by rw[e];rfl)
     have hp:=List.length_pos_iff.2 hne;have hdiv:(16384:Int).tdiv ((t.length:Nat):Int)=((16384 / t.length:Nat):Int):=rfl;have hdl:16384 / t.length<=16384:=Nat.div_le_self _ _;rw[hD0] at hdiv hdl
     iterate 3 refine cG ?_
     refine xp rfl (nQ rfl rfl (by omega)) ?_;rw[hbt,hdiv,wrap_i64 ⟨by omega,by omega⟩];refine ax ?_;exact cY rfl ⟨aC rfl (by rw[decide_eq_decide];exact⟨fun q=>⟨hne,q⟩,fun q=>q.2⟩),sb rfl⟩
   · have c:=of_decide_eq_false c;have he:t=[]:=jj (by by_cases q:bs t=bs [];exact q;exact absurd q c);refine ax ?_;exact cY rfl ⟨aC rfl (by rw[decide_eq_false (fun q=>q.1 he)]),sb rfl⟩
 · refine dM (fun hc=>?_) (fun hc=>?_)
   · rw[if_pos hc] at hR;rw[hR];refine ax ?_;refine dS ?_;exact⟨_,rfl,rfl,Ext.refl _ _⟩
   · rw[if_neg hc] at hR;rw[hR]
     have htl:m=0\/t.length<=16384:=by
      by_cases he:t=[]
      · right;rw[he];simp
      · rcases Nat.eq_zero_or_pos m with q|q
        · exact .inl q
        · right
          have hp:=List.length_pos_iff.2 he
          by_cases hg:t.length<=16384
          · exact hg
          · exact absurd ⟨he,by rw[<-hD0,Nat.div_eq_of_lt (by omega)];omega⟩ hc
     have hcall:af Tryz.prog 339 #[.string (bs t),.int .i64 (m:Nat)] h (bf fun r h'=>r= .string (bs (ym t m))/\aq h h'):=by
      rcases htl with rfl|htl
      · exact af.AJ (h:=h) (fun w=>Tryz.strings_Repeat_zero (bs t) w) |>.ret fun r h' ⟨h1,h2⟩=>⟨h1,by subst h2;exact Ext.refl _ _⟩
      · exact Gx t m htl hm1
     refine ax ?_;refine xo rfl (dz rfl hcall) ?_;rintro _ g ⟨rfl,e⟩;refine ax ?_;refine dS ?_;exact⟨_,rfl,rfl,e⟩
theorem Gy {t x:By}{n:Int}(h:jx t n=some x):x.length<=16384:=by
 unfold jx at h;split at h
 · cases h
 · rename_i q;cases h;rw[B6]
   by_cases he:t=[]
   · rw[he];simp
   · have hp:=List.length_pos_iff.2 he
     have hle:(gw n).toNat<=16384 / t.length:=by
      by_cases hg:(gw n).toNat<=16384 / t.length
      · exact hg
      · exact absurd ⟨he,by generalize 16384 / t.length=D at *;omega⟩ q
     exact Nat.le_trans (Nat.mul_le_mul_right _ hle) (Nat.div_mul_le_self _ _)
theorem AY {O:Nat->Prop}{h:aj}{v:Value}{s:MS}(k:mw O h v s) (hO:∀y,O y->y<h.size){B:Nat}(hI:MI B s) (hB:B<=100000000) (hc:xF s) (t:By) (ht:t.length<=100000000) (n last:Int) :
 af Tryz.prog 262 #[v,.string (bs t),.int .i64 n,.int .i64 last] h (bf fun r h'=>mw O h' r (fK s t n last)/\aq h h'):=by
 obtain⟨p,hp⟩:∃p:Nat,s.cur=(p:Nat):=⟨s.cur.toNat,by unfold xF at hc;omega⟩
 have hpl:p<=s.text.length:=by unfold xF at hc;omega
 obtain⟨xa,xn,xc,ya,yn,yc,za,zn,zc,ua,un,uc,rfl,hS⟩:=mw.get k;refine eV ?_;refine ax ?_;refine xo rfl (Bu) ?_;rintro _ h1 ⟨rfl,k1,e1,z1⟩;refine xo rfl (pI) ?_;rintro _ h2 ⟨rfl,k2,e2,z2⟩;have F:Fr O h h2 h.size h1.size s _ _ _ _:=Fr.start hS hO (e1.trans e2) (k1.ak e2) k2 (Nat.le_refl _) (by omega) (by omega);refine ax ?_;refine xo rfl (dz rfl (DG t n ht)) ?_;rintro _ g ⟨rfl,e⟩;have F:=F.ak e
 rcases hR:jx t n with _|x
 · refine ax ?_;refine tf rfl (by simp) ?_;have hM:fK s t n last=dR s:=by unfold fK;rw[hR]
   rw[hM];refine ax ?_;refine xp rfl (jT rfl F.blk.row) ?_;refine xo rfl (dz rfl (wL F.IX F.hO hI hB)) ?_;rintro v3 h3 ⟨kv,e3⟩;obtain⟨_,_,_,_,_,_,_,_,_,_,_,_,rfl,hT⟩:=mw.get kv;have F:=F.ak e3;refine dD rfl (iV rfl rfl F.res ms1) ?_;rintro _ gz ⟨rfl,kz,xz,zz⟩;refine ax ?_;refine qZ (pH rfl kz.row qW) ?_;exact⟨_,rfl,F.K1 hT xz⟩
 · have hxl:=Gy hR;refine ax ?_;refine qT rfl (by simp) ?_
   iterate 2 refine dc ?_
   refine G.ic [(11,.int .i64 s.cur),(12,.bool (decide (last=1/\s.last=1/\s.to_=s.cur)))] [(0,_),(1,_),(2,_),(3,_),(4,_),(8,_),(9,_),(10,_),(20,_)] ⟨rfl,rfl,rfl,rfl,rfl,rfl,rfl,rfl,rfl,trivial⟩ func262 H.mixed rfl (by kernel_rfl) ?_ ?_
   · refine OH ?_;refine rU rfl (bJ rfl (F.blk.cell (i:=1) rfl)) ?_;refine ax ?_;refine So 27 (fun c1=>?_) (fun c1=>?_)
     · have c1:=of_decide_eq_true c1;refine ax ?_;refine rU rfl (bJ rfl (F.blk.cell (i:=8) rfl)) ?_;refine ax ?_;refine So 32 (fun c2=>?_) (fun c2=>?_)
       · have c2:=of_decide_eq_true c2;refine ax ?_;refine rU rfl (bJ rfl (F.blk.cell (i:=10) rfl)) ?_;refine ax ?_;refine rU rfl (bJ rfl (F.blk.cell (i:=1) rfl)) ?_;refine ax ?_;exact M8 rfl ⟨rfl,aC rfl (by rw[decide_eq_decide];exact⟨fun q=>⟨c1,c2,q⟩,fun q=>q.2.2⟩),sb rfl⟩
       · have c2:=of_decide_eq_false c2;refine ax ?_;exact M8 rfl ⟨rfl,aC rfl (by rw[decide_eq_false (fun q=>c2 q.2.1)]),sb rfl⟩
     · have c1:=of_decide_eq_false c1;refine ax ?_;exact M8 rfl ⟨rfl,aC rfl (by rw[decide_eq_false (fun q=>c1 q.1)]),sb rfl⟩
   · rw[hp];refine ax ?_;refine xp rfl (jT rfl F.blk.row) ?_;refine ax ?_;refine xo rfl (dz rfl (GB F.IX F.hO hI hB p hpl x (by omega))) ?_;rintro v3 h3 ⟨⟨w3,rfl,kw⟩,e3⟩;obtain⟨_,_,_,_,_,_,_,_,_,_,_,_,rfl,hT⟩:=mw.get kw;have F:=F.ak e3;refine ax ?_;refine dD rfl (iV rfl rfl F.blk ms1) ?_;rintro _ h4 ⟨rfl,k4,x4,z4⟩;refine ax ?_;have F:=F.set k4 x4 hT;have hpt:s.cur.toNat=p:=by omega
     rcases hq:(eM s p x).2
     · refine tf rfl (by simp) ?_;have hM:fK s t n last=(eM s p x).1:=by unfold fK;rw[hR];simp only;rw[hpt,if_pos hq]
       rw[hM];refine ax ?_;refine xp rfl (jT rfl F.blk.row) ?_;refine dD rfl (iV rfl rfl F.res ms1) ?_;rintro _ gz ⟨rfl,kz,xz,zz⟩;refine ax ?_;refine qZ (pH rfl kz.row qW) ?_;exact⟨_,rfl,F.out xz⟩
     · refine qT rfl (by simp) ?_;have hM:fK s t n last= { (eM s p x).1 with from_:=if last=1/\s.last=1/\s.to_=s.cur then s.from_ else s.cur,last:=last,to_:=(eM s p x).1.cur }:=by unfold fK;rw[hR];simp only;rw[hpt,if_neg (by rw[hq];simp)]
       have hfr:(eM s p x).1.from_=s.from_:=by unfold eM;split<;>rfl
       rw[hM];refine ax ?_
       rcases hg:decide (last=1/\s.last=1/\s.to_=(p:Nat))
       · refine tf rfl (by simp) ?_;have hg:=of_decide_eq_false hg;rw[if_neg (by rw[hp];exact hg),hp];refine ax ?_;refine dD rfl (qY rfl rfl F.blk) ?_;rintro _ h4 ⟨rfl,k4,x4,z4⟩;have F:=F.set (t:= { (eM s p x).1 with from_:=(p:Nat) }) k4 x4 (F.ms.of rfl rfl rfl rfl);refine ax ?_;refine xp rfl (bJ rfl (F.blk.cell (i:=1) rfl)) ?_;refine ax ?_;refine dD rfl (qY rfl rfl F.blk) ?_;rintro _ h4 ⟨rfl,k4,x4,z4⟩;have F:=F.set (t:= { (eM s p x).1 with from_:=(p:Nat),last:=last }) k4 x4 (F.ms.of rfl rfl rfl rfl);refine ax ?_;refine dD rfl (qY rfl rfl F.blk) ?_;rintro _ h4 ⟨rfl,k4,x4,z4⟩;have F:=F.set (t:= { (eM s p x).1 with from_:=(p:Nat),last:=last,to_:=(eM s p x).1.cur }) k4 x4 (F.ms.of rfl rfl rfl rfl);refine ax ?_;refine xp rfl (jT rfl F.blk.row) ?_;refine dD rfl (iV rfl rfl F.res ms1) ?_;rintro _ gz ⟨rfl,kz,xz,zz⟩;refine ax ?_;refine qZ (pH rfl kz.row qW) ?_;exact⟨_,rfl,F.out xz⟩
       · refine qT rfl (by simp) ?_;have hg:=of_decide_eq_true hg;rw[if_pos (by rw[hp];exact hg),<-hfr];refine ax ?_;refine xp rfl (bJ rfl (F.blk.cell (i:=1) rfl)) ?_;refine ax ?_;refine dD rfl (qY rfl rfl F.blk) ?_;rintro _ h4 ⟨rfl,k4,x4,z4⟩;have F:=F.set (t:= { (eM s p x).1 with last:=last }) k4 x4 (F.ms.of rfl rfl rfl rfl);refine ax ?_;refine dD rfl (qY rfl rfl F.blk) ?_;rintro _ h4 ⟨rfl,k4,x4,z4⟩;have F:=F.set (t:= { (eM s p x).1 with last:=last,to_:=(eM s p x).1.cur }) k4 x4 (F.ms.of rfl rfl rfl rfl);refine ax ?_;refine xp rfl (jT rfl F.blk.row) ?_;refine dD rfl (iV rfl rfl F.res ms1) ?_;rintro _ gz ⟨rfl,kz,xz,zz⟩;refine ax ?_;refine qZ (pH rfl kz.row qW) ?_;exact⟨_,rfl,F.out xz⟩
end Go.Proofs.YtdihgdeciopfpaaGreatDoor
namespace Go.Proofs.YtdihgdeciopfpaaGreatDoor
open Go.Proofs.Tryz
open Go Go.Lw
set_option maxRecDepth 20000
section
variable {s:MS}{B:Nat}
def jF (c:Cm):Prop:=c.kind=2
theorem CV {O:Nat->Prop}{h:aj}(hg:tG h){v:Value}(k:mw O h v s) (hO:∀y,O y->y<h.size) (hI:MI B s) (hB:B<=10000000) (hc:zQ s) (c:Cm) (hct:c.text.length<=100000000) (hk:jF c) :
 af Tryz.prog 216 #[v,Oy c] h (bf fun r h'=>mw O h' r (kK s c)/\aq h h'):=by
 have htx:=hI.text;unfold jF at hk;unfold kK;obtain⟨xa,xn,xc,ya,yn,yc,za,zn,zc,ua,un,uc,rfl,hS⟩:=mw.get k;refine af.of func216 rfl rfl ?_;refine xr func216 rfl ?_;refine xo rfl (aB.cx rfl) ?_;rintro _ h1 ⟨rfl,k1,e1,z1⟩;refine xo rfl (aB.cx rfl) ?_;rintro _ h2 ⟨rfl,k2,e2,z2⟩;refine xo rfl (aB.aQ H.rT) ?_;rintro _ h3 ⟨rfl,k3,e3,z3⟩;have F:M4 O h h3 h.size h2.size h1.size c s _ _ _ _:=⟨Fr.start hS hO ((e1.trans e2).trans e3) ((k1.ak e2).ak e3) k3 (Nat.le_refl _) (by omega) (by omega),k2.ak e3,by omega⟩
 have hg3:=hg.ak F.ext;refine xd [0,1,2,3,4] rfl ?_;refine av rfl ?_;refine xr func216 rfl ?_;refine xp rfl (aa (off:=0) underlying187 rfl rfl H.bL rfl) ?_;refine xp rfl (ah H.cC rfl (F.cmd.cell (i:=0) rfl)) ?_;refine xd [0,1,2,3,4,7] rfl ?_;refine G.block rfl rfl ?_;refine bI func216 2 [0,1,2,3,4,7,8] rfl ?_;rw[if_pos hk];refine aA rfl rfl (fun _=>?_) (fun hc=>absurd hc (by simp[hk]));refine xr func216 rfl ?_;refine xp rfl (ai.aF H.jE H.cO rfl F.blk.row (by first|rfl|(simp;done)|(simp;omega))) ?_;refine xp rfl (aa (off:=3) underlying187 rfl rfl H.js rfl) ?_;refine xp rfl (ah H.jQ rfl (F.cmd.cell (i:=3) rfl)) ?_;refine xp rfl (aa (off:=2) underlying187 rfl rfl H.bL rfl) ?_;refine xp rfl (ah H.cC rfl (F.cmd.cell (i:=2) rfl)) ?_;refine xo rfl (au (vs:=[_,_,_,_]) func262 rfl H.Pw rfl (af.bD (AY F.IX F.hO hI (by omega) hc.ok c.text hct c.n 1))) ?_;rintro v5 h5 ⟨kv,e5⟩;obtain⟨_,_,_,_,_,_,_,_,_,_,_,_,rfl,hT⟩:=mw.get kv;have F:=F.ak e5;refine RW.dQ rfl rfl rfl (aB.aG H.cO rfl rfl F.res (by first|rfl|(simp;done)|(simp;omega)) (by first|decide|exact of_decide_eq_true rfl|(simp;done)|(simp;omega)) (ms1)) ?_;rintro _ gz ⟨rfl,kz,xz,zz⟩;refine xd [0,1,2,3,4,7,8] rfl ?_;refine G.jI func216 rfl (.cons (bT.ja H.jE H.cO rfl (kz.row) (by first|rfl|(simp;done)|(simp;omega))) (.nil)) ?_;exact⟨_,rfl,F.K1 hT xz⟩
theorem CU (hI:MI B s) (hc:zQ s) (c:Cm) (hk:jF c):F4 B s (kK s c):=by
 unfold jF at hk;unfold kK;rw[if_pos hk];exact Em hI hc.ok _ _ _
theorem Bn {O:Nat->Prop}{h:aj}(hg:tG h){v:Value}(k:mw O h v s) (hO:∀y,O y->y<h.size) (hI:MI B s) (hB:B<=9000000) (c:Cm) (hct:c.text.length<=100000000) (hk:jF c) (hm4:s.mode≠4) (hm2:(kK (fixC s) c).mode≠2) :
 af Tryz.prog 164 #[v,Oy c] h (bf fun r h'=>mw O h' r (dO s c)/\aq h h'):=by
 have htx:=hI.text;have hI1:MI B (fixC s):=hI.cur _;have hc1:zQ (fixC s):=⟨_,rfl,tL _ _⟩
 have hmid:=CU hI1 hc1 c hk;have hk':=hk;unfold jF at hk';unfold dO;rw[if_neg (by omega),show KI (fixC s) c=kK (fixC s) c from if_neg hm4];obtain⟨xa,xn,xc,ya,yn,yc,za,zn,zc,ua,un,uc,rfl,hS⟩:=mw.get k;refine af.of func164 rfl rfl ?_;refine xr func164 rfl ?_;refine xo rfl (aB.cx rfl) ?_;rintro _ h1 ⟨rfl,k1,e1,z1⟩;refine xo rfl (aB.cx rfl) ?_;rintro _ h2 ⟨rfl,k2,e2,z2⟩;refine xo rfl (aB.aQ H.rT) ?_;rintro _ h3 ⟨rfl,k3,e3,z3⟩;have F:M4 O h h3 h.size h2.size h1.size c s _ _ _ _:=⟨Fr.start hS hO ((e1.trans e2).trans e3) ((k1.ak e2).ak e3) k3 (Nat.le_refl _) (by omega) (by omega),k2.ak e3,by omega⟩
 refine xd [0,1,2,3,4] rfl ?_;refine av rfl ?_;refine av rfl ?_;refine G.bK [(22,.bool false)] [(0,_),(1,_),(2,_),(3,_),(4,_)] ⟨rfl,rfl,rfl,rfl,rfl,trivial⟩ func164 rfl ?_ ?_
 · refine xp rfl (aa (off:=0) underlying187 rfl rfl H.bL rfl) ?_;refine xp rfl (ah H.cC rfl (F.cmd.cell (i:=0) rfl)) ?_;refine bW 2 rfl ?_;refine RW.bH (d:=8) (b':=false) rfl (decide_eq_false (by omega)) ?_;refine xp rfl (aa (off:=0) underlying187 rfl rfl H.bL rfl) ?_;refine xp rfl (ah H.cC rfl (F.cmd.cell (i:=0) rfl)) ?_;refine bW 3 rfl ?_;refine RW.bH (d:=13) (b':=false) rfl (decide_eq_false (by omega)) ?_;refine xp rfl (aa (off:=0) underlying187 rfl rfl H.bL rfl) ?_;refine xp rfl (ah H.cC rfl (F.cmd.cell (i:=0) rfl)) ?_;refine bW 3 rfl ?_;refine RW.bH (d:=18) (b':=false) rfl (decide_eq_false (by omega)) ?_;refine xp rfl (aa (off:=0) underlying187 rfl rfl H.bL rfl) ?_;refine xp rfl (ah H.cC rfl (F.cmd.cell (i:=0) rfl)) ?_;refine bW 2 rfl ?_;refine RW.done rfl ?_;exact⟨rfl,aC rfl (by rw[decide_eq_false_iff_not];omega),rfl,rfl,rfl,rfl,rfl,trivial⟩
 · refine aA rfl rfl (fun hc=>absurd hc (by decide)) (fun _=>?_);have hfx:=rI (h:=h3) s.text s.cur (by omega);refine aI rfl ?_;refine xr func164 rfl ?_;refine xp rfl (aa (off:=0) underlying144 rfl rfl H.js rfl) ?_;refine xp rfl (ah H.jQ rfl (F.blk.cell (i:=0) rfl)) ?_;refine xp rfl (aa (off:=1) underlying144 rfl rfl H.bL rfl) ?_;refine xp rfl (ah H.cC rfl (F.blk.cell (i:=1) rfl)) ?_;refine xo rfl (au (vs:=[_,_]) func168 rfl H.IQ rfl (af.bD (hfx))) ?_;rintro _ h4 ⟨rfl,e4⟩;have F:=F.ak e4;refine xp rfl (aa (off:=1) underlying144 rfl rfl H.bL rfl) ?_;refine RW.dQ rfl rfl rfl (aB.aS H.bL rfl rfl F.blk (by first|decide|exact of_decide_eq_true rfl|(simp;done)|(simp;omega)) rfl) ?_;rintro _ h8 ⟨rfl,k8,x8,z8⟩;have F:=F.set (t:=fixC s) k8 x8 (F.ms.of rfl rfl rfl rfl);have hg4:=hg.ak F.ext;refine xd [0,1,2,3,4,22] rfl ?_;refine av rfl ?_;refine xr func164 rfl ?_;refine xp rfl (aa (off:=2) underlying144 rfl rfl H.bL rfl) ?_;refine xp rfl (ah H.cC rfl (F.blk.cell (i:=2) rfl)) ?_;refine bq 1 [0,1,2,3,4,22,32] rfl ?_;refine aA rfl rfl (fun hc=>absurd hc (by simp;exact hm4)) (fun _=>?_);refine G.cA func164 rfl ?_;refine xp rfl (ai.aF H.jE H.cO rfl F.blk.row (by first|rfl|(simp;done)|(simp;omega))) ?_;refine xp rfl (ai.aF H.zL H.sd rfl F.cmd.row (by first|rfl|(simp;done)|(simp;omega))) ?_;refine xo rfl (au (vs:=[_,_]) func216 rfl H.PI rfl (af.bD (CV hg4 F.IX F.hO hI1 (by omega) hc1 c hct hk))) ?_;rintro v3 h5 ⟨kv,e3⟩;obtain⟨_,_,_,_,_,_,_,_,_,_,_,_,rfl,hT⟩:=mw.get kv;have F:=F.ak e3;refine RW.dQ rfl rfl rfl (aB.aG H.cO rfl rfl F.blk (by first|rfl|(simp;done)|(simp;omega)) (by first|decide|exact of_decide_eq_true rfl|(simp;done)|(simp;omega)) (ms1)) ?_;rintro _ h6 ⟨rfl,k6,x6,z6⟩;have F:=F.set k6 x6 hT;generalize kK (fixC s) c=T at *;have hIT:MI (B+20000) T:=hmid.inv;have htx:=hIT.text;obtain⟨p,hp⟩:∃p,nT T.text T.cur=p:=⟨_,rfl⟩
   have hM:JA (fixC T)= { T with cur:=(p:Nat) }:=by
    unfold JA fixC;simp only;rw[hp,if_neg (fun q=>hm2 q.1)]
   rw[hM];have hfx:=rI (h:=h6) T.text T.cur (by omega);rw[hp] at hfx;refine xd [0,1,2,3,4,22,32] rfl ?_;refine xr func164 rfl ?_;refine xp rfl (aa (off:=0) underlying144 rfl rfl H.js rfl) ?_;refine xp rfl (ah H.jQ rfl (F.blk.cell (i:=0) rfl)) ?_;refine xp rfl (aa (off:=1) underlying144 rfl rfl H.bL rfl) ?_;refine xp rfl (ah H.cC rfl (F.blk.cell (i:=1) rfl)) ?_;refine xo rfl (au (vs:=[_,_]) func168 rfl H.IQ rfl (af.bD (hfx))) ?_;rintro _ h7 ⟨rfl,e7⟩;have F:=F.ak e7;refine xp rfl (aa (off:=1) underlying144 rfl rfl H.bL rfl) ?_;refine RW.dQ rfl rfl rfl (aB.aS H.bL rfl rfl F.blk (by first|decide|exact of_decide_eq_true rfl|(simp;done)|(simp;omega)) rfl) ?_;rintro _ h8 ⟨rfl,k8,x8,z8⟩;have F:=F.set (t:= { T with cur:=(p:Nat) }) k8 x8 (F.ms.of rfl rfl rfl rfl);have c2:cellAt h8 ⟨h.size,0+2,none⟩=some (.int .i64 T.mode):=F.blk.cell (i:=2) rfl;have hM8:¬Array.size h8<=h.size:=by have:=F.blk.lt;omega
   refine xd [0,1,2,3,4,22,32] rfl ?_;refine av rfl ?_;refine av rfl ?_;refine G.tO [(67,.bool false)] [(0,_),(1,_),(2,_),(3,_),(4,_),(22,_),(32,_)] ⟨rfl,rfl,rfl,rfl,rfl,rfl,rfl,trivial⟩ (fun b=>Array.size h8<=b) (fun i=>Nat.blt i 23) (sz:=23) (listed:= #[false,false,false,false,false,false,false,false,false,false,false,false,false,false,false,false,false,false,false,false,false,false,false]) func164 H.mixed rfl rfl rfl ?_ ?_
   · refine bG 0 1 (by kernel_rfl) rfl (fun h' e=>aa (off:=2) underlying144 rfl rfl H.bL rfl) ?_;refine bG 1 3 (by kernel_rfl) rfl (fun h' e=>ah H.cC rfl (e.cell hM8 c2)) ?_;refine aT 2 7 (by kernel_rfl) rfl ?_;refine aT 3 15 (by kernel_rfl) rfl ?_;refine RD.bH (d:=48) (b':=false) rfl (decide_eq_false (hm2)) ?_;refine ij 4 31 (by kernel_rfl) rfl ?_;refine ij 5 63 (by kernel_rfl) rfl ?_;refine ij 6 127 (by kernel_rfl) rfl ?_;refine ij 7 255 (by kernel_rfl) rfl ?_;refine ij 8 511 (by kernel_rfl) rfl ?_;refine ij 9 1023 (by kernel_rfl) rfl ?_;refine ij 10 2047 (by kernel_rfl) rfl ?_;refine ij 11 4095 (by kernel_rfl) rfl ?_;refine aT 12 8191 (by kernel_rfl) rfl ?_;refine aT 13 16383 (by kernel_rfl) rfl ?_;refine ij 14 32767 (by kernel_rfl) rfl ?_;refine ij 15 65535 (by kernel_rfl) rfl ?_;refine ij 16 131071 (by kernel_rfl) rfl ?_;refine ij 17 262143 (by kernel_rfl) rfl ?_;refine ij 18 524287 (by kernel_rfl) rfl ?_;refine ij 19 1048575 (by kernel_rfl) rfl ?_;refine ij 20 2097151 (by kernel_rfl) rfl ?_;refine ij 21 4194303 (by kernel_rfl) rfl ?_;refine aT 22 8388607 (by kernel_rfl) rfl ?_;refine RD.done (by kernel_rfl) ?_;exact⟨rfl,aC rfl (rfl),rfl,rfl,rfl,rfl,rfl,rfl,rfl,trivial⟩
   · refine aA rfl rfl (fun hc=>absurd hc (by decide)) (fun _=>?_);refine aI rfl ?_;refine xr func164 rfl ?_;refine xp rfl (ai.aF H.jE H.cO rfl F.blk.row (by first|rfl|(simp;done)|(simp;omega))) ?_;refine RW.dQ rfl rfl rfl (aB.aG H.cO rfl rfl F.res (by first|rfl|(simp;done)|(simp;omega)) (by first|decide|exact of_decide_eq_true rfl|(simp;done)|(simp;omega)) (ms1)) ?_;rintro _ gz ⟨rfl,kz,xz,zz⟩;refine xd [0,1,2,3,4,22,32,67] rfl ?_;refine G.jI func164 rfl (.cons (bT.ja H.jE H.cO rfl (kz.row) (by first|rfl|(simp;done)|(simp;omega))) (.nil)) ?_;exact⟨_,rfl,F.out xz⟩
end
end Go.Proofs.YtdihgdeciopfpaaGreatDoor
namespace Go.Proofs.YtdihgdeciopfpaaGreatDoor
open Go
structure FV where
  t:By
  c:Int
  were:List (By×Int)
  gone:List (By×Int)
  o:Int
def HU (t:By) (c:Int):FV:=⟨t,c,[],[],0⟩
def DE (u:FV) (t:By) (c g:Int):FV:=⟨t,c,if g<=0\/g≠u.o then (u.were++[(u.t,u.c)]).drop (u.were.length+1-100) else u.were,[],max g 0⟩
structure Tm (H:List (By×Int)) (p:Nat) (u:FV):Prop where
  now:H[p]? =some (u.t,u.c)
  were:u.were=H.take p
  gone:u.gone=(H.drop (p+1)).reverse
def bQ:List By->By
  | []=>[]
  |s::r=>s++bQ r
theorem eB:∀(a b:List By),bQ (a++b)=bQ a++bQ b
  | [],_=>rfl
  |s::r,b=>by simp only[List.cons_append,bQ,eB r b,List.append_assoc]
theorem vZ (l:List By) (i:Nat):bQ (l.take i)++bQ (l.drop i)=bQ l:=by rw[<-eB,List.take_append_drop]
def iz (l:List By) (s:By):List By:=if s=[] then l else l++[s]
theorem rH (l:List By) (s:By):bQ (iz l s)=bQ l++s:=by
  unfold iz;split
  · rename_i h;subst h;simp
  · rw[eB];simp[bQ]
structure LB (l:List By) (a:Nat) (i:Nat) (s:By) (k:Nat):Prop where
  at_:l[i]? =some s
  lt:k<s.length
  sum:(bQ (l.take i)).length+k=a
theorem LB.flat {l:List By}{a i k:Nat}{s:By}(c:LB l a i s k):bQ (iz (l.take i) (s.take k))=(bQ l).take a/\bQ (s.drop k::l.drop (i+1))=(bQ l).drop a:=by
  have hl:bQ l=bQ (l.take i)++(s.take k++(s.drop k++bQ (l.drop (i+1)))):=by
    rw[<-vZ l i,<-List.append_assoc (s.take k),List.take_append_drop]
    congr 1
    obtain⟨hi,e⟩:=List.getElem?_eq_some_iff.1 c.at_;rw[List.drop_eq_getElem_cons hi,e];rfl
  have hk:=c.lt;have hlen:(bQ (l.take i)++s.take k).length=a:=by rw[List.length_append,List.length_take,Nat.min_eq_left (by omega)];exact c.sum
  rw[rH];constructor
  · rw[hl,<-List.append_assoc,List.take_left' hlen]
  · rw[hl,<-List.append_assoc,List.drop_left' hlen];rfl
theorem AG {a b:By}{f t e:Nat}(h1:a.take f=b.take f) (h2:a.drop t=b.drop e) (hf:f<=e) (he:e<=b.length):a.take f++(b.drop f).take (e-f)++a.drop t=b:=by
  rw[h1,h2,List.append_assoc]
  have h3:(b.drop f).take (e-f)++b.drop e=b.drop f:=by
    have:=List.take_append_drop (e-f) (b.drop f)
    rwa [List.drop_drop,show f+(e-f)=e by omega] at this
  rw[h3,List.take_append_drop]
end Go.Proofs.YtdihgdeciopfpaaGreatDoor
namespace Go.Proofs.YtdihgdeciopfpaaGreatDoor
open Go.Proofs.Tryz
open Go Go.Lw
set_option maxRecDepth 20000 set_option maxHeartbeats 4000000
section
variable {a n c base:Nat}{l:List By}{s:By}{h h':aj}{O Z:Nat->Prop}{v u w:Value}{oa:Option Addr}
abbrev jK (x:By):Value:=.string (bs x)
def NE (l:List By):Prop:=∀s∈l,s≠[]
theorem NE.len:∀{l:List By},NE l->l.length<=(bQ l).length
 | [],_=>Nat.le_refl _
 |s::r,h=>by
  have h1:=NE.len (l:=r) fun x hx=>h x (by simp[hx])
  have h2:0<s.length:=List.length_pos_iff.2 (h s (by simp));rw[bQ,List.length_append,List.length_cons];omega
theorem NE.app {a b:List By}(h1:NE a) (h2:NE b):NE (a++b):=fun s hs=>(List.mem_append.1 hs).elim (h1 s) (h2 s)
theorem NE.take {l:List By}(h:NE l) (i:Nat):NE (l.take i):=fun s hs=>h s (List.mem_of_mem_take hs)
theorem NE.drop {l:List By}(h:NE l) (i:Nat):NE (l.drop i):=fun s hs=>h s (List.mem_of_mem_drop hs)
theorem NE.some (h:NE l) (s:By):NE (iz l s):=by
 unfold iz;split
 · exact h
 · rename_i hs;exact h.app fun x hx=>by rw[List.mem_singleton.1 hx];exact hs
def EW (h:aj) (O:Nat->Prop) (v:Value) (s:By):Prop :=
 ∃b vl l,v= .pointer (some ⟨b,0,none⟩)/\¬O b/\aH h b 276 [.bool true,vl,.int .i64 (s.length:Nat)]/\bB yB h O vl l/\bQ l=s/\NE l
theorem EW.mv {h h':aj}{O O':Nat->Prop}{v:Value}{s:By}(k:EW h O v s) (m:Mv O O' h h'):EW h' O' v s:=by
 obtain⟨b,vl,l,hv,ho,hk,h1,h2,h3⟩:=k;have hm:=m.block b hk.lt ho;exact⟨b,vl,l,hv,hm.2,hm.1.trans hk,h1.mv m,h2,h3⟩
theorem Hl (h:decide (bs s=⟨#[]⟩)=true):s=[]:=jj (of_decide_eq_true h:bs s=bs [])
theorem kE (hv:bB yB h O v l) (hl:(bQ l).length<=100000000) :
 af Tryz.prog 116 #[v] h (bf fun r h'=>(∃b:Nat,r= .pointer (some ⟨b,0,none⟩)/\h.size<=b/\aH h' b 276 [.bool true,v,.int .i64 ((bQ l).length:Nat)])/\aq h h'):=by
 obtain⟨oa,n,c,rfl,hsl⟩:=id hv.open;have hn:=hsl.len;have hcap:=hsl.cap;have hle:=hsl.le;simp only[maxLen] at hcap;refine eV ?_;refine ax ?_;refine xp rfl (aE (H.Hq _ _ _ _) rfl) ?_;refine xo rfl (Bu) ?_;rintro _ h1 ⟨rfl,k1,e1,z1⟩;have k1:aH h1 h.size 276 [.bool true,.slice oa n c,.int .i64 0]:=k1;refine ax ?_;refine qS (σ:=Nat) (fun i=>[(11,.int .i64 (i:Nat))]) (fun i h'=>i<=n/\aH h' h.size 276 [.bool true,.slice oa n c,.int .i64 ((bQ (l.take i)).length:Nat)]/\aq h h') (fun i=>n-i) (0) ⟨Nat.zero_le _,k1,e1⟩ rfl ?_;rintro i g ⟨hi,kg,eg⟩ ih;refine ax ?_;refine dM (fun hlt=>?_) (fun hlt=>?_)
 · obtain⟨s,hs⟩:∃s,l[i]? =some s:=⟨_,List.getElem?_eq_getElem (by omega)⟩
   obtain⟨b,o,cs,ha,_,hrow,rfl⟩:=(hsl.mv (Mv.ak eg)).get i s hs;have hbs:=aR s;have htk:l.take (i+1)=l.take i++[s]:=by rw[List.take_add_one,hs];rfl
   have hfl:(bQ (l.take (i+1))).length=(bQ (l.take i)).length+s.length:=by rw[htk,eB,List.length_append];simp[bQ]
   have hle2:(bQ (l.take (i+1))).length<=(bQ l).length:=by rw[<-vZ l (i+1),List.length_append];omega
   have hz:=eg.size
   iterate 4 refine dc ?_
   refine fE ?_;refine xp rfl (fN rfl rfl i rfl ha) ?_;refine xp rfl (bJ rfl (hrow 0 _ rfl)) ?_;refine ax ?_;refine xp rfl (bJ rfl (kg.cell (i:=2) rfl)) ?_;refine ax ?_;refine dD rfl (qY rfl rfl kg) ?_;rintro _ g2 ⟨rfl,k2,x2,z2⟩;have k2:aH g2 h.size 276 [.bool true,.slice oa n c,.int .i64 ((bQ (l.take (i+1))).length:Nat)]:=by rw[hfl,<-hbs];exact k2
   refine ax ?_;exact ih (i+1) ⟨by omega,k2,aq.only eg x2 (Nat.le_refl _)⟩
 · rw[List.take_of_length_le (by omega)] at kg;refine ax ?_;refine dS ?_;exact⟨_,rfl,⟨_,rfl,Nat.le_refl _,kg⟩,eg⟩
theorem mI (hv:bB yB h O v l) (s:By) (hl:l.length<=100000000) :
 af Tryz.prog 117 #[v,.string (bs s)] h (bf fun r h'=>((s=[]/\r=v)\/(s≠[]/\az h' h.size 9 1 r (l.length+1) (l.map jK++[jK s])))/\aq h h'):=by
 obtain⟨oa,n,c,rfl,hsl⟩:=id hv.open;have hn:=hsl.len;have hle:=hsl.le;have hcap:=hsl.cap;have hrow:=(bB.row (h1:=fun _=>rfl) hv).2.1;refine eV ?_;refine ax ?_;refine E4 (fun hs=>?_) (fun hs=>?_)
 · refine ax ?_;refine dS ?_;exact⟨_,rfl,.inl ⟨Hl hs,rfl⟩,Ext.refl _ _⟩
 · have hs0:s≠[]:=fun e=>by subst e;simp[bs] at hs
   refine ax ?_;refine xp rfl (ai.gV underlying59 H.js rfl rfl n rfl rfl n rfl (Nat.le_refl _) hle) ?_;refine ax ?_;refine xo rfl (xI [_]) ?_;rintro _ h1 ⟨rfl,hh1⟩;have e1:aq h h1:=by rw[hh1];exact Ext.push _ _ _
   have hr1:Lw.rowAt h1 h.size 0 [jK s]:=by rw[hh1];exact cP h [jK s] _
   refine xo rfl (aB.wT underlying59 H.yA rfl rfl (xs:=l.map jK) (news:=[jK s]) (by simp[hn]) (hrow.imp id fun⟨b,o,q1,q2⟩=>⟨b,o,q1,e1.rowAt (fun q=>q) q2⟩) rfl (by simp) ⟨_,_,rfl,hr1⟩ (by decide) (by simp only[maxLen];omega) (by omega)) ?_;rintro v2 h2 ⟨ho2,e2⟩;refine ax ?_;refine dS ?_;have hz:=e1.size;have ho3:az h2 h.size 9 1 v2 (l.length+1) (l.map jK++[jK s]):=by rw[hn];exact az.lower ho2 hz
   exact⟨_,rfl,.inr ⟨hs0,ho3⟩,e1.trans e2⟩
structure HF (h':aj) (base:Nat) (oa:Option Addr) (n c:Nat) (l:List By) (a:Nat) (u w:Value) (A B:List By):Prop where
 fa:bQ A=(bQ l).take a
 fb:bQ B=(bQ l).drop a
 na:NE A
 nb:NE B
 ahead:az h' base 9 1 u A.length (A.map jK)\/(∃i,i<=n/\u= .slice oa i c/\A=l.take i)\/(u= .slice oa n n/\A=l/\B=[])
 behind:(B≠[]/\az h' base 9 1 w B.length (B.map jK))\/(B=[]/\w= .slice none 0 0)
theorem FG {g gF:aj}{i k:Nat}(C:LB l a i s k) (hne:NE l) (hn:l.length=n)
 (hu:(s.take k=[]/\u= .slice (bu oa 0 1 c) (i-0) (c-0))\/(s.take k≠[]/\az gF g.size 9 1 u ((l.take i).length+1) ((l.take i).map jK++[jK (s.take k)])))
 (hw:az gF g.size 9 1 w (1+(n-(i+1))) ([jK (s.drop k)]++(l.drop (i+1)).map jK)):∃A B,HF gF g.size oa n c l a u w A B:=by
 have hil:=(List.getElem?_eq_some_iff.1 C.at_).1;have hk:=C.lt;have hsd:s.drop k≠[]:=fun e=>by have:=congrArg List.length e;rw[List.length_drop,List.length_nil] at this;omega
 refine⟨iz (l.take i) (s.take k),s.drop k::l.drop (i+1),C.flat.1,C.flat.2,(hne.take i).some _,fun x hx=>?_,?_,.inl ⟨by simp,?_⟩⟩
 · rcases List.mem_cons.1 hx with e|e
   · subst e;exact hsd
   · exact hne.drop _ x e
 · rcases hu with ⟨h0,rfl⟩|⟨h0,hu⟩
   · refine .inr (.inl ⟨i,by omega,by rw[iR];rfl,by unfold iz;rw[if_pos h0]⟩)
   · refine .inl ?_;unfold iz;rw[if_neg h0];simpa using hu
 · have e:(s.drop k::l.drop (i+1)).length=1+(n-(i+1)):=by simp;omega
   rw[e];exact hw
theorem o8 (hv:bB yB h O (.slice oa n c) l) (hne:NE l) (ha:a<=(bQ l).length) (hl:(bQ l).length<=100000000) :
 af Tryz.prog 280 #[.slice oa n c,.int .i64 (a:Nat)] h (bf fun r h'=>(∃u w A B,r= .tuple #[u,w]/\HF h' h.size oa n c l a u w A B)/\aq h h'):=by
 obtain⟨_,_,_,e0,hsl⟩:=id hv.open;cases e0;have hn:=hsl.len;have hle:=hsl.le;have hcap:=hsl.cap;simp only[maxLen] at hcap;have hll:=hne.len;refine af.of func280 rfl rfl ?_;refine bI func280 2 [0,1,4,5] rfl ?_;refine av rfl ?_;refine cm func280 1 rfl ?_;refine xp rfl (ai.aX underlying59 rfl) ?_;refine bq 1 [0,1,4,5,8,9,10] rfl ?_;refine G.block rfl rfl ?_;refine cL (σ:=Nat×Nat) (fun q=>[(0,.slice oa n c),(1,.int .i64 (q.2:Nat)),(8,.slice oa n c),(9,.int .i64 (n:Nat)),(10,.int .i64 (q.1:Nat))]) (fun q h'=>h'=h/\q.1<=n/\(bQ (l.take q.1)).length+q.2=a) (fun q=>n-q.1) ((0,a)) rfl ⟨rfl,rfl,rfl,rfl,rfl,trivial⟩ ⟨rfl,Nat.zero_le _,by simp[bQ]⟩ ?_;rintro⟨i,k⟩ g ⟨hg,hi,hsum⟩ ih
 try dsimp only
 dsimp only at hi hsum;subst hg;refine bI func280 1 [0,1,8,9,10,11] rfl ?_;refine av rfl ?_;refine dm rfl rfl (fun hlt=>?_) (fun hlt=>?_)
 · obtain⟨s,hs⟩:∃s,l[i]? =some s:=⟨_,List.getElem?_eq_getElem (by omega)⟩
   obtain⟨b,o,cs,ha1,_,hrow,rfl⟩:=hsl.get i s hs;have hbs:=aR s;refine aI rfl ?_;refine av rfl ?_;refine G.block rfl rfl ?_;refine cm func280 1 rfl ?_;refine xp rfl (ai.aN underlying59 H.js rfl rfl i rfl ha1 (by omega)) ?_;refine xp rfl (ah H.jQ rfl (hrow 0 _ rfl)) ?_;refine bq 2 [0,1,6,7,8,9,10,11] rfl ?_;refine av rfl ?_;refine cm func280 2 rfl ?_;refine xp rfl (ai.br underlying9 rfl) ?_;refine bq 1 [0,1,6,7,8,9,10,11,18] rfl ?_;refine dm rfl rfl (fun hks=>?_) (fun hks=>?_)
   · have C:LB l a i s k:=⟨hs,by omega,hsum⟩
     have hq1:(bs s).extract 0 k=bs (s.take k):=by rw[qE s 0 k (Nat.zero_le _),List.drop_zero]
     have hq2:(bs s).extract k (bs s).size=bs (s.drop k):=lO s k
     have hpre:bB yB g O (.slice (bu oa 0 1 c) (i-0) (c-0)) (l.take i):=by
      have:=(hsl.part (Nat.zero_le i) hi).shut
      rwa [List.drop_zero] at this
     have hpost:bB yB g O (.slice (bu oa (i+1) 1 c) (n-(i+1)) (c-(i+1))) (l.drop (i+1)):=by
      have:=(hsl.part (show i+1<=n by omega) (Nat.le_refl n)).shut
      rwa [List.take_of_length_le (by omega)] at this
     have hsome:∀{h'},aq g h'->af Tryz.prog 117 #[.slice (bu oa 0 1 c) i c,.string ((bs s).extract 0 k)] h' (bf fun r h2=>((s.take k=[]/\r= .slice (bu oa 0 1 c) (i-0) (c-0))\/(s.take k≠[]/\az h2 h'.size 9 1 r ((l.take i).length+1) ((l.take i).map jK++[jK (s.take k)])))/\aq h' h2):=fun {h'} e=>by
      rw[hq1];exact mI (hpre.ak e) (s.take k) (by rw[List.length_take];omega)
     have hrp:=(bB.row (h1:=fun _=>rfl) hpost).2.1;have hdl:((l.drop (i+1)).map jK).length=(n-(i+1))*1:=by simp;omega
     have h1d:∀u∈(l.drop (i+1)).map jK,u.oneCell'=true:=fun u hu=>by obtain⟨_,_,rfl⟩:=List.mem_map.1 hu;rfl
     refine av rfl ?_;refine cq (fun b=>Array.size g<=b) (fun i=>Nat.blt i 18) (sz:=18) (listed:= #[false,false,false,false,false,false,false,false,false,false,false,false,false,false,false,false,false,false]) func280 H.mixed rfl rfl rfl ?_;refine aT 0 1 (by kernel_rfl) rfl ?_;refine aT 1 3 (by kernel_rfl) rfl ?_;refine bG 2 7 (by kernel_rfl) rfl (fun h' e=>ai.iK underlying59 H.js rfl rfl i rfl (by omega)) ?_;refine aT 3 15 (by kernel_rfl) rfl ?_;refine aT 4 31 (by kernel_rfl) rfl ?_;refine bG 5 63 (by kernel_rfl) rfl (fun h' e=>ai.kY underlying9 rfl rfl k rfl (by omega)) ?_;refine aT 7 191 (by kernel_rfl) rfl ?_;refine aT 8 447 (by kernel_rfl) rfl ?_;refine bG 9 959 (by kernel_rfl) rfl (fun h' e=>ai.eZ underlying9 rfl rfl k rfl (by omega)) ?_;refine aT 11 3007 (by kernel_rfl) rfl ?_;refine aT 12 7103 (by kernel_rfl) rfl ?_;refine bG 13 15295 (by kernel_rfl) rfl (fun h' e=>ai.ck rfl rfl ⟨by omega,by omega⟩) ?_;refine bG 14 31679 (by kernel_rfl) rfl (fun h' e=>ai.iJ underlying59 H.js rfl rfl (i+1) (by omega) (by omega)) ?_;refine RD.pP 6 10 (li:= #[true,true,true,true,true,true,true,true,true,true,false,true,true,true,true,false,false,false]) (lj:= #[true,true,true,true,true,true,false,true,true,true,true,true,true,true,true,false,false,false]) rfl rfl (by kernel_rfl) rfl rfl rfl rfl rfl rfl (au (vs:=[_,_]) func117 rfl H.Ml rfl (af.bD (hsome (Ext.refl _ _)))) (aB.dB (us:=[_]) underlying59 H.yA rfl rfl (by decide) (by simp[Value.oneCell'])) (by kernel_rfl) (by kernel_rfl) ?_ ?_
     · rintro u5 g5 ⟨hu5,e5⟩;refine⟨fun _=>e5.mono (fun _ _ q=>q.elim),?_⟩;refine ef 10 32767 (by kernel_rfl) rfl (aB.dB (us:=[_]) underlying59 H.yA rfl rfl (by decide) (by simp[Value.oneCell'])) ?_;rintro _ g6 ⟨rfl,hg6⟩;refine⟨fun _=>by rw[hg6];exact Ext.push _ _ _,?_⟩;have e6:aq g5 g6:=by rw[hg6];exact Ext.push _ _ _
       have ho6:az g6 g5.size 9 1 (.slice (some ⟨g5.size,0,none⟩) 1 1) 1 [jK (s.drop k)]:=by rw[hg6,show jK (s.drop k)= .string ((bs s).extract k (bs s).size) by rw[hq2]];exact rR g5 [.string ((bs s).extract k (bs s).size)] 9 1 rfl (by decide) g5.size (Nat.le_refl _)
       have hz5:=e5.size;have hz6:=e6.size;have e56:=e5.trans e6;refine ef 15 65535 (by kernel_rfl) rfl (aB.append underlying59 H.yA rfl rfl ho6 hdl (hrp.imp id fun⟨b,o,q1,q2⟩=>⟨b,o,q1,e56.rowAt (fun q=>q) q2⟩) h1d (by simp only[maxLen];omega) (by omega) (by omega)) ?_;rintro w7 g7 ⟨ho7,hx7,_,hv7⟩;refine⟨fun _=>hx7.mono (fun b _ q=>by have:=(az.lt ho6 q.symm).1;omega),?_⟩;refine aT 16 131071 (by kernel_rfl) rfl ?_;refine aT 17 262143 (by kernel_rfl) rfl ?_;refine RD.done (by kernel_rfl) ?_;refine xu [0,1,4,5,6,7,8,9,10,11,18] rfl ?_;refine G.ret func280 rfl rfl ?_;refine⟨_,rfl,⟨u5,w7,?_⟩,Ext.own e56 ho6 hz5 hx7⟩;obtain⟨A,B,k⟩:=FG (gF:=g7) (w:=w7) C hne hn (hu5.imp id fun⟨q1,q2⟩=>⟨q1,az.ext hx7 (q2.eE e6) (fun b hb e=>by have:=(az.lt q2 hb).2;have:=(az.lt ho6 e.symm).1;omega)⟩) (az.lower ho7 hz5);exact⟨A,B,rfl,k⟩
     · rintro _ g5 ⟨rfl,hg5⟩;refine⟨fun _=>by rw[hg5];exact Ext.push _ _ _,?_⟩;have e5:aq g g5:=by rw[hg5];exact Ext.push _ _ _
       have ho5:az g5 g.size 9 1 (.slice (some ⟨g.size,0,none⟩) 1 1) 1 [jK (s.drop k)]:=by rw[hg5,show jK (s.drop k)= .string ((bs s).extract k (bs s).size) by rw[hq2]];exact rR g [.string ((bs s).extract k (bs s).size)] 9 1 rfl (by decide) g.size (Nat.le_refl _)
       have hz5:=e5.size;refine ef 6 32767 (by kernel_rfl) rfl (au (vs:=[_,_]) func117 rfl H.Ml rfl (af.bD (hsome e5))) ?_;rintro u6 g6 ⟨hu6,e6⟩;refine⟨fun _=>e6.mono (fun _ _ q=>q.elim),?_⟩;have ho6:=ho5.eE e6;have e56:=e5.trans e6;have hz6:=e6.size;refine ef 15 65535 (by kernel_rfl) rfl (aB.append underlying59 H.yA rfl rfl ho6 hdl (hrp.imp id fun⟨b,o,q1,q2⟩=>⟨b,o,q1,e56.rowAt (fun q=>q) q2⟩) h1d (by simp only[maxLen];omega) (by omega) (by omega)) ?_;rintro w7 g7 ⟨ho7,hx7,_,hv7⟩;refine⟨fun _=>hx7.mono (fun b _ q=>(az.lt ho6 q.symm).1),?_⟩;refine aT 16 131071 (by kernel_rfl) rfl ?_;refine aT 17 262143 (by kernel_rfl) rfl ?_;refine RD.done (by kernel_rfl) ?_;refine xu [0,1,4,5,6,7,8,9,10,11,18] rfl ?_;refine G.ret func280 rfl rfl ?_;refine⟨_,rfl,⟨u6,w7,?_⟩,Ext.own e56 ho6 (Nat.le_refl _) hx7⟩;obtain⟨A,B,k⟩:=FG (gF:=g7) (w:=w7) C hne hn (hu6.imp id fun⟨q1,q2⟩=>⟨q1,az.ext hx7 (az.lower q2 hz5) (fun b hb e=>by have:=(az.lt q2 hb).1;have:=(az.lt ho5 e.symm).2;omega)⟩) ho7;exact⟨A,B,rfl,k⟩
   · have htk:l.take (i+1)=l.take i++[s]:=by rw[List.take_add_one,hs];rfl
     have hfl:(bQ (l.take (i+1))).length=(bQ (l.take i)).length+s.length:=by rw[htk,eB,List.length_append];simp[bQ]
     refine aI rfl ?_;refine G.cA func280 rfl ?_;refine cT 2 rfl rfl (ai.br underlying9 rfl) ?_;refine xp rfl (ai.gZ rfl rfl ⟨by omega,by omega⟩) ?_;refine bq 1 [0,1,6,7,8,9,10,11,18] rfl ?_;refine G.bE ?_;refine G.cA func280 rfl ?_;refine xp rfl (ai.ck rfl rfl ⟨by omega,by omega⟩) ?_;refine bq 1 [0,1,6,7,8,9,10,11,18] rfl ?_;exact ih (i+1,k-s.length) _ _ ⟨rfl,congrArg (fun x:Int=>some (Value.int .i64 x)) (by rw[hbs];omega),rfl,rfl,rfl,trivial⟩ ⟨rfl,by show i+1<=n;omega,by show _+(k-s.length)=a;rw[hfl];omega⟩ (by show n-(i+1)<n-i;omega)
 · rw[List.take_of_length_le (by omega)] at hsum;refine ax ?_;refine xp rfl (ai.gV underlying59 H.js rfl rfl n rfl rfl n rfl (Nat.le_refl _) hle) ?_;refine ax ?_;refine dS ?_;exact⟨_,rfl,⟨_,_,l,[],rfl,⟨by rw[List.take_of_length_le (by omega)],by rw[List.drop_of_length_le (by omega)];rfl,hne,(fun _ q=>by cases q),.inr (.inr ⟨rfl,rfl,rfl⟩),.inr ⟨rfl,rfl⟩⟩⟩,Ext.refl _ _⟩
theorem Ca {b:Nat}{vl:Value}{n:Int}(hk:aH h b 276 [.bool true,vl,.int .i64 n]) :
 af Tryz.prog 278 #[.pointer (some ⟨b,0,none⟩)] h (bf fun r h'=>r= .bool false/\h'=h):=by
 refine eV ?_;refine dc ?_;refine fE ?_;refine cG ?_;refine iF ?_;refine dc ?_;refine rV [(2,.bool false)] rfl ?_ ?_
 · refine cG ?_;refine xp rfl (ai.cJ underlying139 rfl rfl) ?_;refine ax ?_;refine RW.bH (d:=5) (b':=false) rfl (rfl) ?_;refine ax ?_;refine xp rfl (bJ rfl (hk.cell (i:=0) rfl)) ?_;refine ax ?_;exact cY rfl ⟨aC rfl (rfl),sb rfl⟩
 · refine dS ?_;exact⟨_,rfl,rfl,rfl⟩
theorem yO {b:Nat}{vl:Value}{i j:Nat}(hk:aH h b 276 [.bool true,vl,.int .i64 (n:Nat)]) (hij:i<=j) (hj:j<=n) :
 af Tryz.prog 279 #[.pointer (some ⟨b,0,none⟩),.int .i64 (i:Nat),.int .i64 (j:Nat)] h (bf fun r h'=>r= .bool true/\h'=h):=by
 refine eV ?_;refine dc ?_;refine fE ?_;refine cG ?_;refine iF ?_;refine dc ?_;refine rV [(6,.bool true)] rfl ?_ ?_
 · refine ax ?_;refine RW.bH (d:=9) (b':=true) rfl (decide_eq_true (by omega)) ?_;refine ax ?_;refine RW.bH (d:=14) (b':=true) rfl (decide_eq_true (by omega)) ?_;refine ax ?_;refine xp rfl (bJ rfl (hk.cell (i:=2) rfl)) ?_;refine ax ?_;exact cY rfl ⟨aC rfl (by simp;omega),sb rfl⟩
 · refine dS ?_;exact⟨_,rfl,rfl,rfl⟩
def Ot (Z:Nat->Prop) (h:aj):Nat->Prop:=fun b=>¬((bR h b 276\/bR h b 9)/\¬Z b)
theorem kT {M:Nat->Prop}(x:Ext M h h') (hM:∀b,M b->Ot Z h b):Mv (Ot Z h) (Ot Z h') h h':=Mv.cU x fun b _ hn=>⟨fun q=>hn (hM b q),fun q=>hn fun q2=>q ⟨q2.1.imp (fun k=>k.ext x (fun q3=>hM b q3 q2)) (fun k=>k.ext x (fun q3=>hM b q3 q2)),q2.2⟩⟩
theorem Mv.GH (x:aq h h'):Mv (Ot Z h) (Ot Z h') h h':=kT x fun _ q=>q.elim
abbrev HD (Z:Nat->Prop) (h:aj) (v:Value) (s:By):Prop:=EW h (Ot Z h) v s
theorem vi (k:az h base 9 1 v n (l.map jK)) (hZ:∀b,Z b->b<base):bB yB h (Ot Z h) v l:=az.Ip (h1:=fun _=>rfl) k (fun b hb q=>q ⟨.inr (az.ty k hb),fun z=>by have:=hZ b z;have:=(az.lt k hb).1;omega⟩)
def Sy (Z:Nat->Prop) (h:aj) (base:Nat) (v:Value) (s:By) (a:Nat):Prop :=
 ∃b vl l,v= .pointer (some ⟨b,0,none⟩)/\aH h b 276 [.bool true,vl,.int .i64 (s.length:Nat)]/\bB yB h (Ot Z h) vl l/\bQ l=s/\NE l/\(az h base 9 1 vl l.length (l.map jK)\/a=s.length)
theorem ne_nil (h:NE l) (hf:bQ l=[]):l=[]:=by
 cases l with
 |nil=>rfl
 |cons s r =>
  have:=h s (by simp);rw[bQ,List.append_eq_nil_iff] at hf;exact absurd hf.1 this
theorem HF.L6 {A B:List By}(C:HF h' base oa n c l a u w A B) (hv:bB yB h (Ot Z h) (.slice oa n c) l) (e:aq h h') (hZ:∀b,Z b->b<base):bB yB h' (Ot Z h') u A:=by
 obtain⟨_,_,_,e0,hsl⟩:=id (hv.mv (Mv.GH e)).open;cases e0
 rcases C.ahead with k|⟨i,hi,rfl,rfl⟩|⟨rfl,rfl,_⟩
 · exact vi k hZ
 · have:=(hsl.part (Nat.zero_le i) hi).shut;rw[List.drop_zero,iR] at this;exact this
 · exact⟨_,_,_,rfl,hsl.len,Nat.le_refl _,Nat.le_trans hsl.le hsl.cap,hsl.get⟩
theorem HF.Iz {A B:List By}(C:HF h' base oa n c l a u w A B) (hZ:∀b,Z b->b<base):bB yB h' (Ot Z h') w B:=by
 rcases C.behind with ⟨_,k⟩|⟨rfl,rfl⟩
 · exact vi k hZ
 · exact bB.nil _ _ _
theorem tN (l:List By):∀u∈l.map jK,u.oneCell'=true:=fun u hu=>by obtain⟨_,_,rfl⟩:=List.mem_map.1 hu;rfl
theorem yp (k:HD Z h v s){f t:Nat}(hft:f<=t) (ht:t<=s.length) (hs:s.length<=1000000) (hZ:∀b,Z b->b<h.size) :
 af Tryz.prog 221 #[v,.int .i64 (f:Nat),.int .i64 (t:Nat)] h (bf fun r h'=>(∃u,r= .tuple #[u,.int .i64 0]/\Sy Z h' h.size u (s.take f++s.drop t) f)/\aq h h'):=by
 obtain⟨b,vl,l,rfl,ho,hk,hl,hfl,hne⟩:=k;obtain⟨oa,n,c,rfl,hsl⟩:=id hl.open;have hn:=hsl.len;have hll:=hne.len;rw[hfl] at hll;refine eV ?_;refine ax ?_;refine xo rfl (dz rfl (Ca hk)) ?_;rintro _ h0 ⟨rfl,hh0⟩;refine ax ?_;subst hh0;refine qT rfl (by decide) ?_;refine ax ?_;refine xo rfl (dz rfl (yO hk hft ht)) ?_;rintro _ h1 ⟨rfl,hh1⟩;refine ax ?_;subst hh1;refine qT rfl (by decide) ?_;refine ax ?_;refine xp rfl (bJ rfl (hk.cell (i:=1) rfl)) ?_;refine ax ?_;refine xo rfl (dz rfl (o8 hl hne (a:=f) (by rw[hfl];omega) (by rw[hfl];omega))) ?_;rintro _ h2 ⟨⟨u,w,A,B,rfl,C1⟩,e2⟩;have hu:=C1.L6 hl e2 hZ;have hw:=C1.Iz hZ;obtain⟨wa,wn,wc,rfl,_⟩:=id hw.open;obtain⟨ua,un,uc,rfl,hul⟩:=id hu.open;have hfA:=C1.fa;have hfB:=C1.fb;rw[hfl] at hfA hfB;have hlB:(bQ B).length=s.length-f:=by rw[hfB,List.length_drop]
 have hlA:(bQ A).length=f:=by rw[hfA,List.length_take];omega
 have hz2:=e2.size;refine ax ?_;rw[show ((t:Nat):Int)-((f:Nat):Int)=((t-f:Nat):Int) by omega];refine xo rfl (dz rfl (o8 hw C1.nb (a:=t-f) (by omega) (by omega))) ?_;rintro _ h3 ⟨⟨u2,w2,A2,B2,rfl,C2⟩,e3⟩;have hz2:=e2.size;have hw2:=C2.Iz (fun b q=>by have:=hZ b q;omega);obtain⟨xa,xn,xc,rfl,hxl⟩:=id hw2.open;have hfB2:=C2.fb;rw[hfB,List.drop_drop,show f+(t-f)=t by omega] at hfB2;have hun:=hul.len;have hule:=hul.le;have hAl:=C1.na.len;have hBl:=C2.nb.len;have hlB2:(bQ B2).length=s.length-t:=by rw[hfB2,List.length_drop]
 have hxn:=hxl.len;have hfin:bQ (A++B2)=s.take f++s.drop t:=by rw[eB,hfA,hfB2]
 have hz3:=e3.size;have e03:=e2.trans e3
 rcases C2.behind with ⟨hB0,hwo⟩|⟨hB0,hwo⟩
 · have hrow:=(bB.row (h1:=fun _=>rfl) (hu.ak e3)).2.1;have hrow2:=(bB.row (h1:=fun _=>rfl) hw2).2.1;have hx0:0<xn:=by rw[<-hxn];exact List.length_pos_iff.2 hB0
   refine ax ?_;refine xp rfl (ai.gV underlying59 H.js rfl rfl un rfl rfl un rfl (Nat.le_refl _) hule) ?_;refine ax ?_;refine xo rfl (aB.wT underlying59 H.yA rfl rfl (xs:=A.map jK) (news:=B2.map jK) (by simp[hun]) hrow rfl (by simp[hxn]) (hrow2.resolve_left (by omega)) hx0 (by simp only[maxLen];omega) (by omega)) ?_;rintro v4 h4 ⟨ho4,e4⟩
   have ho4:az h4 h3.size 9 1 v4 (A++B2).length ((A++B2).map jK):=by
    rw[List.length_append,List.map_append,hun,hxn];exact ho4
   have hsl4:=vi ho4 (fun b q=>by have:=hZ b q;omega);refine xo rfl (dz rfl (kE hsl4 (by rw[hfin,List.length_append,List.length_take,List.length_drop];omega))) ?_;rintro _ h5 ⟨⟨b5,rfl,hb5,k5⟩,e5⟩;rw[hfin] at k5;have hz4:=e4.size;refine ax ?_;refine dS ?_;exact⟨_,rfl,⟨_,rfl,b5,v4,A++B2,rfl,k5,hsl4.mv (Mv.GH e5),hfin,C1.na.app C2.nb,.inl (az.lower (ho4.eE e5) (by omega))⟩,(e03.trans e4).trans e5⟩
 · cases hwo;subst hB0;have hd0:s.drop t=[]:=by rw[<-hfB2];rfl
   have hsu:bB yB h3 (Ot Z h3) (.slice ua un un) A:=by
    obtain⟨_,_,_,e0,hul3⟩:=id (hu.mv (Mv.GH e3)).open;cases e0;exact⟨_,_,_,rfl,hul3.len,Nat.le_refl _,Nat.le_trans hul3.le hul3.cap,hul3.get⟩
   refine ax ?_;refine xp rfl (ai.gV underlying59 H.js rfl rfl un rfl rfl un rfl (Nat.le_refl _) hule) ?_;refine ax ?_;refine xo rfl (aB.wS underlying59 H.yA rfl rfl (Nat.le_refl _)) ?_;rintro v4 h4 ⟨rfl,hh4⟩;subst hh4;rw[List.append_nil] at hfin;refine xo rfl (dz rfl (kE hsu (by omega))) ?_;rintro _ h5 ⟨⟨b5,rfl,hb5,k5⟩,e5⟩;rw[hfin] at k5;refine ax ?_;refine dS ?_;exact⟨_,rfl,⟨_,rfl,b5,_,A,rfl,k5,hsu.mv (Mv.GH e5),hfin,C1.na,.inr (by rw[hd0,List.append_nil,List.length_take];omega)⟩,e03.trans e5⟩
theorem yo (k:Sy Z h base v s a) (x:By) (ha:a<=s.length) (hx:s.length+x.length<=16384) (hb:base<=h.size) (hZ0:∀b,Z b->b<base) :
 af Tryz.prog 222 #[v,.int .i64 (a:Nat),.string (bs x)] h (bf fun r h'=>(∃u,r= .tuple #[u,.int .i64 0]/\HD Z h' u (s.take a++x++s.drop a))/\Ext (fun y=>base<=y) h h'):=by
 obtain⟨b,vl,l,rfl,hk,hl,hfl,hne,hown⟩:=k;have hZ:∀b,Z b->b<h.size:=fun b q=>by have:=hZ0 b q;omega
 obtain⟨oa,n,c,rfl,hsl⟩:=id hl.open;have hn:=hsl.len;have hle:=hsl.le;have hll:=hne.len;have hbx:=aR x;rw[hfl] at hll;refine eV ?_;refine ax ?_;refine xo rfl (dz rfl (Ca hk)) ?_;rintro _ h0 ⟨rfl,hh0⟩;refine ax ?_;subst hh0;refine qT rfl (by decide) ?_;refine ax ?_;refine xo rfl (dz rfl (yO hk (Nat.le_refl a) ha)) ?_;rintro _ h1 ⟨rfl,hh1⟩;refine ax ?_;subst hh1;refine qT rfl (by decide) ?_;refine ax ?_;refine xp rfl (bJ rfl (hk.cell (i:=2) rfl)) ?_;refine ax ?_;refine dM (fun hbig=>?_) (fun hbig=>?_)
 · exfalso;omega
 · refine ax ?_;refine xp rfl (bJ rfl (hk.cell (i:=1) rfl)) ?_;refine ax ?_;refine xo rfl (dz rfl (o8 hl hne (a:=a) (by rw[hfl];omega) (by rw[hfl];omega))) ?_;rintro _ h2 ⟨⟨u,w,A,B,rfl,C1⟩,e2⟩;have hu:=C1.L6 hl e2 hZ;have hw:=C1.Iz hZ;obtain⟨wa,wn,wc,rfl,hwl⟩:=id hw.open;have hfA:=C1.fa;have hfB:=C1.fb;rw[hfl] at hfA hfB;have hz2:=e2.size;have hAl:=C1.na.len;have hBl:=C1.nb.len;have hlA:(bQ A).length=a:=by rw[hfA,List.length_take];omega
   have hlB:(bQ B).length=s.length-a:=by rw[hfB,List.length_drop]
   have hwn:=hwl.len;refine ax ?_;refine xo rfl (dz rfl (mI hu x (by omega))) ?_;rintro r3 h3 ⟨hr3,e3⟩;have hz3:=e3.size;have e03:=e2.trans e3
   -- what some hands back reads as the pieces ahead, and the text
   have hL:bB yB h3 (Ot Z h3) r3 (iz A x):=by
    unfold iz
    rcases hr3 with ⟨q,rfl⟩|⟨q,q2⟩
    · rw[if_pos q];exact hu.mv (Mv.GH e3)
    · rw[if_neg q];have q3:az h3 h2.size 9 1 r3 (A.length+1) ((A++[x]).map jK):=by rw[List.map_append];exact q2
      exact vi q3 (fun b q=>by have:=hZ b q;omega)
   have hLo:B≠[]->az h3 base 9 1 r3 (iz A x).length ((iz A x).map jK):=fun hB0=>by
    unfold iz
    rcases hr3 with ⟨q,rfl⟩|⟨q,q2⟩
    · rw[if_pos q]
      rcases C1.ahead with k|⟨i,hi,rfl,rfl⟩|⟨_,_,q3⟩
      · exact az.lower (k.eE e3) hb
      · rcases hown with q4|q4
        · obtain⟨_,_,e0,how⟩:=q4.open;cases e0;have:=((how.take (m:=i) (by omega) 1).eE e2).eE e3;rw[List.length_take,Nat.min_eq_left (by omega),List.map_take];simpa [iR] using this
        · exfalso;refine hB0 (ne_nil C1.nb ?_);rw[hfB,q4,List.drop_length]
      · exact absurd q3 hB0
    · rw[if_neg q,List.length_append,List.map_append];exact az.lower q2 (by omega)
   have hfl2:bQ (iz A x++B)=s.take a++x++s.drop a:=by rw[eB,rH,hfA,hfB]
   have hlen2:(s.take a++x++s.drop a).length=s.length+x.length:=by simp only[List.length_append,List.length_take,List.length_drop];omega
   have hneL:=(C1.na.some x).app C1.nb;have hLl:=(C1.na.some x).len;rw[rH,List.length_append] at hLl;obtain⟨ra,rn,rc,rfl,hrl⟩:=id hL.open;have hrn:=hrl.len
   by_cases hB0:B=[]
   · subst hB0;have hw0:wn=0:=by rw[<-hwn];rfl
     subst hw0;refine ax ?_;refine xo rfl (aB.wS underlying59 H.yA rfl rfl hrl.le) ?_;rintro v4 h4 ⟨rfl,hh4⟩;subst hh4;rw[List.append_nil] at hfl2 hneL;refine xo rfl (dz rfl (kE hL (by rw[hfl2,hlen2];omega))) ?_;rintro _ h5 ⟨⟨b5,rfl,hb5,k5⟩,e5⟩;rw[hfl2] at k5;refine ax ?_;refine dS ?_;exact⟨_,rfl,⟨_,rfl,b5,_,_,rfl,fun q=>q ⟨.inl k5.ty,fun z=>by have:=hZ _ z;omega⟩,k5,hL.mv (Mv.GH e5),hfl2,hneL⟩,(e03.trans e5).mono (fun _ _ q=>q.elim)⟩
   · have hLo:=hLo hB0;rw[hrn] at hLo;have hrow2:=(bB.row (h1:=fun _=>rfl) (hw.ak e3)).2.1;refine ax ?_;refine xo rfl (aB.append underlying59 H.yA rfl rfl hLo (show (B.map jK).length=wn*1 by simp[hwn]) hrow2 (tN B) (by simp only[maxLen];omega) (by omega) (by omega)) ?_;rintro v4 h4 ⟨ho4,hx4,_,hv4⟩
     have ho4:az h4 base 9 1 v4 (iz A x++B).length ((iz A x++B).map jK):=by
      rw[List.length_append,List.map_append,hrn,hwn];exact ho4
     have hsl4:=vi ho4 hZ0;have e04:=(e03.mono (fun _ _ q=>q.elim):Ext (fun y=>base<=y) _ _).trans (hx4.mono (fun b _ q=>(az.lt hLo q.symm).1));have hz4:=hx4.size;refine xo rfl (dz rfl (kE hsl4 (by rw[hfl2,hlen2];omega))) ?_;rintro _ h5 ⟨⟨b5,rfl,hb5,k5⟩,e5⟩;rw[hfl2] at k5;refine ax ?_;refine dS ?_;exact⟨_,rfl,⟨_,rfl,b5,v4,_,rfl,fun q=>q ⟨.inl k5.ty,fun z=>by have:=hZ _ z;omega⟩,k5,hsl4.mv (Mv.GH e5),hfl2,hneL⟩,e04.trans (e5.mono (fun _ _ q=>q.elim))⟩
theorem D2 (hZ:∀b,Z b->b<h.size):af Tryz.prog 63 #[.string ⟨#[]⟩] h (bf fun r h'=>(∃u,r= .tuple #[u,.int .i64 0]/\HD Z h' u [])/\aq h h'):=by
 refine eV ?_;refine ax ?_;refine qT rfl (by decide) ?_;refine ax ?_;refine xo rfl (dz rfl (mI (O:=fun _=>False) (bB.nil _ _ _) [] (by simp))) ?_;rintro _ h1 ⟨hr,e1⟩
 rcases hr with ⟨_,rfl⟩|⟨q,_⟩
 · refine xo rfl (dz rfl (kE (O:=fun _=>False) (l:=[]) (bB.nil _ _ _) (by simp[bQ]))) ?_;rintro _ h2 ⟨⟨b,rfl,hb,k2⟩,e2⟩;refine ax ?_;refine dS ?_;exact⟨_,rfl,⟨_,rfl,b,_,[],rfl,fun q=>q ⟨.inl k2.ty,fun z=>by have:=hZ _ z;have:=e1.size;omega⟩,k2,bB.nil _ _ _,rfl,fun _ q=>by cases q⟩,e1.trans e2⟩
 · exact absurd rfl q
end
end Go.Proofs.YtdihgdeciopfpaaGreatDoor
namespace Go.Proofs.YtdihgdeciopfpaaGreatDoor
open Go.Proofs.Tryz
open Go Go.Lw
set_option maxRecDepth 20000
section
variable {h h':aj}{b ub:Nat}{v tv:Value}{Z M:Nat->Prop}{t:By}
theorem nJ {o:Nat}{xs ys:List Value}(k:Lw.rowAt h b o (xs++ys)):Lw.rowAt h b o xs:=fun j v hv=>k j v (by rw[List.getElem?_append_left (List.getElem?_eq_some_iff.1 hv).1];exact hv)
def Ta (h:aj) (O:Nat->Prop) (cs:List Value) (x:By×Int):Prop:=∃tv,cs=[tv,.int .i64 x.2]/\EW h O tv x.1
theorem EW.one {O:Nat->Prop}{s:By}(k:EW h O v s):v.oneCell'=true:=by obtain⟨_,_,_,rfl,_⟩:=k;rfl
def NS:gH (By×Int):=⟨2,by decide,Ta,fun h=>by obtain⟨v,rfl,_⟩:=h;rfl,fun h=>by
 obtain⟨v,rfl,hv⟩:=h;intro u hu;simp at hu
 rcases hu with rfl|rfl
 · exact hv.one
 · rfl,fun h m=>by
 obtain⟨v,hc,hv⟩:=h;exact⟨v,hc,hv.mv m⟩⟩
structure jR (Z:Nat->Prop) (h:aj) (ub:Nat) (wv gv:Value) (u:FV):Prop where
 blk:∃tv,aH h ub 209 [tv,.int .i64 u.c,wv,gv,.int .i64 u.o]/\HD Z h tv u.t
 were:fB NS (Ot Z h) h 0 206 wv u.were
 gone:fB NS (Ot Z h) h 0 206 gv u.gone
 ne:∀b,wv.ownBlock=some b->gv.ownBlock≠some b
abbrev LP (ub:Nat) (wv gv:Value):Nat->Prop:=fun b=>b=ub\/wv.ownBlock=some b\/gv.ownBlock=some b
theorem oK {base:Nat}{t:TypeId}{xs:List (By×Int)}(k:fB NS (Ot Z h) h base t v xs) (x:Ext M h h') (hown:∀b,v.ownBlock=some b->¬M b) (hM:∀b,M b->Ot Z h b):fB NS (Ot Z h') h' base t v xs :=
 k.Fv x hown (fun b _ q=>hM b q) (fun b hb q q2=>q ⟨q2.1.imp (fun k=>k.ext x (fun q3=>hM b q3 q2)) (fun k=>k.ext x (fun q3=>hM b q3 q2)),q2.2⟩)
theorem iC {t:TypeId}(k:bR h b t) (h1:t≠276) (h2:t≠9):Ot Z h b:=fun q=>q.1.elim (fun q=>k.ne q h1 rfl) (fun q=>k.ne q h2 rfl)
section
variable {Z:Nat->Prop}{h:aj}{ub:Nat}{wv gv:Value}{u:FV}
theorem jR.HG (k:jR Z h ub wv gv u):∀b,wv.ownBlock=some b->bR h b 206:=fun _ hb=>by obtain⟨_,q⟩:=k.were.own;exact az.ty q hb
theorem jR.KZ (k:jR Z h ub wv gv u):∀b,gv.ownBlock=some b->bR h b 206:=fun _ hb=>by obtain⟨_,q⟩:=k.gone.own;exact az.ty q hb
theorem jR.ext' (k:jR Z h ub wv gv u) (x:Ext M h h') (h1:¬M ub) (h2:∀b,wv.ownBlock=some b->¬M b) (h3:∀b,gv.ownBlock=some b->¬M b) (hM:∀b,M b->Ot Z h b):jR Z h' ub wv gv u:=by
 obtain⟨tv,kb,kt⟩:=k.blk;exact⟨⟨tv,kb.ext x h1,kt.mv (kT x hM)⟩,oK k.were x h2 hM,oK k.gone x h3 hM,k.ne⟩
theorem jR.ak (k:jR Z h ub wv gv u) (x:aq h h'):jR Z h' ub wv gv u:=k.ext' x (fun q=>q) (fun _ _ q=>q) (fun _ _ q=>q) (fun _ q=>q.elim)
theorem jR.cells {tv':Value}{u':FV}(k:jR Z h ub wv gv u) (x:Ext (fun b=>b=ub) h h') (kb:aH h' ub 209 [tv',.int .i64 u'.c,wv,gv,.int .i64 u'.o]) (kt:HD Z h tv' u'.t) (h1:u'.were=u.were) (h2:u'.gone=u.gone):jR Z h' ub wv gv u':=by
 obtain⟨tv,kb0,_⟩:=k.blk;have hM:∀b,b=ub->Ot Z h b:=fun b e=>by subst e;exact iC kb0.ty (by decide) (by decide)
 exact⟨⟨tv',kb,kt.mv (kT x hM)⟩,h1▸oK k.were x (fun b hb e=>by subst e;exact(k.HG b hb).ne kb0.ty (by decide) rfl) hM,h2▸oK k.gone x (fun b hb e=>by subst e;exact(k.KZ b hb).ne kb0.ty (by decide) rfl) hM,k.ne⟩
end
theorem HT {c o:Int}{wv gv:Value}(k:aH h ub 209 [.pointer (some ⟨b,0,none⟩),.int .i64 c,wv,gv,.int .i64 o]) :
 af Tryz.prog 223 #[.pointer (some ⟨ub,0,none⟩)] h (bf fun r h'=>r= .bool false/\h'=h):=by
 refine af.of func223 rfl rfl ?_;refine bI func223 1 [0,2] rfl ?_;refine av rfl ?_;refine G.bK [(2,.bool false)] [(0,_)] ⟨rfl,trivial⟩ func223 rfl ?_ ?_
 · refine cT 1 rfl rfl (ai.cJ underlying145 rfl rfl) ?_;refine bW 1 rfl ?_;refine RW.bH (d:=5) (b':=false) rfl (rfl) ?_;refine cT 2 rfl rfl (aa (off:=0) underlying209 rfl rfl H.r6 rfl) ?_;refine xp rfl (aa (off:=0) underlying206 rfl rfl H.BN rfl) ?_;refine xp rfl (ah H.J0 rfl (k.cell (i:=0) rfl)) ?_;refine xp rfl (ai.cJ underlying139 rfl rfl) ?_;refine bW 2 rfl ?_;refine RW.done rfl ?_;exact⟨rfl,aC rfl (rfl),rfl,trivial⟩
 · refine G.ret func223 rfl rfl ?_;exact⟨_,rfl,rfl,rfl⟩
theorem DD (k:HD Z h tv t) (c:Int) :
 af Tryz.prog 64 #[tv,.int .i64 c] h (bf fun r h'=>(∃ub:Nat,r= .pointer (some ⟨ub,0,none⟩)/\h.size<=ub/\jR Z h' ub (.slice none 0 0) (.slice none 0 0) (HU t c))/\aq h h'):=by
 have k0:=k;obtain⟨b,vl,l,rfl,_⟩:=k;refine af.of func64 rfl rfl ?_;refine bI func64 1 [0,1,4] rfl ?_;refine av rfl ?_;refine cm func64 1 rfl ?_;refine xp rfl (ai.cJ underlying139 rfl rfl) ?_;refine xd [0,1,4,6] rfl ?_;refine aA rfl rfl (fun hc=>absurd hc (by simp)) (fun _=>?_);refine aI rfl ?_;refine cm func64 2 rfl ?_;refine xp rfl (aE (H.rN _ _) rfl) ?_;refine xp rfl (aE (H.Ll _ _) rfl) ?_;refine xo rfl (aB.cx rfl) ?_;rintro _ h1 ⟨rfl,k1,e1,z1⟩;refine bq 1 [0,1,4,6] rfl ?_;have k1:aH h1 h.size 209 [.pointer (some ⟨b,0,none⟩),.int .i64 c,.slice none 0 0,.slice none 0 0,.int .i64 0]:=k1;refine G.ret func64 rfl rfl ?_;exact⟨_,rfl,⟨_,rfl,Nat.le_refl _,⟨⟨_,k1,k0.mv (Mv.GH e1)⟩,fB.nil _ _ _ _ _,fB.nil _ _ _ _ _,fun _ q=>by cases q⟩⟩,e1⟩
theorem Fq (x:Ext M h h') (hM:∀b,M b->Ot Z h b):∀b,Ot Z h' b->Ot Z h b:=fun b q q2=>q ⟨q2.1.imp (fun k=>k.ext x (fun q3=>hM b q3 q2)) (fun k=>k.ext x (fun q3=>hM b q3 q2)),q2.2⟩
theorem GQ {h7 h8:aj}{v7:Value}{c:Int}{xs:List (By×Int)}{css:List (List Value)}(hty:∀b,v.ownBlock=some b->bR h b 206) (kub:bR h ub 209) (hc1:css.length=xs.length) (hc3:∀(i:Nat) (cs:List Value) (x:By×Int),css[i]? =some cs->xs[i]? =some x->NS.R h (fun b=>cj v.ownBlock b\/Ot Z h b) cs x)
 (kt:HD Z h tv t) (ho:az h7 0 206 2 v7 (xs.length+1) (css.flatten++[tv,.int .i64 c])) (hx:Ext (cj v.ownBlock) h h7) (hv:∀b,v7.ownBlock=some b->v.ownBlock=some b\/h.size<=b) (x8:Ext (fun b=>b=ub) h7 h8) :
 fB NS (Ot Z h8) h8 0 206 v7 (xs++[(t,c)]):=by
 have hM:∀b,cj v.ownBlock b->Ot Z h b:=fun b e=>iC (hty b e.symm) (by decide) (by decide)
 have kub7:bR h7 ub 209:=kub.ext hx (fun e=>(hty ub e.symm).ne kub (by decide) rfl);have hM8:∀b,b=ub->Ot Z h7 b:=fun b e=>by subst e;exact iC kub7 (by decide) (by decide)
 have k7:fB NS (Ot Z h) h7 0 206 v7 (xs++[(t,c)]):=fB.mN (h:=h) (v:=v) (css:=css) (cs:=[tv,.int .i64 c]) hc1 hc3 ho hx hv ⟨tv,rfl,kt.mv ⟨Nat.le_refl _,fun b _ hn=>⟨rfl,fun q=>q.elim (fun q=>hn (hM b q)) hn⟩⟩⟩;exact k7.Fv x8 (fun b hb e=>by subst e;exact(show bR h7 b 206 from az.ty ho hb).ne kub7 (by decide) rfl) (fun b _ e=>by subst e;exact iC kub (by decide) (by decide)) (fun b _ q=>Fq hx hM b (Fq x8 hM8 b q))
theorem yh {wv gv:Value}{u:FV}(k:jR Z h ub wv gv u) (kt:HD Z h tv t) (c g:Int) (hw:u.were.length<100) :
 af Tryz.prog 167 #[.pointer (some ⟨ub,0,none⟩),tv,.int .i64 c,.int .i64 g] h (bf fun r h'=>r= .bool true/\(∃wv' gv',jR Z h' ub wv' gv' (DE u t c g)/\∀b,LP ub wv' gv' b->LP ub wv gv b\/h.size<=b)/\Ext (LP ub wv gv) h h'):=by
 obtain⟨tv0,kb,kt0⟩:=k.blk;have kt':=kt;obtain⟨b1,vl1,l1,rfl,_⟩:=kt';have kt0':=kt0;obtain⟨b0,vl0,l0,rfl,_⟩:=kt0'
 have hcov:(DE u t c g).were=if g<=0\/g≠u.o then u.were++[(u.t,u.c)] else u.were:=by
  unfold DE;dsimp only;rw[show u.were.length+1-100=0 by omega,List.drop_zero]
 -- the last three stores
 have last:∀{hA hD:aj}{wvA gvA:Value}{uA:FV},jR Z hA ub wvA gvA uA->HD Z hA (.pointer (some ⟨b1,0,none⟩)) t->uA.were=(DE u t c g).were->Ext (fun b=>b=ub) hA hD->aH hD ub 209 [.pointer (some ⟨b1,0,none⟩),.int .i64 c,wvA,.slice none 0 0,.int .i64 (if g<0 then 0 else g)]->jR Z hD ub wvA (.slice none 0 0) (DE u t c g):=fun {hA hD wvA gvA uA} kA ktA hwr x kD=>by
  obtain⟨tvA,kbA,_⟩:=kA.blk;rw[show (if g<0 then (0:Int) else g)=max g 0 by split<;>omega] at kD;have hM:∀b,b=ub->Ot Z hA b:=fun b e=>by subst e;exact iC kbA.ty (by decide) (by decide)
  exact⟨⟨_,kD,ktA.mv (kT x hM)⟩,hwr▸oK kA.were x (fun b hb e=>by subst e;exact(kA.HG b hb).ne kbA.ty (by decide) rfl) hM,fB.nil _ _ _ _ _,fun _ _ q=>by cases q⟩
 refine af.of func167 rfl rfl ?_;refine bI func167 1 [0,1,2,3,8] rfl ?_;refine av rfl ?_;refine av rfl ?_;refine G.bK [(14,.bool false)] [(0,_),(1,_),(2,_),(3,_),(8,_)] ⟨rfl,rfl,rfl,rfl,rfl,trivial⟩ func167 rfl ?_ ?_
 · refine bW 1 rfl ?_;refine xo rfl (au (vs:=[_]) func223 rfl H.PD rfl (af.bD (HT kb))) ?_;rintro _ h0 ⟨rfl,hh0⟩;subst hh0;refine bW 1 rfl ?_;refine RW.bH (d:=11) (b':=false) rfl (rfl) ?_;refine cT 1 rfl rfl (ai.cJ underlying139 rfl rfl) ?_;refine bW 1 rfl ?_;refine RW.done rfl ?_;exact⟨rfl,aC rfl (rfl),rfl,rfl,rfl,rfl,rfl,trivial⟩
 · refine aA rfl rfl (fun hc=>absurd hc (by decide)) (fun _=>?_);refine aI rfl ?_;refine av rfl ?_;refine av rfl ?_;refine G.bK [(24,.bool (decide (g<=0\/g≠u.o)))] [(0,_),(1,_),(2,_),(3,_),(8,_),(14,_)] ⟨rfl,rfl,rfl,rfl,rfl,rfl,trivial⟩ func167 rfl ?_ ?_
   · refine bW 3 rfl ?_;refine RW.split (d:=17) rfl (fun hg1=>?_) (fun hg1=>?_)
     · have hg1':=of_decide_eq_true hg1;refine bW 7 rfl ?_;refine RW.done rfl ?_;exact⟨rfl,aC rfl (by simp[hg1']),rfl,rfl,rfl,rfl,rfl,rfl,trivial⟩
     · have hg1':=of_decide_eq_false hg1;refine cT 3 rfl rfl (aa (off:=4) underlying209 rfl rfl H.bL rfl) ?_;refine xp rfl (ah H.cC rfl (kb.cell (i:=4) rfl)) ?_;refine bW 2 rfl ?_;refine RW.done rfl ?_;exact⟨rfl,aC rfl (by simp;omega),rfl,rfl,rfl,rfl,rfl,rfl,trivial⟩
   · refine dm rfl rfl (fun hpush=>?_) (fun hpush=>?_)
     · rw[if_pos hpush] at hcov;obtain⟨css,hc1,hc2,hc3⟩:=id k.were
       have hd1:¬(cj wv.ownBlock ub\/Array.size h<=ub):=fun e=>by
        rcases e with e|e
        · exact(k.HG _ e.symm).ne kb.ty (by decide) rfl
        · have:=kb.lt;omega
       refine av rfl ?_;refine cq (fun b=>cj wv.ownBlock b\/Array.size h<=b) (fun i=>Nat.blt i 13) (sz:=14) (listed:= #[false,false,false,false,false,false,false,false,false,false,false,false,false,false]) func167 H.mixed rfl rfl rfl ?_;refine aT 0 1 (by kernel_rfl) rfl ?_;refine aT 1 3 (by kernel_rfl) rfl ?_;refine aT 2 7 (by kernel_rfl) rfl ?_;refine bG 3 15 (by kernel_rfl) rfl (fun h' e=>aa (off:=2) underlying209 rfl rfl H.mD rfl) ?_;refine bG 4 31 (by kernel_rfl) rfl (fun h' e=>ah H.JZ rfl (e.cell hd1 (kb.cell (i:=2) rfl))) ?_;refine aT 5 63 (by kernel_rfl) rfl ?_;refine aT 6 127 (by kernel_rfl) rfl ?_;refine bG 7 255 (by kernel_rfl) rfl (fun h' e=>aa (off:=0) underlying209 rfl rfl H.r6 rfl) ?_;refine bG 8 511 (by kernel_rfl) rfl (fun h' e=>ai.aF H.QV H.r6 rfl (e.rowAt hd1 (nJ (xs:=[.pointer (some ⟨b0,0,none⟩),.int .i64 u.c]) kb.row)) (by first|rfl|(simp;done)|(simp;omega))) ?_;refine ef 9 1023 (by kernel_rfl) rfl (aB.cv (cs:=[_,_]) underlying207 H.MA rfl rfl (by decide)) ?_;rintro _ _ ⟨rfl,rfl⟩;refine⟨fun _=>by first|exact Ext.push _ _ _|assumption,?_⟩;refine ef 10 2047 (by kernel_rfl) rfl (aB.dZ underlying207 H.MA rfl rfl (hc2) rfl rfl (by first|decide|simp[Value.oneCell']) (by omega) (by decide) (by omega)) ?_;rintro v7 h7 ⟨ho7,hx7,hx7',hv7⟩;refine⟨fun _=>hx7'.mono (fun _ _ q=>.inl q),?_⟩;obtain⟨wa,wc,rfl,how⟩:=ho7.open;have hwle:=how.le;have kb7:=kb.ext hx7 (fun e=>hd1 (.inl e));refine ef 11 4095 (by kernel_rfl) rfl (ai.bD (aV rfl)) ?_;rintro _ hq_ ⟨rfl,hqe_⟩;replace hqe_:=hqe_.symm;subst hqe_;refine⟨fun _=>Ext.refl _ _,?_⟩;refine bG 12 8191 (by kernel_rfl) rfl (fun h' e=>aa (off:=2) underlying209 rfl rfl H.mD rfl) ?_;refine lS 13 16383 (by kernel_rfl) rfl (aB.aS H.mD rfl rfl kb7 (by first|decide|exact of_decide_eq_true rfl|(simp;done)|(simp;omega)) rfl) ?_;rintro _ h8 ⟨rfl,k8,x8,z8⟩;refine⟨fun hk=>(nomatch hk),?_⟩;have were8:=GQ k.HG kb.ty hc1 hc3 kt0 ho7 hx7 hv7 x8;have hMw:∀b,cj wv.ownBlock b->Ot Z h b:=fun b e=>iC (k.HG b e.symm) (by decide) (by decide)
       have gone7:=oK k.gone hx7 (fun b hb e=>k.ne b e.symm hb) hMw;have hM8:∀b,b=ub->Ot Z h7 b:=fun b e=>by subst e;exact iC kb7.ty (by decide) (by decide)
       have gone8:=oK gone7 x8 (fun b hb e=>by subst e;obtain⟨_,q⟩:=gone7.own;exact(show bR h7 b 206 from az.ty q hb).ne kb7.ty (by decide) rfl) hM8
       have hap:∀b,(Value.slice wa (u.were.length+1) wc).ownBlock=some b->gv.ownBlock≠some b:=fun b hb e=>by
        rcases hv7 b hb with q|q
        · exact k.ne b q e
        · have:=(k.KZ b e).lt;omega
       have k8':jR Z h8 ub (.slice wa (u.were.length+1) wc) gv { u with were:=u.were++[(u.t,u.c)] }:=⟨⟨_,k8,(kt0.mv (kT hx7 hMw)).mv (kT x8 hM8)⟩,were8,gone8,hap⟩
       have kt8:=(kt.mv (kT hx7 hMw)).mv (kT x8 hM8);have e08:Ext (LP ub wv gv) h h8:=(hx7.mono (fun b _ e=>.inr (.inl e.symm))).trans (x8.mono (fun b _ e=>.inl e));refine RD.done (by kernel_rfl) ?_;refine xu [0,1,2,3,8,14,24] rfl ?_;refine cq (fun b=>Array.size h8<=b) (fun i=>Nat.blt i 15) (sz:=16) (listed:= #[false,false,false,false,false,false,false,false,false,false,false,false,false,false,false,false]) func167 H.mixed rfl rfl rfl ?_;refine aT 0 1 (by kernel_rfl) rfl ?_;refine aT 1 3 (by kernel_rfl) rfl ?_;refine aT 2 7 (by kernel_rfl) rfl ?_;refine bG 3 15 (by kernel_rfl) rfl (fun h' e=>aa (off:=2) underlying209 rfl rfl H.mD rfl) ?_;refine bG 4 31 (by kernel_rfl) rfl (fun h' e=>ah H.JZ rfl (e.old (k8.cell (i:=2) rfl))) ?_;refine aT 5 63 (by kernel_rfl) rfl ?_;refine aT 6 127 (by kernel_rfl) rfl ?_;refine bG 7 255 (by kernel_rfl) rfl (fun h' e=>aa (off:=2) underlying209 rfl rfl H.mD rfl) ?_;refine bG 8 511 (by kernel_rfl) rfl (fun h' e=>ah H.JZ rfl (e.old (k8.cell (i:=2) rfl))) ?_;refine bG 9 1023 (by kernel_rfl) rfl (fun h' e=>ai.aX underlying207 rfl) ?_;refine bG 10 2047 (by kernel_rfl) rfl (fun h' e=>ai.gZ rfl rfl ⟨by omega,by omega⟩) ?_;refine bG 11 4095 (by kernel_rfl) rfl (fun h' e=>ai.max2 rfl rfl) ?_;refine bG 12 8191 (by kernel_rfl) rfl (fun h' e=>ai.iJ underlying207 H.r6 rfl rfl 0 (by omega) (by omega)) ?_;refine ef 13 16383 (by kernel_rfl) rfl (ai.bD (aV rfl)) ?_;rintro _ hq_ ⟨rfl,hqe_⟩;replace hqe_:=hqe_.symm;subst hqe_;refine⟨fun _=>Ext.refl _ _,?_⟩;refine bG 14 32767 (by kernel_rfl) rfl (fun h' e=>aa (off:=2) underlying209 rfl rfl H.mD rfl) ?_;refine lS 15 65535 (by kernel_rfl) rfl (aB.aS H.mD rfl rfl k8 (by first|decide|exact of_decide_eq_true rfl|(simp;done)|(simp;omega)) rfl) ?_;rintro _ h9 ⟨rfl,k9,x9,z9⟩;refine⟨fun hk=>(nomatch hk),?_⟩;have k9:aH h9 ub 209 [.pointer (some ⟨b0,0,none⟩),.int .i64 u.c,.slice wa (u.were.length+1) wc,gv,.int .i64 u.o]:=by rw[iR] at k9;exact k9
       have k9':=k8'.cells (u':= { u with were:=u.were++[(u.t,u.c)] }) x9 k9 (by obtain⟨_,q1,q2⟩:=k8'.blk;have:=q1.cell (i:=0) rfl;rw[k8.cell (i:=0) rfl] at this;cases this;exact q2) rfl rfl;have kt9:=kt8.mv (kT x9 fun b e=>by subst e;exact iC k8.ty (by decide) (by decide));refine RD.done (by kernel_rfl) ?_;refine xu [0,1,2,3,8,14,24] rfl ?_;refine cm func167 5 rfl ?_;refine xp rfl (aE (H.rN _ _) rfl) ?_;refine cT 1 rfl rfl (ai.max2 rfl rfl) ?_;refine cT 1 rfl rfl (aa (off:=0) underlying209 rfl rfl H.r6 rfl) ?_;refine RW.dQ rfl rfl rfl (aB.aG H.r6 rfl rfl k9 (by first|rfl|(simp;done)|(simp;omega)) (by first|decide|exact of_decide_eq_true rfl|(simp;done)|(simp;omega)) (by first|decide|simp[Value.oneCell'])) ?_;rintro _ hA ⟨rfl,kA,xA,zA⟩;refine cT 1 rfl rfl (aa (off:=3) underlying209 rfl rfl H.mD rfl) ?_;refine RW.dQ rfl rfl rfl (aB.aS H.mD rfl rfl kA (by first|decide|exact of_decide_eq_true rfl|(simp;done)|(simp;omega)) rfl) ?_;rintro _ hB ⟨rfl,kB,xB,zB⟩;refine cT 1 rfl rfl (aa (off:=4) underlying209 rfl rfl H.bL rfl) ?_;refine RW.dQ rfl rfl rfl (aB.aS H.bL rfl rfl kB (by first|decide|exact of_decide_eq_true rfl|(simp;done)|(simp;omega)) rfl) ?_;rintro _ hC ⟨rfl,kC,xC,zC⟩;have xx:=(xA.trans xB).trans xC;have kU:=last k9' kt9 hcov.symm xx kC;have e9:=e08.trans ((x9.trans xx).mono (fun b _ e=>.inl e));refine xd [0,1,2,3,8,14,24] rfl ?_;refine bI func167 1 [0,1,2,3,8,14,24] rfl ?_;refine G.ret func167 rfl rfl ?_
       exact⟨_,rfl,rfl,⟨_,_,kU,fun b hb=>by
        rcases hb with rfl|q|q
        · exact .inl (.inl rfl)
        · rcases hv7 b q with q|q
          · exact .inl (.inr (.inl q))
          · exact .inr q
        · cases q⟩,e9⟩
     · rw[if_neg hpush] at hcov;refine aI rfl ?_;refine cm func167 5 rfl ?_;refine xp rfl (aE (H.rN _ _) rfl) ?_;refine cT 1 rfl rfl (ai.max2 rfl rfl) ?_;refine cT 1 rfl rfl (aa (off:=0) underlying209 rfl rfl H.r6 rfl) ?_;refine RW.dQ rfl rfl rfl (aB.aG H.r6 rfl rfl kb (by first|rfl|(simp;done)|(simp;omega)) (by first|decide|exact of_decide_eq_true rfl|(simp;done)|(simp;omega)) (by first|decide|simp[Value.oneCell'])) ?_;rintro _ hA ⟨rfl,kA,xA,zA⟩;refine cT 1 rfl rfl (aa (off:=3) underlying209 rfl rfl H.mD rfl) ?_;refine RW.dQ rfl rfl rfl (aB.aS H.mD rfl rfl kA (by first|decide|exact of_decide_eq_true rfl|(simp;done)|(simp;omega)) rfl) ?_;rintro _ hB ⟨rfl,kB,xB,zB⟩;refine cT 1 rfl rfl (aa (off:=4) underlying209 rfl rfl H.bL rfl) ?_;refine RW.dQ rfl rfl rfl (aB.aS H.bL rfl rfl kB (by first|decide|exact of_decide_eq_true rfl|(simp;done)|(simp;omega)) rfl) ?_;rintro _ hC ⟨rfl,kC,xC,zC⟩;have xx:=(xA.trans xB).trans xC;have kU:=last k kt hcov.symm xx kC;refine xd [0,1,2,3,8,14,24] rfl ?_;refine bI func167 1 [0,1,2,3,8,14,24] rfl ?_;refine G.ret func167 rfl rfl ?_
       exact⟨_,rfl,rfl,⟨_,_,kU,fun b hb=>by
        rcases hb with rfl|q|q
        · exact .inl (.inl rfl)
        · exact .inl (.inr (.inl q))
        · cases q⟩,xx.mono (fun b _ e=>.inl e)⟩
theorem G9 {a b:By}{f t e:Nat}(hd:a.drop t=b.drop e) (hc:f<t/\f<e/\a[t-1]? =b[e-1]?) (h4:f<=t/\t<=a.length/\f<=e/\e<=b.length):a.drop (t-1)=b.drop (e-1):=by
 have h1:t-1<a.length:=by omega
 have h2:e-1<b.length:=by omega
 have h3:=hc.2.2;rw[List.getElem?_eq_getElem h1,List.getElem?_eq_getElem h2] at h3;rw[List.drop_eq_getElem_cons h1,List.drop_eq_getElem_cons h2,Option.some.inj h3,show t-1+1=t by omega,show e-1+1=e by omega,hd]
theorem Bb (a b:By) (hal:a.length<=1000000) (hbl:b.length<=1000000) :
 af Tryz.prog 220 #[.string (bs a),.string (bs b)] h (bf fun r h'=>(∃f t z:Nat,r= .tuple #[.int .i64 f,.int .i64 t,.int .i64 z]/\f<=t/\t<=a.length/\f<=z/\z<=b.length/\a.take f=b.take f/\a.drop t=b.drop z)/\h'=h):=by
 have hba:=aR a;have hbb:=aR b;refine af.of func220 rfl rfl ?_;refine bI func220 3 [0,1,4,5,6] rfl ?_;refine av rfl ?_;refine G.block rfl rfl ?_;refine cL (σ:=Nat) (fun f=>[(0,.string (bs a)),(1,.string (bs b)),(4,.int .i64 (f:Nat))]) (fun f h'=>h'=h/\f<=a.length/\f<=b.length/\a.take f=b.take f) (fun f=>a.length-f) (0) rfl ⟨rfl,rfl,rfl,trivial⟩ ⟨rfl,Nat.zero_le _,Nat.zero_le _,rfl⟩ ?_;rintro f g ⟨hg,hfa,hfb,htk⟩ ih;subst hg;refine av rfl ?_;refine av rfl ?_;refine G.tO [(22,.bool (decide (f<a.length/\f<b.length/\a[f]? =b[f]?)))] [(0,_),(1,_),(4,_)] ⟨rfl,rfl,rfl,trivial⟩ (fun b=>Array.size g<=b) (fun i=>Nat.blt i 16) (sz:=16) (listed:= #[false,false,false,false,false,false,false,false,false,false,false,false,false,false,false,false]) func220 H.mixed rfl rfl rfl ?_ ?_
 · refine aT 0 1 (by kernel_rfl) rfl ?_;refine aT 1 3 (by kernel_rfl) rfl ?_;refine bG 2 7 (by kernel_rfl) rfl (fun h' e=>ai.br underlying9 rfl) ?_;refine aT 3 15 (by kernel_rfl) rfl ?_;refine bG 4 31 (by kernel_rfl) rfl (fun h' e=>ai.br underlying9 rfl) ?_;refine bG 5 63 (by kernel_rfl) rfl (fun h' e=>ai.min2 rfl rfl) ?_;refine aT 6 127 (by kernel_rfl) rfl ?_;refine aT 7 255 (by kernel_rfl) rfl ?_;refine RD.split (d:=14) rfl (fun hg1=>?_) (fun hg1=>?_)
   · have hg1':=of_decide_eq_true hg1;have hq:f<a.length/\f<b.length:=by split at hg1'<;>omega
     obtain⟨x,hx⟩:∃x,a[f]? =some x:=⟨_,List.getElem?_eq_getElem hq.1⟩
     obtain⟨y,hy⟩:∃y,b[f]? =some y:=⟨_,List.getElem?_eq_getElem hq.2⟩
     refine aT 8 511 (by kernel_rfl) rfl ?_;refine aT 9 1023 (by kernel_rfl) rfl ?_;refine bG 10 2047 (by kernel_rfl) rfl (fun h' e=>ai.hU underlying9 rfl rfl f rfl (mc hx)) ?_;refine aT 11 4095 (by kernel_rfl) rfl ?_;refine aT 12 8191 (by kernel_rfl) rfl ?_;refine bG 13 16383 (by kernel_rfl) rfl (fun h' e=>ai.hU underlying9 rfl rfl f rfl (mc hy)) ?_;refine aT 14 32767 (by kernel_rfl) rfl ?_;refine aT 15 65535 (by kernel_rfl) rfl ?_;refine RD.done (by kernel_rfl) ?_;exact⟨rfl,aC rfl (by rw[hx,hy];simp[hq.1,hq.2,<-UInt8.toNat_inj];omega),rfl,rfl,rfl,trivial⟩
   · have hg1':=of_decide_eq_false hg1;have hq:¬(f<a.length/\f<b.length):=by split at hg1'<;>omega
     refine ij 8 511 (by kernel_rfl) rfl ?_;refine ij 9 1023 (by kernel_rfl) rfl ?_;refine ij 10 2047 (by kernel_rfl) rfl ?_;refine ij 11 4095 (by kernel_rfl) rfl ?_;refine ij 12 8191 (by kernel_rfl) rfl ?_;refine ij 13 16383 (by kernel_rfl) rfl ?_;refine ij 14 32767 (by kernel_rfl) rfl ?_;refine aT 15 65535 (by kernel_rfl) rfl ?_;refine RD.done (by kernel_rfl) ?_;exact⟨rfl,aC rfl (by rw[eq_comm,decide_eq_false_iff_not];exact fun q=>hq ⟨q.1,q.2.1⟩),rfl,rfl,rfl,trivial⟩
 · refine dm rfl rfl (fun hc=>?_) (fun hc=>?_)
   · refine aI rfl ?_;refine G.block rfl rfl ?_;refine G.cA func220 rfl ?_;refine cT 1 rfl rfl (ai.ck rfl rfl ⟨by omega,by omega⟩) ?_;refine bq 1 [0,1,4,22] rfl ?_;refine G.bE ?_;exact ih (f+1) _ _ ⟨rfl,rfl,rfl,trivial⟩ ⟨rfl,hc.1,hc.2.1,by rw[List.take_add_one,List.take_add_one,htk,hc.2.2]⟩ (by omega)
   · refine cy rfl rfl ?_;refine cm func220 1 rfl ?_;refine xp rfl (ai.br underlying9 rfl) ?_;refine cT 1 rfl rfl (ai.br underlying9 rfl) ?_;refine bq 2 [0,1,4,5,6,22] rfl ?_;refine av rfl ?_;refine G.block rfl rfl ?_;refine cL (σ:=Nat×Nat) (fun q=>[(0,.string (bs a)),(1,.string (bs b)),(4,.int .i64 (f:Nat)),(5,.int .i64 (q.1:Nat)),(6,.int .i64 (q.2:Nat))]) (fun q h'=>h'=g/\(f<=q.1/\q.1<=a.length/\f<=q.2/\q.2<=b.length)/\a.drop q.1=b.drop q.2) (fun q=>q.1) ((a.length,b.length)) rfl ⟨rfl,rfl,rfl,rfl,rfl,trivial⟩ ⟨rfl,⟨hfa,Nat.le_refl _,hfb,Nat.le_refl _⟩,by rw[List.drop_length,List.drop_length]⟩ ?_;rintro⟨t,z⟩ g2 ⟨hg2,hb4,hd⟩ ih2
     try dsimp only
     dsimp only at hb4 hd;subst hg2;refine av rfl ?_;refine av rfl ?_;refine G.tO [(47,.bool (decide (f<t/\f<z/\a[t-1]? =b[z-1]?)))] [(0,_),(1,_),(4,_),(5,_),(6,_)] ⟨rfl,rfl,rfl,rfl,rfl,trivial⟩ (fun b=>Array.size g2<=b) (fun i=>Nat.blt i 19) (sz:=19) (listed:= #[false,false,false,false,false,false,false,false,false,false,false,false,false,false,false,false,false,false,false]) func220 H.mixed rfl rfl rfl ?_ ?_
     · refine aT 0 1 (by kernel_rfl) rfl ?_;refine aT 1 3 (by kernel_rfl) rfl ?_;refine aT 2 7 (by kernel_rfl) rfl ?_;refine aT 3 15 (by kernel_rfl) rfl ?_;refine RD.split (d:=32) rfl (fun hg1=>?_) (fun hg1=>?_)
       · have hg1':=of_decide_eq_true hg1;refine aT 4 31 (by kernel_rfl) rfl ?_;refine aT 5 63 (by kernel_rfl) rfl ?_;refine aT 6 127 (by kernel_rfl) rfl ?_;refine aT 7 255 (by kernel_rfl) rfl ?_;refine aT 8 511 (by kernel_rfl) rfl ?_;refine RD.split (d:=37) rfl (fun hg2=>?_) (fun hg2=>?_)
         · have hg2':=of_decide_eq_true hg2;obtain⟨x,hx⟩:∃x,a[t-1]? =some x:=⟨_,List.getElem?_eq_getElem (by omega)⟩
           obtain⟨y,hy⟩:∃y,b[z-1]? =some y:=⟨_,List.getElem?_eq_getElem (by omega)⟩
           refine aT 9 1023 (by kernel_rfl) rfl ?_;refine aT 10 2047 (by kernel_rfl) rfl ?_;refine bG 11 4095 (by kernel_rfl) rfl (fun h' e=>ai.gZ rfl rfl ⟨by omega,by omega⟩) ?_;refine bG 12 8191 (by kernel_rfl) rfl (fun h' e=>ai.hU underlying9 rfl rfl (t-1) (by omega) (mc hx)) ?_;refine aT 13 16383 (by kernel_rfl) rfl ?_;refine aT 14 32767 (by kernel_rfl) rfl ?_;refine bG 15 65535 (by kernel_rfl) rfl (fun h' e=>ai.gZ rfl rfl ⟨by omega,by omega⟩) ?_;refine bG 16 131071 (by kernel_rfl) rfl (fun h' e=>ai.hU underlying9 rfl rfl (z-1) (by omega) (mc hy)) ?_;refine aT 17 262143 (by kernel_rfl) rfl ?_;refine aT 18 524287 (by kernel_rfl) rfl ?_;refine RD.done (by kernel_rfl) ?_;exact⟨rfl,aC rfl (by rw[hx,hy];simp[show f<t by omega,show f<z by omega,<-UInt8.toNat_inj];omega),rfl,rfl,rfl,rfl,rfl,trivial⟩
         · have hg2':=of_decide_eq_false hg2;refine ij 9 1023 (by kernel_rfl) rfl ?_;refine ij 10 2047 (by kernel_rfl) rfl ?_;refine ij 11 4095 (by kernel_rfl) rfl ?_;refine ij 12 8191 (by kernel_rfl) rfl ?_;refine ij 13 16383 (by kernel_rfl) rfl ?_;refine ij 14 32767 (by kernel_rfl) rfl ?_;refine ij 15 65535 (by kernel_rfl) rfl ?_;refine ij 16 131071 (by kernel_rfl) rfl ?_;refine ij 17 262143 (by kernel_rfl) rfl ?_;refine aT 18 524287 (by kernel_rfl) rfl ?_;refine RD.done (by kernel_rfl) ?_;exact⟨rfl,aC rfl (by rw[eq_comm,decide_eq_false_iff_not];exact fun q=>hg2' (by have:=q.2.1;omega)),rfl,rfl,rfl,rfl,rfl,trivial⟩
       · have hg1':=of_decide_eq_false hg1;refine ij 4 31 (by kernel_rfl) rfl ?_;refine ij 5 63 (by kernel_rfl) rfl ?_;refine ij 6 127 (by kernel_rfl) rfl ?_;refine aT 7 255 (by kernel_rfl) rfl ?_;refine aT 8 511 (by kernel_rfl) rfl ?_;refine ij 9 1023 (by kernel_rfl) rfl ?_;refine ij 10 2047 (by kernel_rfl) rfl ?_;refine ij 11 4095 (by kernel_rfl) rfl ?_;refine ij 12 8191 (by kernel_rfl) rfl ?_;refine ij 13 16383 (by kernel_rfl) rfl ?_;refine ij 14 32767 (by kernel_rfl) rfl ?_;refine ij 15 65535 (by kernel_rfl) rfl ?_;refine ij 16 131071 (by kernel_rfl) rfl ?_;refine ij 17 262143 (by kernel_rfl) rfl ?_;refine aT 18 524287 (by kernel_rfl) rfl ?_;refine RD.done (by kernel_rfl) ?_;exact⟨rfl,aC rfl (by rw[eq_comm,decide_eq_false_iff_not];exact fun q=>hg1' (by have:=q.1;omega)),rfl,rfl,rfl,rfl,rfl,trivial⟩
     · refine dm rfl rfl (fun hc2=>?_) (fun hc2=>?_)
       · refine aI rfl ?_;refine G.block rfl rfl ?_;refine cm func220 1 rfl ?_;refine xp rfl (ai.gZ rfl rfl ⟨by omega,by omega⟩) ?_;refine bq 1 [0,1,4,5,6,47] rfl ?_;refine G.cA func220 rfl ?_;refine cT 1 rfl rfl (ai.gZ rfl rfl ⟨by omega,by omega⟩) ?_;refine bq 1 [0,1,4,5,6,47] rfl ?_;refine G.bE ?_;exact ih2 (t-1,z-1) _ _ ⟨rfl,rfl,rfl,congrArg (fun x:Int=>some (Value.int .i64 x)) (by omega),congrArg (fun x:Int=>some (Value.int .i64 x)) (by omega),trivial⟩ ⟨rfl,⟨by show f<=t-1;omega,by show t-1<=a.length;omega,by show f<=z-1;omega,by show z-1<=b.length;omega⟩,G9 hd hc2 hb4⟩ (by show t-1<t;omega)
       · refine cy rfl rfl ?_;refine bI func220 6 [0,1,4,5,6,47] rfl ?_;refine G.ret func220 rfl rfl ?_;exact⟨_,rfl,⟨f,t,z,rfl,hb4.1,hb4.2.1,hb4.2.2.1,hb4.2.2.2,htk,hd⟩,rfl⟩
end
end Go.Proofs.YtdihgdeciopfpaaGreatDoor
namespace Go.Proofs.YtdihgdeciopfpaaGreatDoor
open Go.Proofs.Tryz
open Go Go.Lw
set_option maxRecDepth 20000 set_option maxHeartbeats 4000000
section
variable {h:aj}
def jh (p:Pt):List Value:=[.int .i64 p.1,.int .i64 p.2.1,.int .i64 p.2.2]
theorem AD (p:Pt):∀v∈jh p,v.oneCell'=true:=fun v hv=>by simp[jh] at hv;rcases hv with rfl|rfl|rfl<;>rfl
def NU:gH Pt:=.record 3 (by decide) jh (fun _=>rfl) AD
def mu (l:Value) (s:By) (tv sv:Value) (en:ew) (pv:Value) (n:Int):List Value:=[l,.string (bs s),tv,sv,.int .i64 en.1,.int .i64 en.2,pv,.int .i64 n]
def fH (O:Nat->Prop) (h:aj) (b:Nat) (s:By) (n:Int):Prop :=
 ∃h0 lb tv sv pv,tG h0/\tH (fun x=>x=b\/O x) h (.pointer (some ⟨lb,0,none⟩))/\aq h0 h/\(h0.size<=b/\∀y,O y->h0.size<=y)/\aH h b 218 (mu (.pointer (some ⟨lb,0,none⟩)) s tv sv (bh s).2 pv n) /\
  bB Lb h (fun x=>x=b\/O x) tv (bh s).1/\bB Rf h (fun x=>x=b\/O x) sv (fF s)/\bB NU h (fun x=>x=b\/O x) pv (B7 s)
theorem qC {v:Value}{O:Nat->Prop}{xs:List Tk}(hv:bB Lb h O v xs) (hx:xs.length<=1000000) :
 af Tryz.prog 181 #[v] h (bf fun r h'=>fZ 3 cB h' h.size 281 r xs/\aq h h'):=by
 obtain⟨va,vn,vc,rfl,hvs⟩:=hv.open;have hl:xs.length=vn:=hvs.len;subst hl;refine eV ?_;refine dc ?_;refine fE ?_;refine cG ?_;refine iF ?_
 iterate 2 refine dc ?_
 refine fE ?_;refine cG ?_;refine xp rfl (ai.FD underlying215 rfl rfl) ?_;refine ax ?_;refine E4 (fun hn=>?_) (fun hn=>?_)
 · refine ax ?_;refine dS ?_
   have hx0:xs=[]:=by
    have hva:va=none:=by simpa using hn
    rcases xs with _|⟨x,xs⟩
    · rfl
    · obtain⟨b,o,cs,ha,_⟩:=hvs.get 0 x rfl;rw[hva] at ha;cases ha
   subst hx0;exact⟨_,rfl,fZ.nil _ _ _ _ _,Ext.refl _ _⟩
 · refine ax ?_;refine xo rfl (Sp) ?_;rintro _ h1 ⟨rfl,hh1⟩;have e1:aq h h1:=by rw[hh1];exact Ext.push _ _ _
   have z1:h1.size=h.size+1:=by rw[hh1];simp
   have ho1:az h1 h.size 281 3 (.slice (some ⟨h.size,0,none⟩) 0 0) 0 []:=by rw[hh1];exact xh h _ 3 h.size (Nat.le_refl _)
   have hrow:=(hvs.mv (Mv.ak e1)).O9;refine ax ?_;refine xo rfl (aB.append underlying215 H.lZ rfl rfl ho1 (fk (enc:=cB) (sz:=3) (fun _=>rfl) xs) hrow (fun u hu=>by obtain⟨x,_,hx⟩:=List.mem_flatMap.1 hu;exact dV x u hx) (by simp only[maxLen];omega) (by omega) (by omega)) ?_;rintro v2 h2 ⟨ho2,hx2,_,hv2⟩;refine ax ?_;refine dS ?_;refine⟨_,rfl,?_,Ext.own e1 ho1 (Nat.le_refl _) hx2⟩;have:az h2 h.size 281 3 v2 (0+xs.length) ([]++xs.flatMap cB):=ho2;rw[Nat.zero_add,List.nil_append] at this;exact this
theorem Be {v:Value}{O:Nat->Prop}{xs:List ew}(hv:bB Rf h O v xs) (hx:xs.length<=1000000) :
 af Tryz.prog 182 #[v] h (bf fun r h'=>fZ 2 aY h' h.size 211 r xs/\aq h h'):=by
 obtain⟨va,vn,vc,rfl,hvs⟩:=hv.open;have hl:xs.length=vn:=hvs.len;subst hl;refine eV ?_;refine dc ?_;refine fE ?_;refine cG ?_;refine iF ?_
 iterate 2 refine dc ?_
 refine fE ?_;refine cG ?_;refine xp rfl (ai.FD underlying216 rfl rfl) ?_;refine ax ?_;refine E4 (fun hn=>?_) (fun hn=>?_)
 · refine ax ?_;refine dS ?_
   have hx0:xs=[]:=by
    have hva:va=none:=by simpa using hn
    rcases xs with _|⟨x,xs⟩
    · rfl
    · obtain⟨b,o,cs,ha,_⟩:=hvs.get 0 x rfl;rw[hva] at ha;cases ha
   subst hx0;exact⟨_,rfl,fZ.nil _ _ _ _ _,Ext.refl _ _⟩
 · refine ax ?_;refine xo rfl (Sp) ?_;rintro _ h1 ⟨rfl,hh1⟩;have e1:aq h h1:=by rw[hh1];exact Ext.push _ _ _
   have z1:h1.size=h.size+1:=by rw[hh1];simp
   have ho1:az h1 h.size 211 2 (.slice (some ⟨h.size,0,none⟩) 0 0) 0 []:=by rw[hh1];exact xh h _ 2 h.size (Nat.le_refl _)
   have hrow:=(hvs.mv (Mv.ak e1)).O9;refine ax ?_;refine xo rfl (aB.append underlying216 H.jC rfl rfl ho1 (fk (enc:=aY) (sz:=2) (fun _=>rfl) xs) hrow (fun u hu=>by obtain⟨x,_,hx⟩:=List.mem_flatMap.1 hu;exact cF x u hx) (by simp only[maxLen];omega) (by omega) (by omega)) ?_;rintro v2 h2 ⟨ho2,hx2,_,hv2⟩;refine ax ?_;refine dS ?_;refine⟨_,rfl,?_,Ext.own e1 ho1 (Nat.le_refl _) hx2⟩;have:az h2 h.size 211 2 v2 (0+xs.length) ([]++xs.flatMap aY):=ho2;rw[Nat.zero_add,List.nil_append] at this;exact this
theorem B4 {b:Nat}{lp:Option Addr}{s:By}{tv sv pv:Value}{en:ew}{n:Int}(k:aH h b 218 (mu (.pointer lp) s tv sv en pv n)) :
 af Tryz.prog 178 #[.pointer (some ⟨b,0,none⟩)] h (bf fun r h'=>r= .bool lp.isNone/\h'=h):=by
 refine eV ?_;refine dc ?_;refine fE ?_;refine cG ?_;refine iF ?_;refine dc ?_;refine fE ?_;refine cG ?_;refine xp rfl (ai.cJ underlying147 rfl rfl) ?_;refine ax ?_;refine RW.bH (d:=5) (b':=false) rfl (rfl) ?_;refine ax ?_;refine xp rfl (bJ rfl (k.cell (i:=0) rfl)) ?_;refine xp rfl (ai.cJ underlying149 rfl rfl) ?_;refine ax ?_;refine dS ?_;exact⟨_,rfl,rfl,rfl⟩
end
end Go.Proofs.YtdihgdeciopfpaaGreatDoor
namespace Go.Proofs.YtdihgdeciopfpaaGreatDoor
open Go.Proofs.Tryz
open Go Go.Lw
set_option maxRecDepth 20000
section
variable {h:aj}{b:Nat}{s:By}{n:Int}{O:Nat->Prop}
theorem yF {b1 b2:Nat}{l:Value}{tv sv pv:Value}{en:ew}{pts:List Pt}{a:Int}(k1:aH h b1 147 [.pointer (some ⟨b,0,none⟩)]) (k2:aH h b2 3 [.int .i64 a])
 (k:aH h b 218 (mu l s tv sv en pv n)) (hp:bB NU h O pv pts) (i:Nat){t:Pt}(ht:pts[i]? =some t) (ha : -1000000<=a/\a<=1000000) :
 af Tryz.prog 231 #[.int .i64 (i:Nat),.pointer (some ⟨b1,0,none⟩),.pointer (some ⟨b2,0,none⟩)] h (bf fun r h'=>r= .bool (decide (a-3<t.1))/\h'=h):=by
 obtain⟨va,vn,vc,rfl,hvs⟩:=hp.open;have hl:pts.length=vn:=hvs.len;have hi:=(List.getElem?_eq_some_iff.1 ht).1;obtain⟨bb,o,t',hva,_,ht',hrow⟩:=hvs.lq (i:=i) (by omega);obtain rfl:t'=t:=Option.some.inj (ht'.symm.trans ht);refine af.of func231 rfl rfl ?_;refine bI func231 1 [0,1,2,4] rfl ?_;refine av rfl ?_;refine G.l7 func231 H.mixed rfl (by kernel_rfl) ?_;refine RQ.an rfl rfl rfl rfl (ah H.zM rfl (k1.cell (i:=0) rfl)) ?_;refine RQ.an rfl rfl rfl rfl (aV rfl) ?_;refine RQ.an rfl rfl rfl rfl (aa (off:=6) underlying218 rfl rfl H.BL rfl) ?_;refine RQ.an rfl rfl rfl rfl (ah H.FQ rfl (k.cell (i:=6) rfl)) ?_;refine RQ.an rfl rfl rfl rfl (aD rfl) ?_;refine RQ.an rfl rfl rfl rfl (ai.aN underlying214 H.uE rfl rfl i rfl hva (by omega)) ?_;refine RQ.an rfl rfl rfl rfl (aa (off:=0) underlying213 rfl rfl H.bL rfl) ?_;refine RQ.an rfl rfl rfl rfl (ah H.cC rfl (hrow 0 _ rfl)) ?_;refine RQ.an rfl rfl rfl rfl (ah H.cC rfl (k2.cell (i:=0) rfl)) ?_;refine RQ.an rfl rfl rfl rfl (ai.gZ rfl rfl ⟨by omega,by omega⟩) ?_;refine RQ.an rfl rfl rfl rfl (qQ rfl rfl) ?_;refine RQ.an rfl rfl rfl rfl (ai.assign rfl) ?_;refine RQ.done rfl ?_;refine xu [0,1,2,4] rfl ?_;refine G.ret func231 rfl rfl ?_;exact⟨_,rfl,rfl,rfl⟩
theorem Bk {l:Value}{tv sv pv:Value}{en:ew}{pts:List Pt}(k:aH h b 218 (mu l s tv sv en pv n)) (hp:bB NU h O pv pts) (hpl:pts.length<=1000000) (h0:pts[0]? =some (0,(0,0)))
 (hs:pts.Pairwise fun p q=>p.1<q.1) (a:Int) (ha : -1000000<=a/\a<=1000000) :
 af Tryz.prog 179 #[.pointer (some ⟨b,0,none⟩),.int .i64 a] h (bf fun r h'=>(∃p,r= .agg (jh p).toArray/\J8 pts a p)/\aq h h'):=by
 obtain⟨va,vn,vc,rfl,hvs⟩:=id hp.open;have hl:pts.length=vn:=hvs.len;subst hl;have hpos:0<pts.length:=(List.getElem?_eq_some_iff.1 h0).1;refine af.of func179 rfl rfl ?_;refine xr func179 rfl ?_;refine xo rfl (aB.cx rfl) ?_;rintro _ h1 ⟨rfl,k1,e1,z1⟩;refine xo rfl (aB.cx rfl) ?_;rintro _ h2 ⟨rfl,k2,e2,z2⟩;refine xo rfl (aB.aQ H.LI) ?_;rintro _ h3 ⟨rfl,k3,e3,z3⟩;have k1:aH h1 h.size 147 [.pointer (some ⟨b,0,none⟩)]:=k1;have k2:aH h2 h1.size 3 [.int .i64 a]:=k2;have k3:aH h3 h2.size 213 (jh (0,(0,0))):=k3;have e03:=(e1.trans e2).trans e3;have y1:=e1.size;have y2:=e2.size;have q1:=(k1.ak e2).ak e3;have q2:=k2.ak e3;have q:=k.ak e03;have hp3:=hp.ak e03
 have hsr:=lf (h:=h3) (g:=231) (caps:=[.pointer (some ⟨h.size,0,none⟩),.pointer (some ⟨h1.size,0,none⟩)]) ⟨_,func231,rfl,by kernel_rfl⟩ pts.length hpl (fun i=>match pts[i]? with|some t=>decide (a-3<t.1)|none=>false) (fun i hi=>by
  have ht:pts[i]? =some pts[i]:=List.getElem?_eq_getElem hi;simp only[ht];exact yF q1 q2 q hp3 i ht ha)
 refine xd [0,1,2,3,4] rfl ?_;refine xr func179 rfl ?_;refine xp rfl (ah H.zM rfl (q1.cell (i:=0) rfl)) ?_;refine cT 1 rfl rfl (aa (off:=6) underlying218 rfl rfl H.BL rfl) ?_;refine xp rfl (ah H.FQ rfl (q.cell (i:=6) rfl)) ?_;refine xp rfl (ai.aX underlying214 rfl) ?_;refine xp rfl (ai.makeFunc (vs:=[_,_]) rfl) ?_;refine xo rfl (au (vs:=[_,_]) func230 rfl H.Mb rfl (af.bD (hsr))) ?_;rintro _ h4 ⟨⟨j,rfl,hj,hj1,hj2⟩,hh4⟩;subst hh4;have hmx:(if (j:Int)-1<0 then 0 else (j:Int)-1)=((j-1:Nat):Int):=by split<;>omega
 have hjl:j-1<pts.length:=by omega
 obtain⟨bb,o,t,hva,_,ht,hrow⟩:=(hvs.mv (Mv.ak e03)).lq hjl;refine bq 1 [0,1,2,3,4,5] rfl ?_;refine xr func179 rfl ?_;refine xp rfl (ah H.zM rfl (q1.cell (i:=0) rfl)) ?_;refine cT 1 rfl rfl (aa (off:=6) underlying218 rfl rfl H.BL rfl) ?_;refine xp rfl (ah H.FQ rfl (q.cell (i:=6) rfl)) ?_;refine cT 1 rfl rfl (ai.gZ rfl rfl ⟨by omega,by omega⟩) ?_;refine xp rfl (ai.max2 rfl rfl) ?_;refine xp rfl (ai.aN underlying214 H.uE rfl rfl (j-1) hmx hva hjl) ?_;refine xp rfl (ai.aF H.MW H.uE rfl hrow (by first|rfl|(simp;done)|(simp;omega))) ?_;refine RW.dQ rfl rfl rfl (aB.aG H.uE rfl rfl k3 (by first|rfl|(simp;done)|(simp;omega)) (by first|decide|exact of_decide_eq_true rfl|(simp;done)|(simp;omega)) (AD _)) ?_;rintro _ h5 ⟨rfl,k5,x5,z5⟩;refine xd [0,1,2,3,4,5] rfl ?_;have k5:aH h5 h2.size 213 (jh t):=k5;refine G.jI func179 rfl (.cons (bT.ja H.MW H.uE rfl (k5.row) (by first|rfl|(simp;done)|(simp;omega))) (.nil)) ?_
 have hlt:∀(x y:Nat) (p q:Pt),x<y->pts[x]? =some p->pts[y]? =some q->p.1<q.1:=fun x y p q hxy hx hy=>by
  obtain⟨hx',rfl⟩:=List.getElem?_eq_some_iff.1 hx;obtain⟨hy',rfl⟩:=List.getElem?_eq_some_iff.1 hy;exact List.pairwise_iff_getElem.1 hs x y hx' hy' hxy
 refine⟨_,rfl,⟨t,rfl,List.mem_of_getElem? ht,?_,fun q hq hqa=>?_⟩,aq.only e03 x5 (by omega)⟩
 · rcases Nat.eq_zero_or_pos j with h6|h6
   · subst h6;rw[h0] at ht;exact .inr (Option.some.inj ht).symm
   · have:=hj1 h6;simp only[ht] at this;have:=of_decide_eq_false this;exact .inl (by omega)
 · obtain⟨i,hi,rfl⟩:=List.getElem_of_mem hq;have hiq:pts[i]? =some pts[i]:=List.getElem?_eq_getElem hi
   rcases Nat.lt_trichotomy i (j-1) with h6|h6|h6
   · have:=hlt i (j-1) _ _ h6 hiq ht;omega
   · rw[<-h6,hiq] at ht;rw[Option.some.inj ht];exact Int.le_refl _
   · exfalso;have hjj:j<=i:=by omega
     have hq2:pts[j]? =some pts[j]:=List.getElem?_eq_getElem (by omega);have:=hj2 (by omega);simp only[hq2] at this;have h7:=of_decide_eq_true this
     rcases Nat.lt_or_ge j i with h8|h8
     · have:=hlt j i _ _ h8 hq2 hiq;omega
     · obtain rfl:j=i:=by omega
       omega
theorem fH.none {O:Nat->Prop}{h:aj}{b:Nat}{s:By}{n:Int}(k:fH O h b s n):af Tryz.prog 178 #[.pointer (some ⟨b,0,none⟩)] h (bf fun r h'=>r= .bool false/\h'=h):=by
 obtain⟨h0,lb,tv,sv,pv,_,_,_,_,kb,_⟩:=k;exact B4 kb
theorem fH.ak {O:Nat->Prop}{h h':aj}{b:Nat}{s:By}{n:Int}(k:fH O h b s n) (e:aq h h'):fH O h' b s n:=by
 obtain⟨h0,lb,tv,sv,pv,k1,k2,k3,k4,k5,k6,k7,k8⟩:=k;exact⟨h0,lb,tv,sv,pv,k1,k2.mv (Mv.ak e),k3.trans e,k4,k5.ak e,k6.ak e,k7.ak e,k8.ak e⟩
theorem qJ (s:By):(bh s).1.length<=s.length:=Dd _ _ _ _
theorem Ac (k:fH O h b s n) (hs:s.length<=1000000):af Tryz.prog 174 #[.pointer (some ⟨b,0,none⟩)] h (bf fun r h'=>fZ 3 cB h' h.size 281 r (bh s).1/\aq h h'):=by
 have hn:=k.none;have hal:=qJ s;obtain⟨h0,lb,tv,sv,pv,_,_,_,_,kb,ht,_⟩:=k;refine af.of func174 rfl rfl ?_;refine bI func174 1 [0,2] rfl ?_;refine av rfl ?_;refine cm func174 1 rfl ?_;refine xo rfl (au (vs:=[_]) func178 rfl H.Me rfl (af.bD (hn))) ?_;rintro _ h1 ⟨rfl,hh1⟩;refine xd [0,2,4] rfl ?_;subst hh1;refine aA rfl rfl (fun hc=>absurd hc (by decide)) (fun _=>?_);refine aI rfl ?_;refine cm func174 2 rfl ?_;refine xp rfl (aa (off:=2) underlying218 rfl rfl H.jZ rfl) ?_;refine xp rfl (ah H.nu rfl (kb.cell (i:=2) rfl)) ?_;refine xo rfl (au (vs:=[_]) func181 rfl H.Md rfl (af.bD (qC ht (by omega)))) ?_;rintro v2 h2 ⟨ho,e2⟩;refine bq 1 [0,2,4] rfl ?_;refine G.ret func174 rfl rfl ?_;exact⟨_,rfl,ho,e2⟩
theorem Kz (s:By):(B7 s).length<=s.length+1:=by
 have h1:=vf (bh s).1 (fF s) 0;have h2:=qJ s;simp only[B7,List.length_cons];omega
end
end Go.Proofs.YtdihgdeciopfpaaGreatDoor
namespace Go.Proofs.YtdihgdeciopfpaaGreatDoor
open Go.Proofs.Tryz
open Go Go.Lw
set_option maxRecDepth 20000 set_option maxHeartbeats 4000000
theorem Ed {h:aj}{b:Nat}{l:Value}{s:By}{tv sv pv:Value}{en:ew}{n:Int}{toks:List Tk}{sts:List ew}{O:Nat->Prop}(k:aH h b 218 (mu l s tv sv en pv n)) (ht:bB Lb h (fun x=>x=b\/O x) tv toks) (hs:bB Rf h (fun x=>x=b\/O x) sv sts)
 (hl:sts.length=toks.length) (htl:toks.length<=900000) (hpos:∀t∈toks,-1000000<=t.2.1/\t.2.1<=1000000) (hO:∀y,O y->y<h.size:=by first|exact fun _ q=>False.elim q|assumption) :
 af Tryz.prog 184 #[.pointer (some ⟨b,0,none⟩)] h (bf fun _ h'=>(∃pv',aH h' b 218 (mu l s tv sv en pv' n)/\bB NU h' (fun x=>x=b\/O x) pv' ((0,(0,0))::ir toks sts 0))/\Ext (fun x=>x=b) h h'):=by
 have hb:=k.lt;obtain⟨ta,tn,tc,rfl,hts⟩:=id ht.open;obtain⟨sa,sn,sc,rfl,hss⟩:=id hs.open;have htn:toks.length=tn:=hts.len;have hsn:sts.length=sn:=hss.len;generalize htgt:((0,(0,0))::ir toks sts 0:List Pt)=tgt;refine eV ?_;refine ax ?_;refine xp rfl (aE (H.JU ) rfl) ?_;refine xo rfl (LL) ?_;rintro _ h1 ⟨rfl,hh1⟩;have e1:aq h h1:=by rw[hh1];exact Ext.push _ _ _
 have z1:h1.size=h.size+1:=by rw[hh1];simp
 have ho1:fZ 3 jh h1 h.size 213 (.slice (some ⟨h.size,0,none⟩) 1 1) [(0,(0,0))]:=by rw[hh1];exact fZ.lW (fun _=>rfl) h ((0,(0,0)):Pt) 213 h.size (Nat.le_refl _) rfl
 refine ax ?_;refine dD rfl (qY rfl rfl ((k.ak e1))) ?_;rintro _ h2 ⟨rfl,k2,x2,z2⟩;have k2:aH h2 b 218 (mu l s (.slice ta tn tc) (.slice sa sn sc) en (.slice (some ⟨h.size,0,none⟩) 1 1) n):=k2;have ho2:fZ 3 jh h2 h.size 213 (.slice (some ⟨h.size,0,none⟩) 1 1) [(0,(0,0))]:=az.ext x2 ho1 (fun x hx (q:x=b)=>by have:=(az.lt ho1 hx).1;omega);have e02:Ext (fun x=>x=b) h h2:=(aq.of e1).trans x2;refine ax ?_;refine xp rfl (bJ rfl (k2.cell (i:=2) rfl)) ?_;refine ax ?_;refine qS (σ:=Nat×Value×List Pt×Pt) (fun q=>[(14,.int .i64 (q.1:Nat))]) (fun q h'=>(q.1<=tn/\q.2.2.1.length<=q.1/\ -1000000<=q.2.2.2.1/\q.2.2.2.1<=1000000)/\Ext (fun x=>x=b) h h'/\aH h' b 218 (mu l s (.slice ta tn tc) (.slice sa sn sc) en q.2.1 n)/\fZ 3 jh h' h.size 213 q.2.1 (q.2.2.1++[q.2.2.2])/\(q.2.2.1++[q.2.2.2])++ir (toks.drop q.1) (sts.drop q.1) q.2.2.2.1=tgt) (fun q=>tn-q.1) ((0,.slice (some ⟨h.size,0,none⟩) 1 1,[],(0,(0,0)))) ⟨⟨Nat.zero_le _,Nat.le_refl _,show (-1000000:Int)<=0 by decide,show (0:Int)<=1000000 by decide⟩,e02,k2,ho2,htgt⟩ rfl ?_;rintro⟨i,pv,pre,last⟩ g ⟨⟨hi,hpl,hl1,hl2⟩,eg,kg,hp,hcon⟩ ih
 try dsimp only
 dsimp only at hi hpl hl1 hl2 kg hp hcon;have zg:=eg.size;refine ax ?_;refine dM (fun hlt=>?_) (fun hlt=>?_)
 · have hit:i<tn:=by omega
   obtain⟨bt,ot,t,hta,hbt,htk,hrow⟩:=((ht.nU eg).open_slice).lq hit;obtain⟨bs',os',st,hsa,hbs',hst,hrow0⟩:=hss.lq (i:=i) (by omega);have hrow2:=eg.rowAt (fun q=>hbs' (.inl q)) hrow0;have hbsz:bs'<h.size:=cX hrow0 (List.cons_ne_nil _ _);have hdt:toks.drop i=t::toks.drop (i+1):=by obtain⟨h3,h4⟩:=List.getElem?_eq_some_iff.1 htk;rw[<-h4];exact List.drop_eq_getElem_cons h3
   have hds:sts.drop i=st::sts.drop (i+1):=by obtain⟨h3,h4⟩:=List.getElem?_eq_some_iff.1 hst;rw[<-h4];exact List.drop_eq_getElem_cons h3
   have htp:=hpos t (List.mem_of_getElem? htk);rw[hdt,hds,ir] at hcon
   iterate 4 refine dc ?_
   refine fE ?_;refine cG ?_;refine xp rfl (fN rfl rfl i rfl hta hit) ?_;refine xp rfl (jT rfl hrow) ?_;refine xo rfl (pI) ?_;rintro _ g1 ⟨rfl,k3,f1,y1⟩;refine ax ?_;refine dD rfl (iV rfl rfl k3 (dV _)) ?_;rintro _ g2 ⟨rfl,k3,x3,y3⟩;have k3:aH g2 g.size 281 (cB t):=k3;have eg2:aq g g2:=aq.only (h0:=g) f1 x3 (Nat.le_refl _);have kg2:=kg.ak eg2;have hp2:=hp.ak eg2;have zg2:=eg2.size;have hpr:bB NU g2 (fun _=>False) pv (pre++[last]):=fZ.read hp2 (fun _ _ k=>k);obtain⟨pa,pn,pc,rfl,hps⟩:=hpr.open;have hpn:(pre++[last]).length=pn:=hps.len;have hpn1:pre.length+1=pn:=by rw[<-hpn];simp
   obtain⟨bp,op,lp,hpa,_,hlp,hrow3⟩:=hps.lq (i:=pre.length) (by omega);obtain rfl:last=lp:=by simpa using hlp
   have hrowS:=eg2.rowAt (fun k=>k) hrow2;refine ax ?_;refine rU rfl (bJ rfl (k3.cell (i:=1) rfl)) ?_;refine ax ?_;refine rU rfl (bJ rfl (kg2.cell (i:=6) rfl)) ?_;refine ax ?_;refine rU rfl (bJ rfl (kg2.cell (i:=6) rfl)) ?_
   iterate 2 refine OH ?_
   refine rU rfl (fN rfl rfl pre.length (by omega) hpa) ?_;refine ax ?_;refine rU rfl (bJ rfl (hrow3 0 _ rfl)) ?_;refine ax ?_;refine dM (fun hge=>?_) (fun hge=>?_)
   · have hge':last.1+64<=t.2.1:=hge;rw[if_pos hge'] at hcon;have hpo:=(az.lt hp2 (b:=bp) (by rw[hpa];rfl))
     have hMb:¬(cj (Value.slice pa pn pc).ownBlock b\/Array.size g2<=b):=by
      rintro(q|q)
      · have:=(az.lt hp2 q.symm).1;omega
      · have:=kg2.lt;omega
     have hM3:¬(cj (Value.slice pa pn pc).ownBlock g.size\/Array.size g2<=g.size):=by
      rintro(q|q)
      · have:=(az.lt hp q.symm).2;omega
      · have:=k3.lt;omega
     have hMS:¬(cj (Value.slice pa pn pc).ownBlock bs'\/Array.size g2<=bs'):=by
      rintro(q|q)
      · have:=(az.lt hp2 q.symm).1;omega
      · omega
     have hho2:az g2 h.size 213 3 (.slice pa pn pc) (pre++[last]).length ((pre++[last]).flatMap jh):=hp2;refine Bt 20 (fun x=>cj (Value.slice pa pn pc).ownBlock x\/Array.size g2<=x) (fun i=>Nat.blt i 19) ?_;refine cS 0 ?_;refine cS 1 ?_;refine cS 2 ?_;refine cS 3 ?_;refine eO 4 rfl (fun h' e=>bJ rfl (e.cell hMb (kg2.cell (i:=6) rfl))) ?_;refine cS 5 ?_;refine eO 6 rfl (fun h' e=>bJ rfl (e.cell hM3 (k3.cell (i:=1) rfl))) ?_;refine cS 7 ?_;refine cS 8 ?_;refine cS 9 ?_;refine eO 10 rfl (fun h' e=>bJ rfl (e.cell hMb (kg2.cell (i:=3) rfl))) ?_;refine cS 11 ?_;refine eO 12 rfl (fun h' e=>fN rfl rfl i rfl hsa) ?_;refine eO 13 rfl (fun h' e=>jT rfl (e.rowAt hMS hrowS)) ?_;refine eO 14 rfl (fun h' e=>aE (H.Hs _ _ _) rfl) ?_;refine nG 15 rfl (LL) ?_;rintro _ g3 ⟨rfl,hg3⟩;refine⟨fun _=>by rw[hg3];exact Ext.push _ _ _,?_⟩;have f3:aq g2 g3:=by rw[hg3];exact Ext.push _ _ _
     have y3:g3.size=g2.size+1:=by rw[hg3];simp
     have hrA:Lw.rowAt g3 g2.size 0 (jh (t.2.1,st)):=by rw[hg3];exact cP _ _ _
     refine nG 16 rfl (aB.append underlying214 H.JC rfl rfl (hho2.eE f3) rfl (.inr ⟨_,_,rfl,hrA⟩) (AD _) (by simp only[maxLen];omega) (by omega) (by omega)) ?_;rintro v4 g4 ⟨ho4,hx4,_,hv4⟩;refine⟨fun _=>hx4.mono (fun _ _ k=>.inl k),?_⟩;have kg4:=(kg2.ak f3).ext hx4 (fun q=>hMb (.inl q));have z4:=hx4.size;obtain⟨qa,qc,hvq,_⟩:=az.open ho4;refine LM 17 ?_;refine cS 18 ?_;refine zS 19 rfl (qY rfl rfl kg4 (by rw[hvq];rfl)) ?_;rintro _ g5 ⟨rfl,kg5,x5,z5⟩;refine⟨nofun,?_⟩;refine xM ?_;refine ax ?_;have kg5:aH g5 b 218 (mu l s (.slice ta tn tc) (.slice sa sn sc) en v4 n):=kg5;have ho4':fZ 3 jh g4 h.size 213 v4 ((pre++[last])++[(t.2.1,st)]):=fZ.of ho4 rfl rfl;have ho5:fZ 3 jh g5 h.size 213 v4 ((pre++[last])++[(t.2.1,st)]):=az.ext x5 ho4' (fun x hx (q:x=b)=>by have:=(az.lt ho4' hx).1;omega)
     have eg5:Ext (fun x=>x=b) h g5:=⟨by have:=x5.size;omega,fun x hx hn=>by
      rw[x5.block x (by omega) hn,hx4.block x (by omega) (fun q=>by have:=(az.lt hp q.symm).1;omega),f3.block x (by omega) (fun q=>q),eg2.block x (by omega) (fun q=>q)];exact eg.block x hx hn⟩
     exact ih (i+1,v4,pre++[last],(t.2.1,st)) ⟨⟨by show i+1<=tn;omega,by simp;omega,htp.1,htp.2⟩,eg5,kg5,ho5,by rw[<-hcon];simp⟩
   · have hge':¬last.1+64<=t.2.1:=hge;rw[if_neg hge'] at hcon;refine ax ?_;exact ih (i+1,.slice pa pn pc,pre,last) ⟨⟨by show i+1<=tn;omega,by show pre.length<=i+1;omega,hl1,hl2⟩,eg.trans (aq.of eg2),kg2,hp2,hcon⟩
 · obtain rfl:i=tn:=by omega
   have hdt:toks.drop i=[]:=List.drop_of_length_le (by omega);rw[hdt] at hcon;have hcon:(pre++[last])=tgt:=by rw[<-hcon];simp[ir]
   refine ax ?_;refine M9 ?_;exact⟨_,rfl,⟨pv,kg,by rw[<-hcon];exact fZ.read hp (fun x hx q=>by rcases q with q|q;omega;have:=hO x q;omega)⟩,eg⟩
end Go.Proofs.YtdihgdeciopfpaaGreatDoor
namespace Go.Proofs.YtdihgdeciopfpaaGreatDoor
open Go Go.Lw
set_option maxRecDepth 20000
section
variable {st:ew}{g:aj}{base:Nat}
def mE (lim a old:Nat) (d:Int) (st:ew) (T:List Tk) (S:List ew):Bool :=
  decide (lim<=a) && match T[old]?,S[old]? with
    |some t,some s=>decide (t.2.1+d=(a:Int)) && decide (s=st)
    |_,_=>false
theorem yU {lim a old:Nat}{d:Int}{T:List Tk}{S:List ew}(h:mE lim a old d st T S=true):lim<=a/\∃t,T[old]? =some t/\t.2.1+d=a/\S[old]? =some st:=by
  unfold mE at h;rw[Bool.and_eq_true] at h;obtain⟨h1,h2⟩:=h;refine⟨of_decide_eq_true h1,?_⟩;split at h2
  · rename_i t s ht hs;rw[Bool.and_eq_true] at h2;exact⟨t,ht,of_decide_eq_true h2.1,by rw[hs,of_decide_eq_true h2.2]⟩
  · cases h2
theorem Ic {lim a old:Nat}{d:Int}{T:List Tk}{S:List ew}(h:mE lim a old d st T S=false) (hl:lim<=a) (t:Tk) (ht:T[old]? =some t) (hd:t.2.1+d=a):¬S[old]? =some st:=by
  intro hs;unfold mE at h;rw[decide_eq_true hl,ht,hs,Bool.true_and] at h;simp only[decide_eq_true hd,decide_true,Bool.and_self] at h;cases h
theorem uY {base':Nat}{vt vs:Value}{toks:List Tk}{pre:List ew}(ht:fZ 3 cB g base 281 vt toks) (hs:fZ 2 aY g base' 211 vs pre):∀b,cj vt.ownBlock b->¬cj vs.ownBlock b:=fun b hb hc=>by
  obtain⟨cur,fr,h1⟩:=az.ty ht hb.symm;obtain⟨cur',fr',h2⟩:=az.ty hs hc.symm;have:=h1.symm.trans h2;simp at this
def Oi (g:aj) (base:Nat) (vt vs:Value) (toks:List Tk) (sts:List ew) (t:Tk) (st:ew) (q:Value×Value) (h:aj):Prop :=
  fZ 3 cB h base 281 q.1 (toks++[t])/\fZ 2 aY h base 211 q.2 (sts++[st])/\Ext (fun b=>cj vt.ownBlock b\/cj vs.ownBlock b) g h/\(∀b,q.2.ownBlock=some b->vs.ownBlock=some b\/g.size<=b)
theorem kP {w2 w4:aj}{vt vs vt2 vs2:Value}{toks:List Tk}{sts:List ew}{t:Tk}(ho:fZ 3 cB g base 281 vt toks) (hs:fZ 2 aY g base 211 vs sts) (x1:Ext (cj vt.ownBlock) g w2) (hv2:∀b,vt2.ownBlock=some b->vt.ownBlock=some b\/g.size<=b)
    (ho2:az w2 base 281 3 vt2 (toks.length+1) (toks.flatMap cB++cB t)) (x2:Ext (cj vs.ownBlock) w2 w4) (ho4:az w4 base 211 2 vs2 (sts.length+1) (sts.flatMap aY++aY st)) (hv4:∀b,vs2.ownBlock=some b->vs.ownBlock=some b\/g.size<=b):Oi g base vt vs toks sts t st (vt2,vs2) w4:=by
  have hd:=uY (g:=g) ho hs;refine⟨fZ.of (az.ext x2 ho2 (fun b hb k=>?_)) rfl rfl,fZ.of ho4 rfl rfl,(x1.mono (fun _ _ k=>.inl k)).trans (x2.mono (fun _ _ k=>.inr k)),hv4⟩
  rcases hv2 b hb with h|h
  · exact hd b h.symm k
  · have:=(az.lt hs k.symm).2;omega
def qN (s s':By) (i lim:Nat) (d:Int) (m:Int):Prop:=0<=m/\∃(p:Pt) (a e:Nat),J8 (B7 s) i p/\p.1=a/\a<=i/\a<=e/\e<=s'.length/\m<=3*((e:Int)-a)/\∀x,a<=x->x<e->lim<=x->¬Dk s s' d x
def Q1 (g:aj) (t:Tk) (st:ew) (q:Nat×Nat) (h:aj):Prop:=aH h q.1 281 (cB t)/\aH h q.2 211 (aY st)/\aq g h/\g.size<=q.1/\g.size<=q.2/\q.1≠q.2
theorem iS {w3 w4 w5:aj}{b1 b2:Nat}{t:Tk}(e:aq g w3) (h1:g.size<=b1) (h2:g.size<=b2) (hne:b1≠b2) (x4:Ext (fun b=>b=b1) w3 w4) (x5:Ext (fun b=>b=b2) w4 w5) (d7:aH w4 b1 281 (cB t)) (d8:aH w5 b2 211 (aY st)):Q1 g t st (b1,b2) w5 :=
  ⟨d7.ext x5 hne,d8,aq.only (aq.only e x4 h1) x5 h2,h1,h2,hne⟩
theorem fc {h:aj}{c sz n:Nat}{t t':TypeId}{v:Value}{xs cs:List Value}(k:az h base t sz v n xs) (kc:aH h c t' cs) (hne:t≠t'):¬cj v.ownBlock c:=fun hb=>by
  obtain⟨cur,fr,h1⟩:=az.ty k hb.symm;have h2:=h1.symm.trans kc;simp only[Option.some.injEq,Obj.cells.injEq] at h2;exact hne h2.2.1
structure M5 (h:aj) (b c B:Nat) (s x:By) (i j:Nat) (d:Int) (pa:Nat) (l tv sv pv:Value) (a:Nat) (st:ew) (old:Nat) (m:Int) (tv':Value) (toks:List Tk) (sv':Value) (sts:List ew) (h':aj):Prop where
  tk:fo s (eU s i j x) (i+x.length) d pa toks sts a st
  ol:old<=(bh s).1.length
  ob:∀(r:Nat) (t:Tk),r<old->(bh s).1[r]? =some t->t.2.1+d<max (a:Int) ((i+x.length:Nat):Int)
  m0:0<=m
  m1:m<=3*((a:Int)-pa)
  ex:Ext (fun y=>y=b) h h'
  kd:aH h' b 218 (mu l s tv sv (bh s).2 pv m)
  kc:aH h' c 211 (aY st)
  ho:fZ 3 cB h' B 281 tv' toks
  hp:fZ 2 aY h' B 211 sv' sts
  nc:∀y,sv'.ownBlock=some y->y≠c
  cb:B<=c
  hB:h.size<=B
theorem M5.old {h:aj}{b c B:Nat}{s x:By}{i j:Nat}{d:Int}{pa:Nat}{l tv sv pv:Value}{a:Nat}{st:ew}{old r:Nat}{m:Int}{tv':Value}{toks:List Tk}{sv':Value}{sts:List ew}{h':aj}(k:M5 h b c B s x i j d pa l tv sv pv a st old m tv' toks sv' sts h')
    (hr:r<=(bh s).1.length) (hb:∀(r':Nat) (t:Tk),r'<r->(bh s).1[r']? =some t->t.2.1+d<max (a:Int) ((i+x.length:Nat):Int)):M5 h b c B s x i j d pa l tv sv pv a st r m tv' toks sv' sts h' :=
  ⟨k.tk,hr,hb,k.m0,k.m1,k.ex,k.kd,k.kc,k.ho,k.hp,k.nc,k.cb,k.hB⟩
def BX (T:List Tk) (r:Nat) (d:Int) (a:Nat):Bool:=match T[r]? with
  |some t=>decide (t.2.1+d<(a:Int))
  |none=>false
structure Td (h:aj) (b c B:Nat) (s x:By) (i j:Nat) (d:Int) (l tv sv pv:Value) (m:Int) (tv' sv':Value) (h':aj):Prop where
  ex:Ext (fun y=>y=b) h h'
  kd:aH h' b 218 (mu l s tv sv (bh s).2 pv m)
  kc:aH h' c 211 (aY (bh (eU s i j x)).2)
  ho:fZ 3 cB h' B 281 tv' (bh (eU s i j x)).1
  hp:fZ 2 aY h' B 211 sv' (fF (eU s i j x))
  so:qN s (eU s i j x) i (i+x.length) d m
  cb:B<=c
  hB:h.size<=B
end
end Go.Proofs.YtdihgdeciopfpaaGreatDoor

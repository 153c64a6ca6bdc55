/- What the proof of the statement leans on (part 29). -/
import Derived.Shelf.Strings.Builder1
import Derived.Shelf.Strings.Builder2
import Derived.Shelf.Strings.OnBuilder
import Derived.Shelf.Small.Utf8
import Derived.Shelf.Small.Strs
import Derived.Shelf.Strings.BuilderF
import Derived.Shelf.Strings.BuilderK
import Derived.Shelf.Strings.Builder2Cap
import Derived.Shelf.Strconv.Itoa0
import Derived.Shelf.Strconv.Itoa1
import Derived.Shelf.LaysM
import Derived.Shelf.Strconv.Itoa2
import Derived.Shelf.Strconv.Itoa3
import Derived.Shelf.Strings.Search1
import Derived.Shelf.Strings.Search2
import Derived.Shelf.Strings.Search3
import Derived.Shelf.Strings.Shaped
import Derived.Shelf.Strings.LastIndex
import Derived.Shelf.Strings.LastIndexAll
import Derived.Shelf.Strings.Prefix
import Derived.Shelf.Unicode.Decode
import Derived.Shelf.Bits.Mul64
import Derived.Shelf.Strings.Repeat
import Derived.Shelf.Unicode.DecodeSlow
import Derived.Shelf.Unicode.DecodeAny
import Derived.Shelf.Unicode.DecodeLast
import Derived.Test.YtpjgdgdnbkjoiaaGreatDoorProg
import Derived.Deep.Fields
import Derived.Test.YtpjgdgdnbkjoiaaGreatDoorQzb

namespace Go.Proofs
open Go.Shelf
def Tryz.Ct:Go.Shelf.Ren:=⟨fun| 149=>108| 222=>161|n=>n,fun| 9=>9| 5=>5| 3=>3| 4=>4|n=>n,fun|n=>n⟩
theorem Tryz.KI:Go.Proofs.Lays.n149 Tryz.prog Tryz.Ct:= {
  mixed:=by kernel_rfl
  f149:=Tryz.func108.trans (congrArg some (by kernel_rfl))
  f222:=Tryz.func161.trans (congrArg some (by kernel_rfl))
  t3:=Tryz.underlying3
  a3:=Tryz.isAgg3
  z3:=Tryz.sizeOf3
  v3:=Tryz.zeroValue3
  t4:=Tryz.underlying4
  a4:=Tryz.isAgg4
  z4:=Tryz.sizeOf4
  v4:=Tryz.zeroValue4
  t5:=Tryz.underlying5
  a5:=Tryz.isAgg5
  z5:=Tryz.sizeOf5
  v5:=Tryz.zeroValue5
  t9:=Tryz.underlying9
  a9:=Tryz.isAgg9
  z9:=Tryz.sizeOf9
  v9:=Tryz.zeroValue9 }
def Tryz.Cr:Go.Shelf.Ren:=⟨fun| 212=>206| 263=>219| 264=>220|n=>n,fun| 46=>246| 51=>280| 146=>281| 53=>146| 148=>284|n=>n,fun|n=>n⟩
theorem Tryz.KG:Go.Proofs.Lays.n212 Tryz.prog Tryz.Cr:= {
  mixed:=by kernel_rfl
  f212:=Tryz.func206.trans (congrArg some (by kernel_rfl))
  f263:=Tryz.func219.trans (congrArg some (by kernel_rfl))
  f264:=Tryz.func220.trans (congrArg some (by kernel_rfl))
  t46:=Tryz.underlying246
  a46:=Tryz.isAgg246
  z46:=Tryz.sizeOf246
  v46:=Tryz.zeroValue246
  t51:=Tryz.underlying280
  a51:=Tryz.isAgg280
  z51:=Tryz.sizeOf280
  v51:=Tryz.zeroValue280
  t53:=Tryz.underlying146
  a53:=Tryz.isAgg146
  z53:=Tryz.sizeOf146
  v53:=Tryz.zeroValue146
  t146:=Tryz.underlying281
  a146:=Tryz.isAgg281
  z146:=Tryz.sizeOf281
  v146:=Tryz.zeroValue281
  t148:=Tryz.underlying284
  a148:=Tryz.isAgg284
  z148:=Tryz.sizeOf284
  v148:=Tryz.zeroValue284 }
def Tryz.tY:Go.Shelf.Ren:=⟨fun| 105=>187| 212=>206| 99=>207| 165=>184| 166=>134| 170=>208| 169=>137| 263=>219| 264=>220| 206=>221| 240=>182| 241=>204| 276=>202| 277=>217|n=>n,fun| 9=>9| 3=>3| 4=>4| 20=>20| 0=>0| 46=>246| 109=>266| 5=>5| 72=>218| 76=>221| 51=>280| 146=>281| 53=>146| 148=>284| 70=>215| 37=>216| 75=>220| 127=>253| 164=>263| 80=>179|n=>n,fun|n=>n⟩
theorem Tryz.mc:Go.Proofs.Lays.n105 Tryz.prog Tryz.tY:= {
  mixed:=by kernel_rfl
  f99:=Tryz.func207.trans (congrArg some (by kernel_rfl))
  f105:=Tryz.func187.trans (congrArg some (by kernel_rfl))
  f165:=Tryz.func184.trans (congrArg some (by kernel_rfl))
  f166:=Tryz.func134.trans (congrArg some (by kernel_rfl))
  f169:=Tryz.func137.trans (congrArg some (by kernel_rfl))
  f170:=Tryz.func208.trans (congrArg some (by kernel_rfl))
  f206:=Tryz.func221.trans (congrArg some (by kernel_rfl))
  f212:=Tryz.func206.trans (congrArg some (by kernel_rfl))
  f240:=Tryz.func182.trans (congrArg some (by kernel_rfl))
  f241:=Tryz.func204.trans (congrArg some (by kernel_rfl))
  f263:=Tryz.func219.trans (congrArg some (by kernel_rfl))
  f264:=Tryz.func220.trans (congrArg some (by kernel_rfl))
  f276:=Tryz.func202.trans (congrArg some (by kernel_rfl))
  f277:=Tryz.func217.trans (congrArg some (by kernel_rfl))
  t0:=Tryz.underlying0
  a0:=Tryz.isAgg0
  z0:=Tryz.sizeOf0
  v0:=Tryz.zeroValue0
  t3:=Tryz.underlying3
  a3:=Tryz.isAgg3
  z3:=Tryz.sizeOf3
  v3:=Tryz.zeroValue3
  t4:=Tryz.underlying4
  a4:=Tryz.isAgg4
  z4:=Tryz.sizeOf4
  v4:=Tryz.zeroValue4
  t5:=Tryz.underlying5
  a5:=Tryz.isAgg5
  z5:=Tryz.sizeOf5
  v5:=Tryz.zeroValue5
  t9:=Tryz.underlying9
  a9:=Tryz.isAgg9
  z9:=Tryz.sizeOf9
  v9:=Tryz.zeroValue9
  t20:=Tryz.underlying20
  a20:=Tryz.isAgg20
  z20:=Tryz.sizeOf20
  v20:=Tryz.zeroValue20
  t37:=Tryz.underlying216
  a37:=Tryz.isAgg216
  z37:=Tryz.sizeOf216
  v37:=Tryz.zeroValue216
  t46:=Tryz.underlying246
  a46:=Tryz.isAgg246
  z46:=Tryz.sizeOf246
  v46:=Tryz.zeroValue246
  t51:=Tryz.underlying280
  a51:=Tryz.isAgg280
  z51:=Tryz.sizeOf280
  v51:=Tryz.zeroValue280
  t53:=Tryz.underlying146
  a53:=Tryz.isAgg146
  z53:=Tryz.sizeOf146
  v53:=Tryz.zeroValue146
  t70:=Tryz.underlying215
  a70:=Tryz.isAgg215
  z70:=Tryz.sizeOf215
  v70:=Tryz.zeroValue215
  t72:=Tryz.underlying218
  a72:=Tryz.isAgg218
  z72:=Tryz.sizeOf218
  v72:=Tryz.zeroValue218
  t75:=Tryz.underlying220
  a75:=Tryz.isAgg220
  z75:=Tryz.sizeOf220
  v75:=Tryz.zeroValue220
  t76:=Tryz.underlying221
  a76:=Tryz.isAgg221
  z76:=Tryz.sizeOf221
  v76:=Tryz.zeroValue221
  t109:=Tryz.underlying266
  a109:=Tryz.isAgg266
  z109:=Tryz.sizeOf266
  v109:=Tryz.zeroValue266
  t127:=Tryz.underlying253
  a127:=Tryz.isAgg253
  z127:=Tryz.sizeOf253
  v127:=Tryz.zeroValue253
  t146:=Tryz.underlying281
  a146:=Tryz.isAgg281
  z146:=Tryz.sizeOf281
  v146:=Tryz.zeroValue281
  t148:=Tryz.underlying284
  a148:=Tryz.isAgg284
  z148:=Tryz.sizeOf284
  v148:=Tryz.zeroValue284
  t164:=Tryz.underlying263
  a164:=Tryz.isAgg263
  z164:=Tryz.sizeOf263
  v164:=Tryz.zeroValue263 }
def Tryz.Cq:Go.Shelf.Ren:=⟨fun| 271=>142| 120=>186| 197=>175| 260=>199|n=>n,fun| 9=>9| 21=>21| 3=>3| 4=>4| 5=>5| 105=>231| 119=>268| 0=>0| 46=>246| 139=>271| 138=>270|n=>n,fun| 3=>2| 4=>3|n=>n⟩
theorem Tryz.KF:Go.Proofs.Lays.n271 Tryz.prog Tryz.Cq:= {
  mixed:=by kernel_rfl
  f120:=Tryz.func186.trans (congrArg some (by kernel_rfl))
  f197:=Tryz.func175.trans (congrArg some (by kernel_rfl))
  f260:=Tryz.func199.trans (congrArg some (by kernel_rfl))
  f271:=Tryz.func142.trans (congrArg some (by kernel_rfl))
  t0:=Tryz.underlying0
  a0:=Tryz.isAgg0
  z0:=Tryz.sizeOf0
  v0:=Tryz.zeroValue0
  t3:=Tryz.underlying3
  a3:=Tryz.isAgg3
  z3:=Tryz.sizeOf3
  v3:=Tryz.zeroValue3
  t4:=Tryz.underlying4
  a4:=Tryz.isAgg4
  z4:=Tryz.sizeOf4
  v4:=Tryz.zeroValue4
  t5:=Tryz.underlying5
  a5:=Tryz.isAgg5
  z5:=Tryz.sizeOf5
  v5:=Tryz.zeroValue5
  t9:=Tryz.underlying9
  a9:=Tryz.isAgg9
  z9:=Tryz.sizeOf9
  v9:=Tryz.zeroValue9
  t21:=Tryz.underlying21
  a21:=Tryz.isAgg21
  z21:=Tryz.sizeOf21
  v21:=Tryz.zeroValue21
  t46:=Tryz.underlying246
  a46:=Tryz.isAgg246
  z46:=Tryz.sizeOf246
  v46:=Tryz.zeroValue246
  t105:=Tryz.underlying231
  a105:=Tryz.isAgg231
  z105:=Tryz.sizeOf231
  v105:=Tryz.zeroValue231
  t119:=Tryz.underlying268
  a119:=Tryz.isAgg268
  z119:=Tryz.sizeOf268
  t138:=Tryz.underlying270
  a138:=Tryz.isAgg270
  z138:=Tryz.sizeOf270
  v138:=Tryz.zeroValue270
  t139:=Tryz.underlying271
  a139:=Tryz.isAgg271
  z139:=Tryz.sizeOf271
  v139:=Tryz.zeroValue271
  g3:=by kernel_rfl
  g4:=by kernel_rfl }
open Go.RowKit Go.Lib in
theorem Tryz.strings_LastIndexByte (s:ByteArray) (c:Int) (hs:s.size<4611686018427387904) (w:World) :
    Calls Tryz.prog 108 #[.string s,.int .u8 c] w fun e w'=>e= .returned (.int .i64 (Lib.lastIndexByte s c))/\w'=w:=Any.strings_LastIndexByte Tryz.KI s c hs w
open Go.RowKit Go.Lib in
theorem Tryz.bits_Mul (x y:Nat) (hx:x<18446744073709551616) (hy:y<18446744073709551616) (w:World) :
    Calls Tryz.prog 206 #[.int .u64 x,.int .u64 y] w fun e w'=>e= .returned (.tuple #[.int .u64 ((x*y / 18446744073709551616:Nat):Int),.int .u64 ((x*y%18446744073709551616:Nat):Int)])/\w'=w:=Any.bits_Mul Tryz.KG x y hx hy w
open Go.RowKit Go.Lib in
theorem Tryz.strings_Repeat_zero (s:ByteArray) (w:World) :
    Calls Tryz.prog 187 #[.string s,.int .i64 0] w fun e w'=>e= .returned (.string ⟨#[]⟩)/\w'=w:=Any.strings_Repeat_zero Tryz.mc s w
open Go.RowKit Go.Lib in
theorem Tryz.strings_Repeat_one (s:ByteArray) (w:World) :
    Calls Tryz.prog 187 #[.string s,.int .i64 1] w fun e w'=>e= .returned (.string s)/\w'=w:=Any.strings_Repeat_one Tryz.mc s w
open Go.RowKit Go.Lib in
theorem Tryz.utf8_DecodeLastRuneInString (s:ByteArray) (w:World) (hs:s.size<=9223372036854775807) (hT:Lib.Utf8Tabs 2 3 w) :
    Calls Tryz.prog 142 #[.string s] w fun e w'=>e= .returned (.tuple #[.int .i32 (Lib.decodeLastL s.data.toList).1,.int .i64 (Lib.decodeLastL s.data.toList).2])/\Below w.heap.size w w':=Any.utf8_DecodeLastRuneInString Tryz.KF s w hs hT
end Go.Proofs
namespace Go.Proofs.YtpjgdgdnbkjoiaaGreatDoor
open Go.Proofs.Tryz
open Go Go.Lw
set_option maxRecDepth 20000 set_option maxHeartbeats 4000000
section
variable {s:MS}{h:ai}{fv v:Value}{O:Nat->Prop}{l:List By}
theorem Jv (l:By) (p:Nat):Utf8.decode (bs l) p=(pJ (l.drop p),aN (l.drop p)):=by
 have e:∀i,(bs l).get! i=l.getD i 0:=fun i=>by
  show (l.toArray)[i]! =_
  rw[getElem!_def,List.getElem?_toArray,List.getD_eq_getElem?_getD];cases l[i]? <;>rfl
 rw[Lib.decode_at];unfold pJ aN;rw[e,e,e,e,aF,gN,gN,gN,gN,List.length_drop];rfl
theorem rE:∀(n k:Nat) (l:By) (a:Nat),l.length<=n->l.length<=k->bf n l a=bf k l a
 | 0,0,_,_,_,_=>rfl
 | 0,k+1,l,a,h,_=>by
  have:l=[]:=List.length_eq_zero_iff.1 (by omega);rw[bf,bf,if_pos this]
 |n+1,0,l,a,_,h=>by
  have:l=[]:=List.length_eq_zero_iff.1 (by omega);rw[bf,bf,if_pos this]
 |n+1,k+1,l,a,h1,h2=>by
  rw[bf,bf]
  by_cases hl:l=[]
  · rw[if_pos hl,if_pos hl]
  · have:=cv hl;rw[if_neg hl,if_neg hl,rE n k _ _ (by rw[List.length_drop];omega) (by rw[List.length_drop];omega)]
def uj (s:By) (p:Nat):List Nat:=bf s.length (s.drop p) p
theorem zI {s:By}{p:Nat}(h:s.length<=p):uj s p=[]:=by
 unfold uj;rw[List.drop_of_length_le h];cases s.length<;>rfl
theorem wV {s:By}{p:Nat}(h:p<s.length):uj s p=p::uj s (p+aN (s.drop p))/\1<=aN (s.drop p)/\p+aN (s.drop p)<=s.length:=by
 have hne:s.drop p≠[]:=by intro e;have:=congrArg List.length e;rw[List.length_drop,List.length_nil] at this;omega
 have hr:=cv hne;have hd:(s.drop p).length=s.length-p:=List.length_drop;refine⟨?_,hr.1,by omega⟩;unfold uj;obtain⟨n,hn⟩:∃n,s.length=n+1:=⟨s.length-1,by omega⟩
 conv=>lhs;rw[hn,bf,if_neg hne,List.drop_drop]
 rw[rE n s.length _ _ (by rw[List.length_drop];omega) (by rw[List.length_drop];omega)]
theorem rB (s:By) (hs:s.length<=1000000):af Tryz.prog 88 #[.string (bs s)] h (aX fun r h'=>cg cN h' h.size 3 r (b8 s)/\ak h h'):=by
 have hbs:=aF s;refine cu ?_;refine ah ?_;refine xo rfl (az.BZ underlying9 rfl) ?_;rintro _ h1 ⟨rfl,i1,e1,z1⟩;refine ah ?_;refine nq (σ:=Nat×Value×List Nat) (fun w=>[(3,w.2.1)]) (fun w g=>iG g h.size (bs s) w.1/\cg cN g (h.size+1) 3 w.2.1 w.2.2/\Ext (fun b=>b=h.size) h1 g/\w.2.2++uj s w.1=b8 s/\w.1<=s.length/\w.2.2.length<=w.1) (fun w=>s.length-w.1) ((0,.slice none 0 0,[])) ⟨i1,cg.nil cN h1 (h.size+1) 3,Ext.refl _ _,rfl,Nat.zero_le _,Nat.le_refl _⟩ rfl ?_;rintro⟨p,v,xs⟩ g ⟨hI,hw,hx,hf,hp,hl⟩ ih
 try dsimp only
 dsimp only at hI hw hx hf hp hl;have hgz:=hx.size
 by_cases hlt:p<s.length
 · obtain⟨f1,f2,f3⟩:=wV hlt;have hz:p<(bs s).size:=by omega
   refine ah ?_;refine xo rfl (az.Fk rfl (hI) (hz)) ?_;rintro _ g1 ⟨rfl,i2,x2,z2⟩;rw[Jv] at *;refine ah ?_;refine mX rfl (by simp) ?_;have hw1:cg cN g1 (h.size+1) 3 v xs:=ax.ext x2 hw (fun b hb k=>by have:=ax.lt hw hb;omega);refine ah ?_;refine xo rfl (sO [_]) ?_;rintro _ _ ⟨rfl,rfl⟩;refine xo rfl (E1 rfl rfl hw1 rfl rfl) ?_;rintro v2 g2 ⟨ho2,hx2,hx2',hv2⟩;refine ah ?_;have i3:=i2.ext hx2 (fun k=>by have:=ax.lt hw1 (b:=h.size) k.symm;omega);have ho2:cg cN g2 (h.size+1) 3 v2 (xs++[p]):=cg.of ho2 rfl rfl rfl;exact ih (p+aN (s.drop p),v2,xs++[p]) ⟨i3,ho2,(hx.trans x2).P5 hx2 (fun b hb k=>by have:=ax.lt hw1 (b:=b) k.symm;omega),by rw[List.append_assoc,List.singleton_append,<-f1];exact hf,f3,by rw[List.length_append];simp only[List.length_cons,List.length_nil];omega⟩
 · refine ah ?_;refine xo rfl (az.Fl rfl (hI) ((by omega))) ?_;rintro _ g1 ⟨rfl,rfl⟩;refine ah ?_;refine mQ rfl (by simp) ?_;refine ah ?_;refine bE ?_;rw[zI (by omega),List.append_nil] at hf;subst hf;exact⟨_,rfl,hw.lower (by omega),ak.only e1 hx (Nat.le_refl _)⟩
theorem Eu (hg:kF h) (l:By) (hl:l≠[]):af Tryz.prog 175 #[.string (bs l)] h (aX fun r h'=>r= .tuple #[.int .i32 (pJ l:Nat),.int .i64 (aN l:Nat)]/\ak h h'):=by
 refine af.oY fun w hw=>?_
 subst hw;have hT:Lib.Utf8Tabs 2 3 w:=⟨fun c hc=>by rw[cE];exact hg.utf.1 c hc,fun i hi=>⟨by rw[cE];exact(hg.utf.2 i hi).1,by rw[cE];exact(hg.utf.2 i hi).2⟩⟩
 refine(Tryz.utf8_DecodeRuneInString (bs l) w hT).mono ?_;rintro e w' ⟨rfl,hb⟩
 have hn:Lib.decodeGo (bs l)=(pJ l,aN l):=by
  have h0:¬(bs l).size=0:=by rw[aF];have:=List.length_pos_iff.2 hl;omega
  unfold Lib.decodeGo;rw[if_neg h0,Lib.decode_N,jr];rfl
 rw[hn];exact⟨_,rfl,⟨rfl,⟨hb.size,fun b hlt _=>hb.block b hlt⟩⟩,hb.os,hb.tape,hb.output⟩
theorem Ev (hg:kF h) (l:By) (hl:l.length<=1000000):af Tryz.prog 142 #[.string (bs l)] h (aX fun r h'=>r= .tuple #[.int .i32 ((Lib.decodeLastL l).1:Nat),.int .i64 ((Lib.decodeLastL l).2:Nat)]/\ak h h'):=by
 refine af.oY fun w hw=>?_
 subst hw;have hT:Lib.Utf8Tabs 2 3 w:=⟨fun c hc=>by rw[cE];exact hg.utf.1 c hc,fun i hi=>⟨by rw[cE];exact(hg.utf.2 i hi).1,by rw[cE];exact(hg.utf.2 i hi).2⟩⟩
 refine(Tryz.utf8_DecodeLastRuneInString (bs l) w (by rw[aF];omega) hT).mono ?_;rintro e w' ⟨rfl,hb⟩;rw[jr];exact⟨_,rfl,⟨rfl,⟨hb.size,fun b hlt _=>hb.block b hlt⟩⟩,hb.os,hb.tape,hb.output⟩
def nU (s:By) (a:Nat) (b:Bool):Value:=if a=s.length then .tuple #[.int .i32 0,.int .i64 0,.bool false] else .tuple #[.int .i32 (pJ (s.drop a):Nat),.int .i64 (aN (s.drop a):Nat),.bool b]
def oH (s:By) (a:Nat) (b:Bool):Value:=if a=0 then .tuple #[.int .i32 0,.int .i64 0,.bool false] else .tuple #[.int .i32 ((Lib.decodeLastL (s.take a)).1:Nat),.int .i64 ((Lib.decodeLastL (s.take a)).2:Nat),.bool b]
theorem zq (hg:kF h) (s:By) (a:Nat) (ha:a<=s.length):af Tryz.prog 124 #[.string (bs s),.int .i64 (a:Nat)] h (aX fun r h'=>(∃b,r=nU s a b)/\ak h h'):=by
 have hbs:=aF s;refine cu ?_;refine bZ ?_;refine eu ?_
 iterate 3 refine b7 ?_
 refine fu ?_
 iterate 2 refine bZ ?_
 refine jR [(14,.bool (decide (a=s.length)))] rfl ?_ ?_
 · refine ah ?_;refine RW.dK (d:=9) (b':=false) rfl (by rw[decide_eq_false];omega) ?_;refine ah ?_;exact bq rfl ⟨aq rfl (by rw[decide_eq_decide];omega),sb rfl⟩
 · refine bN (fun hc=>?_) (fun hc=>?_)
   · refine ah ?_;refine bE ?_;exact⟨_,rfl,⟨false,by unfold nU;rw[if_pos hc];rfl⟩,Ext.refl _ _⟩
   · have hne:s.drop a≠[]:=by intro e;have:=congrArg List.length e;rw[List.length_drop,List.length_nil] at this;omega
     refine ah ?_;refine xp rfl (an.eE underlying9 rfl rfl a (by omega) (by omega)) ?_;rw[js s a];refine xo rfl (bl rfl (Eu hg (s.drop a) hne)) ?_;rintro _ h1 ⟨rfl,e1⟩
     iterate 5 refine b7 ?_
     refine fu ?_;refine bZ ?_;refine jR [(4,.int .i32 (pJ (s.drop a):Nat)),(5,.int .i64 (aN (s.drop a):Nat)),(6,.bool (decide (¬((pJ (s.drop a):Nat):Int)=65533\/(1:Int)<((aN (s.drop a):Nat):Int))))] rfl ?_ ?_
     · refine ah ?_;refine gU 26 (fun c1=>?_) (fun c1=>?_)
       · have c1:=of_decide_eq_true c1;refine ah ?_;exact bq rfl ⟨rfl,rfl,aq rfl (by rw[decide_eq_true (Or.inl c1)]),sb rfl⟩
       · have c1:=of_decide_eq_false c1;refine ah ?_;exact bq rfl ⟨rfl,rfl,aq rfl (by simp only[decide_eq_decide];exact⟨fun q=>.inr q,fun q=>q.resolve_left c1⟩),sb rfl⟩
     · refine bE ?_;exact⟨_,rfl,⟨_,by unfold nU;rw[if_neg hc];rfl⟩,e1⟩
theorem zR (hg:kF h) (s:By) (a:Nat) (ha:a<=s.length) (hs:s.length<=1000000):af Tryz.prog 91 #[.string (bs s),.int .i64 (a:Nat)] h (aX fun r h'=>(∃b,r=oH s a b)/\ak h h'):=by
 have hbs:=aF s;refine cu ?_;refine bZ ?_;refine eu ?_
 iterate 3 refine b7 ?_
 refine fu ?_
 iterate 2 refine bZ ?_
 refine jR [(14,.bool (decide (a=0)))] rfl ?_ ?_
 · refine ah ?_;refine gU 9 (fun c1=>?_) (fun c1=>?_)
   · have c1:=of_decide_eq_true c1;refine ah ?_;exact bq rfl ⟨aq rfl (by rw[decide_eq_true];omega),sb rfl⟩
   · have c1:=of_decide_eq_false c1;refine ah ?_;exact bq rfl ⟨aq rfl (by rw[decide_eq_decide];omega),sb rfl⟩
 · refine bN (fun hc=>?_) (fun hc=>?_)
   · refine ah ?_;refine bE ?_;exact⟨_,rfl,⟨false,by unfold oH;rw[if_pos hc];rfl⟩,Ext.refl _ _⟩
   · refine ah ?_;refine xp rfl (an.iw underlying9 rfl rfl a (by omega) (by omega)) ?_;rw[jq s 0 a (Nat.zero_le _),List.drop_zero];refine xo rfl (bl rfl (Ev hg (s.take a) (by rw[List.length_take];omega))) ?_;rintro _ h1 ⟨rfl,e1⟩
     iterate 5 refine b7 ?_
     refine fu ?_;refine bZ ?_;refine jR [(4,.int .i32 ((Lib.decodeLastL (s.take a)).1:Nat)),(5,.int .i64 ((Lib.decodeLastL (s.take a)).2:Nat)),(6,.bool (decide (¬(((Lib.decodeLastL (s.take a)).1:Nat):Int)=65533\/(1:Int)<(((Lib.decodeLastL (s.take a)).2:Nat):Int))))] rfl ?_ ?_
     · refine ah ?_;refine gU 26 (fun c1=>?_) (fun c1=>?_)
       · have c1:=of_decide_eq_true c1;refine ah ?_;exact bq rfl ⟨rfl,rfl,aq rfl (by rw[decide_eq_true (Or.inl c1)]),sb rfl⟩
       · have c1:=of_decide_eq_false c1;refine ah ?_;exact bq rfl ⟨rfl,rfl,aq rfl (by simp only[decide_eq_decide];exact⟨fun q=>.inr q,fun q=>q.resolve_left c1⟩),sb rfl⟩
     · refine bE ?_;exact⟨_,rfl,⟨_,by unfold oH;rw[if_neg hc];rfl⟩,e1⟩
theorem GW (l:List Nat) (a:Int) (i x:Nat) (h:l[i]? =some x):(l.take (i+1)).foldl (fun(o k:Nat)=>if (k:Int)<=a then k else o) 0=if (x:Int)<=a then x else (l.take i).foldl (fun(o k:Nat)=>if (k:Int)<=a then k else o) 0:=by
 rw[List.take_add_one,h,Option.toList_some,List.foldl_append];rfl
theorem lF (s:By) (a:Int) (hs:s.length<=1000000):af Tryz.prog 42 #[.string (bs s),.int .i64 a] h (aX fun r h'=>r= .int .i64 (fG s a:Nat)/\ak h h'):=by
 have hbs:=aF s;refine cu ?_;refine ah ?_;refine bN (fun c=>?_) (fun c=>?_)
 · refine ah ?_;refine bE ?_;have e:fG s a=s.length:=by unfold fG;rw[if_pos (by omega)]
   exact⟨_,rfl,congrArg (Value.int .i64) (by rw[e,hbs]),Ext.refl _ _⟩
 · refine ah ?_;refine xo rfl (bl rfl (rB s hs)) ?_;rintro v g ⟨hw,e1⟩;have hr:bC ic g (fun _=>False) v (b8 s):=hw.read (fun _ _ k=>k);obtain⟨oa,n,cp,rfl,hsl⟩:=hr.open;have hn:=hsl.len;subst hn;have hcap:=hsl.cap;have hle:=hsl.le;unfold maxLen at hcap;refine ah ?_;refine nq (σ:=Nat) (fun i=>[(5,.int .i64 (((b8 s).take i).foldl (fun(o k:Nat)=>if (k:Int)<=a then k else o) 0:Nat)),(17,.int .i64 (i:Nat))]) (fun i g'=>g'=g/\i<=(b8 s).length) (fun i=>(b8 s).length-i) (0) ⟨rfl,Nat.zero_le _⟩ rfl ?_;rintro i g' ⟨rfl,hi⟩ ih;refine ah ?_;refine bN (fun hlt=>?_) (fun hlt=>?_)
   · have hil:i<(b8 s).length:=by omega
     obtain⟨b,o,x,ha,_,hx,hc⟩:=hsl.at hil;have hst:=GW (b8 s) a i x hx
     iterate 4 refine bZ ?_
     refine eu ?_;refine xp rfl (eK rfl rfl i rfl ha) ?_;refine xp rfl (aM rfl hc) ?_;refine ah ?_;refine bN (fun hk=>?_) (fun hk=>?_)
     · refine ah ?_;rw[if_pos hk] at hst;rw[<-hst];exact ih (i+1) ⟨rfl,by omega⟩
     · refine ah ?_;rw[if_neg hk] at hst;rw[<-hst];exact ih (i+1) ⟨rfl,by omega⟩
   · refine ah ?_;refine bE ?_;have hil:i=(b8 s).length:=by omega
     have e:fG s a=(b8 s).foldl (fun(o k:Nat)=>if (k:Int)<=a then k else o) 0:=by unfold fG;rw[if_neg (by omega)]
     exact⟨_,rfl,congrArg (Value.int .i64) (by rw[e,hil,List.take_length]),e1⟩
theorem wg (s:By) (a:Nat) (ha:a<=s.length):af Tryz.prog 106 #[.string (bs s),.int .i64 (a:Nat)] h (aX fun r h'=>r= .int .i64 (a:Nat)/\h'=h):=by
 have hbs:=aF s;refine cu ?_;refine ah ?_;refine bE ?_;exact⟨_,rfl,congrArg (Value.int .i64) (by rw[hbs];(repeat' split)<;>omega),rfl⟩
theorem wJ (l:By):∀n,n<=l.length->Lib.lastIdx (bs l) 10 n+1=(iU (l.take n) 0 0:Nat)
 | 0,_=>by simp[Lib.lastIdx,iU]
 |n+1,h=>by
  have key:∀(x:By) (c:UInt8) (k o:Nat),iU (x++[c]) k o=if c=10 then k+x.length+1 else iU x k o:=by
   intro x
   induction x with
   |nil=>intro c k o;simp[iU]
   |cons b x ih=>intro c k o;rw[List.cons_append,iU,ih,iU,List.length_cons];split;(omega);(rfl)
  have hx:l[n]? =some l[n]:=List.getElem?_eq_getElem (by omega);rw[Lib.lastIdx,List.take_add_one,hx,Option.toList_some,key,List.length_take,Nat.min_eq_left (by omega)]
  have hb:(bs l).data[n]! =l[n]:=by
   show (l.toArray)[n]! =_
   rw[getElem!_pos _ _ (by rw[List.size_toArray];omega)];simp
  rw[hb];have e10:((l[n].toNat:Int)=10)↔l[n]=10:=⟨fun e=>UInt8.toNat_inj.1 (by show _=10;omega),fun e=>by rw[e];rfl⟩
  by_cases hc:l[n]=10
  · rw[if_pos (e10.2 hc),if_pos hc];omega
  · rw[if_neg (fun e=>hc (e10.1 e)),if_neg hc];exact wJ l n (by omega)
theorem Cy (l:By) (hl:l.length<=1000000):af Tryz.prog 108 #[.string (bs l),.int .u8 10] h (aX fun r h'=>r= .int .i64 (Lib.lastIndexByte (bs l) 10)/\h'=h) :=
 af.AH fun w=>Tryz.strings_LastIndexByte (bs l) 10 (by rw[aF];omega) w
theorem fJ (s:By) (a:Nat) (ha:a<=s.length) (hs:s.length<=1000000):af Tryz.prog 46 #[.string (bs s),.int .i64 (a:Nat)] h (aX fun r h'=>r= .int .i64 (aW s a:Nat)/\h'=h):=by
 have hbs:=aF s;have hsl:=gL s a;have hl:=wJ (s.take a) (s.take a).length (Nat.le_refl _);rw[List.take_length] at hl;have hd:Lib.lastIndexByte (bs (s.take a)) 10=Lib.lastIdx (bs (s.take a)) 10 (s.take a).length:=by unfold Lib.lastIndexByte;rw[aF]
 have he:Lib.lastIndexByte (bs (s.take a)) 10+1=(aW s a:Nat):=by rw[hd];exact hl
 refine cu ?_;refine ah ?_;refine xo rfl (bl rfl (wg s a ha)) ?_;rintro _ h ⟨rfl,rfl⟩;refine xp rfl (an.iw underlying9 rfl rfl a (by omega) (by omega)) ?_;rw[jq s 0 a (Nat.zero_le _),List.drop_zero];refine xo rfl (bl rfl (Cy (s.take a) (by rw[List.length_take];omega))) ?_;rintro _ h ⟨rfl,rfl⟩;refine ah ?_;refine bE ?_;exact⟨_,rfl,congrArg (Value.int .i64) he,rfl⟩
theorem zH:∀l:By,Lib.indexByte l 10=if (l.takeWhile (fun c=>decide (c≠10))).length=l.length then -1 else ((l.takeWhile (fun c=>decide (c≠10))).length:Int)
 | []=>rfl
 |b::l=>by
  have ih:=zH l;have hle:=List.Sublist.length_le (List.takeWhile_sublist (fun c:UInt8=>decide (c≠10)) (l:=l));rw[Lib.indexByte]
  by_cases hb:b=10
  · subst hb;simp
  · have hbeq:(b ==10)=false:=by simpa using hb
    rw[hbeq,List.takeWhile_cons,if_pos (decide_eq_true hb),List.length_cons,List.length_cons,ih];simp only[Bool.false_eq_true,if_false];generalize (l.takeWhile (fun c=>decide (c≠10))).length=k at hle ⊢
    by_cases hq:k=l.length
    · rw[if_pos hq,if_pos (show ((-1:Int) == -1)=true from rfl),if_pos (by omega)]
    · have hne:((k:Int) == -1)=false:=by rw[beq_eq_false_iff_ne];omega
      rw[if_neg hq,hne];simp only[Bool.false_eq_true,if_false];rw[if_neg (by omega)];omega
theorem iA (s:By) (a:Nat) (ha:a<=s.length) (hs:s.length<=1000000):af Tryz.prog 45 #[.string (bs s),.int .i64 (a:Nat)] h (aX fun r h'=>r= .int .i64 (eI s a:Nat)/\h'=h):=by
 have hbs:=aF s;have hel:=mz ha;have hi:=zH (s.drop a);have hd:(s.drop a).length=s.length-a:=List.length_drop;have hle:=List.Sublist.length_le (List.takeWhile_sublist (fun c:UInt8=>decide (c≠10)) (l:=s.drop a));have hc:=iW (h:=h) (bs (s.drop a)) 10;rw[jr,show (10:Int).toNat.toUInt8=10 from rfl,hi] at hc;have hee:eI s a=a+((s.drop a).takeWhile (fun c=>decide (c≠10))).length:=rfl;generalize ((s.drop a).takeWhile (fun c=>decide (c≠10))).length=k at *;refine cu ?_;refine ah ?_;refine xo rfl (bl rfl (wg s a ha)) ?_;rintro _ h ⟨rfl,rfl⟩;refine ah ?_;refine xp rfl (an.eE underlying9 rfl rfl a (by omega) (by omega)) ?_;rw[js s a];refine xo rfl (bl rfl hc) ?_;rintro _ h ⟨rfl,rfl⟩;refine ah ?_;refine bN (fun hq=>?_) (fun hq=>?_)
 · have hk:¬k=(s.drop a).length:=fun e=>by rw[if_pos e] at hq;omega
   refine bZ ?_;refine eu ?_
   iterate 2 refine b7 ?_
   refine xp rfl (an.dm rfl rfl ⟨by rw[if_neg hk];omega,by rw[if_neg hk];omega⟩) ?_;refine ah ?_;refine bE ?_;exact⟨_,rfl,congrArg (Value.int .i64) (by rw[hee,if_neg hk];omega),rfl⟩
 · have hk:k=(s.drop a).length:=by
    by_cases e:k=(s.drop a).length
    · exact e
    · rw[if_neg e] at hq;omega
   refine ah ?_;refine bE ?_;exact⟨_,rfl,congrArg (Value.int .i64) (by rw[hbs,hee];omega),rfl⟩
theorem lY (s:By) (a:Nat) (hs:s.length<=1000000) (ha:a<=s.length):af Tryz.prog 195 #[.string (bs s),.int .i64 (a:Nat)] h (aX fun r h'=>r= .int .i64 (dF s a:Nat)/\ak h h'):=by
 have hbs:=aF s;refine cu ?_;refine ah ?_;refine xo rfl (az.BZ underlying9 rfl) ?_;rintro _ h1 ⟨rfl,i1,e1,z1⟩;refine ah ?_;refine nq (σ:=Nat×Nat) (fun w=>[(5,.int .i64 (w.2:Nat))]) (fun w g=>iG g h.size (bs s) w.1/\Ext (fun b=>b=h.size) h1 g/\w.2+((uj s w.1).takeWhile (fun k=>decide (k<a))).length=dF s a/\w.1<=s.length/\w.2<=w.1) (fun w=>s.length-w.1) ((0,0)) ⟨i1,Ext.refl _ _,by rw[Nat.zero_add];rfl,Nat.zero_le _,Nat.le_refl _⟩ rfl ?_;rintro⟨p,n⟩ g ⟨hI,hx,hf,hp,hl⟩ ih
 try dsimp only
 dsimp only at hI hx hf hp hl;have hgz:=hx.size
 by_cases hlt:p<s.length
 · obtain⟨f1,f2,f3⟩:=wV hlt;have hz:p<(bs s).size:=by omega
   refine ah ?_;refine xo rfl (az.Fk rfl (hI) (hz)) ?_;rintro _ g1 ⟨rfl,i2,x2,z2⟩;rw[Jv] at *;refine ah ?_;refine mX rfl (by simp) ?_;refine ah ?_;rw[f1,List.takeWhile_cons] at hf;refine bN (fun hpa=>?_) (fun hpa=>?_)
   · refine ah ?_;refine bE ?_;rw[if_neg (by rw[decide_eq_true_eq];omega)] at hf;exact⟨_,rfl,congrArg (Value.int .i64) (by rw[<-hf];rfl),ak.only e1 (hx.trans x2) (Nat.le_refl _)⟩
   · refine ah ?_;rw[if_pos (by rw[decide_eq_true_eq];omega),List.length_cons] at hf;exact ih (p+aN (s.drop p),n+1) ⟨i2,hx.trans x2,by show n+1+(List.takeWhile (fun k=>decide (k<a)) (uj s (p+aN (s.drop p)))).length=dF s a;omega,f3,by show n+1<=p+aN (s.drop p);omega⟩
 · refine ah ?_;refine xo rfl (az.Fl rfl (hI) ((by omega))) ?_;rintro _ g1 ⟨rfl,rfl⟩;refine ah ?_;refine mQ rfl (by simp) ?_;refine ah ?_;refine bE ?_;rw[zI (by omega)] at hf;exact⟨_,rfl,congrArg (Value.int .i64) (by rw[<-hf];rfl),ak.only e1 hx (Nat.le_refl _)⟩
theorem vR (s:By) (n:Int) (hs:s.length<=1000000):af Tryz.prog 196 #[.string (bs s),.int .i64 n] h (aX fun r h'=>r= .int .i64 (kJ s n:Nat)/\ak h h'):=by
 have hbs:=aF s;refine cu ?_;refine ah ?_;refine xo rfl (bl rfl (rB s hs)) ?_;rintro v g ⟨hw,e1⟩;have hr:bC ic g (fun _=>False) v (b8 s):=hw.read (fun _ _ k=>k);obtain⟨oa,k,cp,rfl,hsl⟩:=hr.open;have hn:=hsl.len;subst hn;have hcap:=hsl.cap;have hle:=hsl.le;unfold maxLen at hcap;refine ah ?_;refine bN (fun c1=>?_) (fun c1=>?_)
 · refine ah ?_;refine bE ?_;exact⟨_,rfl,congrArg (Value.int .i64) (by unfold kJ;rw[if_pos c1];rfl),e1⟩
 · refine ah ?_;refine bN (fun c2=>?_) (fun c2=>?_)
   · refine ah ?_;refine bE ?_;exact⟨_,rfl,congrArg (Value.int .i64) (by unfold kJ;rw[if_neg c1,List.getD_eq_getElem?_getD,List.getElem?_eq_none (by omega),hbs];rfl),e1⟩
   · obtain⟨m,rfl⟩:∃m:Nat,n=m:=⟨n.toNat,by omega⟩
     have hm:m<(b8 s).length:=by omega
     obtain⟨b,o,x,ha,_,hx,hc⟩:=hsl.at hm
     iterate 3 refine bZ ?_
     refine eu ?_
     iterate 2 refine b7 ?_
     refine xp rfl (eK rfl rfl m rfl ha) ?_;refine xp rfl (aM rfl hc) ?_;refine ah ?_;refine bE ?_;exact⟨_,rfl,congrArg (Value.int .i64) (by unfold kJ;rw[if_neg c1,List.getD_eq_getElem?_getD,Int.toNat_natCast,hx];rfl),e1⟩
theorem uz (r:Nat):af Tryz.prog 198 #[.int .i32 (r:Nat)] h (aX fun v h'=>v= .int .i64 (yG r)/\h'=h):=by
 refine cu ?_;refine bZ ?_;refine eu ?_;refine b7 ?_;refine fu ?_
 iterate 3 refine bZ ?_
 refine jR [(3,.bool (decide (r=32\/r=9\/r=10\/r=13)))] rfl ?_ ?_
 · refine ah ?_;refine gU 6 (fun c1=>?_) (fun c1=>?_)
   · have c1:=of_decide_eq_true c1;refine ah ?_;exact bq rfl ⟨aq rfl (by rw[decide_eq_true (by omega)]),sb rfl⟩
   · have c1:=of_decide_eq_false c1;refine ah ?_;refine gU 10 (fun c2=>?_) (fun c2=>?_)
     · have c2:=of_decide_eq_true c2;refine ah ?_;exact bq rfl ⟨aq rfl (by rw[decide_eq_true (by omega)]),sb rfl⟩
     · have c2:=of_decide_eq_false c2;refine ah ?_;refine gU 14 (fun c3=>?_) (fun c3=>?_)
       · have c3:=of_decide_eq_true c3;refine ah ?_;exact bq rfl ⟨aq rfl (by rw[decide_eq_true (by omega)]),sb rfl⟩
       · have c3:=of_decide_eq_false c3;refine ah ?_;exact bq rfl ⟨aq rfl (by rw[decide_eq_decide];omega),sb rfl⟩
 · refine bN (fun d0=>?_) (fun d0=>?_)
   · refine ah ?_;refine bE ?_;exact⟨_,rfl,congrArg (Value.int .i64) (by unfold yG;rw[if_pos d0]),rfl⟩
   · iterate 2 refine bZ ?_
     refine jR [(18,.bool (decide (48<=r/\r<=57)))] rfl ?_ ?_
     · refine ah ?_;refine gU 21 (fun c=>?_) (fun c=>?_)
       · have c:=of_decide_eq_true c;refine ah ?_;exact bq rfl ⟨aq rfl (by rw[decide_eq_decide];omega),sb rfl⟩
       · have c:=of_decide_eq_false c;refine ah ?_;exact bq rfl ⟨aq rfl (by rw[decide_eq_false (by omega)]),sb rfl⟩
     · refine bN (fun d1=>?_) (fun d1=>?_)
       · refine ah ?_;refine mX rfl (by simp;omega) ?_;refine ah ?_;refine bE ?_;exact⟨_,rfl,congrArg (Value.int .i64) (by unfold yG;rw[if_neg d0,if_pos (by omega)]),rfl⟩
       · refine bZ ?_;refine jR [(18,.bool (decide (65<=r/\r<=90)))] rfl ?_ ?_
         · refine ah ?_;refine gU 27 (fun c=>?_) (fun c=>?_)
           · have c:=of_decide_eq_true c;refine ah ?_;exact bq rfl ⟨aq rfl (by rw[decide_eq_decide];omega),sb rfl⟩
           · have c:=of_decide_eq_false c;refine ah ?_;exact bq rfl ⟨aq rfl (by rw[decide_eq_false (by omega)]),sb rfl⟩
         · refine bN (fun d2=>?_) (fun d2=>?_)
           · refine ah ?_;refine mX rfl (by simp;omega) ?_;refine ah ?_;refine bE ?_;exact⟨_,rfl,congrArg (Value.int .i64) (by unfold yG;rw[if_neg d0,if_pos (by omega)]),rfl⟩
           · refine bZ ?_;refine jR [(18,.bool (decide (97<=r/\r<=122)))] rfl ?_ ?_
             · refine ah ?_;refine gU 33 (fun c=>?_) (fun c=>?_)
               · have c:=of_decide_eq_true c;refine ah ?_;exact bq rfl ⟨aq rfl (by rw[decide_eq_decide];omega),sb rfl⟩
               · have c:=of_decide_eq_false c;refine ah ?_;exact bq rfl ⟨aq rfl (by rw[decide_eq_false (by omega)]),sb rfl⟩
             · refine bN (fun d3=>?_) (fun d3=>?_)
               · refine ah ?_;refine mX rfl (by simp;omega) ?_;refine ah ?_;refine bE ?_;exact⟨_,rfl,congrArg (Value.int .i64) (by unfold yG;rw[if_neg d0,if_pos (by omega)]),rfl⟩
               · refine ah ?_;refine bN (fun d4=>?_) (fun d4=>?_)
                 · refine ah ?_;refine mX rfl (by simp;omega) ?_;refine ah ?_;refine bE ?_;exact⟨_,rfl,congrArg (Value.int .i64) (by unfold yG;rw[if_neg d0,if_pos (by omega)]),rfl⟩
                 · refine ah ?_;refine bN (fun d5=>?_) (fun d5=>?_)
                   · refine ah ?_;refine bE ?_;exact⟨_,rfl,congrArg (Value.int .i64) (by unfold yG;rw[if_neg d0,if_pos (by omega)]),rfl⟩
                   · refine ah ?_;refine bE ?_;exact⟨_,rfl,congrArg (Value.int .i64) (by unfold yG;rw[if_neg d0,if_neg (by omega)]),rfl⟩
theorem qB (hg:kF h) (s:By) (a:Nat) (ha:a<=s.length) (hs:s.length<=1000000):af Tryz.prog 162 #[.string (bs s),.int .i64 (a:Nat)] h (aX fun r h'=>r= .int .i64 (ij s a:Nat)/\ak h h'):=by
 have hc:=zR hg s a ha hs;refine cu ?_;refine ah ?_;refine xo rfl (bl rfl hc) ?_;rintro v h1 ⟨⟨b,rfl⟩,e1⟩
 rcases Nat.eq_zero_or_pos a with h0|h0
 · subst h0;have hv:oH s 0 b= .tuple #[.int .i32 0,.int .i64 0,.bool false]:=by unfold oH;rw[if_pos rfl]
   rw[hv];refine ah ?_;refine bE ?_;exact⟨_,rfl,rfl,e1⟩
 · have hv:oH s a b= .tuple #[.int .i32 ((Lib.decodeLastL (s.take a)).1:Nat),.int .i64 ((Lib.decodeLastL (s.take a)).2:Nat),.bool b]:=by unfold oH;rw[if_neg (by omega)]
   have hl:=wK (s.take a) (by intro e;have:=congrArg List.length e;rw[List.length_take,List.length_nil] at this;omega);rw[List.length_take] at hl;rw[hv];refine ah ?_;refine bE ?_;exact⟨_,rfl,congrArg (Value.int .i64) (by unfold ij;rw[if_neg (by omega)];omega),e1⟩
theorem nO (hg:kF h) (s:By) (a:Nat) (ha:a<=s.length) (hs:s.length<=1000000):af Tryz.prog 163 #[.string (bs s),.int .i64 (a:Nat)] h (aX fun r h'=>r= .int .i64 (cw s a:Nat)/\ak h h'):=by
 have hc:=zq hg s a ha;refine cu ?_;refine ah ?_;refine xo rfl (bl rfl hc) ?_;rintro v h1 ⟨⟨b,rfl⟩,e1⟩
 rcases Nat.lt_or_ge a s.length with h0|h0
 · have hv:nU s a b= .tuple #[.int .i32 (pJ (s.drop a):Nat),.int .i64 (aN (s.drop a):Nat),.bool b]:=by unfold nU;rw[if_neg (by omega)]
   have hl:=oW (s.drop a);rw[hv];refine ah ?_;refine bE ?_;exact⟨_,rfl,congrArg (Value.int .i64) (by unfold cw;rw[if_neg (by omega)];omega),e1⟩
 · have hv:nU s a b= .tuple #[.int .i32 0,.int .i64 0,.bool false]:=by unfold nU;rw[if_pos (by omega)]
   rw[hv];refine ah ?_;refine bE ?_;exact⟨_,rfl,congrArg (Value.int .i64) (by unfold cw;rw[if_pos h0];omega),e1⟩
theorem mq (hg:kF h) (s:By) (a:Nat) (ha:a<=s.length) (hs:s.length<=1000000):af Tryz.prog 170 #[.string (bs s),.int .i64 (a:Nat)] h (aX fun r h'=>r= .int .i64 (eR s a)/\ak h h'):=by
 have hc:=zq hg s a ha;refine cu ?_;refine ah ?_;refine xo rfl (bl rfl hc) ?_;rintro v h1 ⟨⟨b,rfl⟩,e1⟩
 rcases Nat.lt_or_ge a s.length with h0|h0
 · have hv:nU s a b= .tuple #[.int .i32 (pJ (s.drop a):Nat),.int .i64 (aN (s.drop a):Nat),.bool b]:=by unfold nU;rw[if_neg (by omega)]
   have hl:=cv (l:=s.drop a) (by intro e;have:=congrArg List.length e;rw[List.length_drop,List.length_nil] at this;omega);rw[hv];refine ah ?_;refine mQ rfl (by simp;omega) ?_;refine ah ?_;refine xo rfl (bl rfl (uz (pJ (s.drop a)))) ?_;rintro _ h1 ⟨rfl,rfl⟩;refine ah ?_;refine bE ?_;exact⟨_,rfl,congrArg (Value.int .i64) (by unfold eR;rw[if_neg (by omega)]),e1⟩
 · have hv:nU s a b= .tuple #[.int .i32 0,.int .i64 0,.bool false]:=by unfold nU;rw[if_pos (by omega)]
   rw[hv];refine ah ?_;refine mX rfl (by simp) ?_;refine ah ?_;refine bE ?_;exact⟨_,rfl,congrArg (Value.int .i64) (by unfold eR;rw[if_pos h0]),e1⟩
theorem oJ (hg:kF h) (s:By) (a:Nat) (ha:a<=s.length) (hs:s.length<=1000000):af Tryz.prog 172 #[.string (bs s),.int .i64 (a:Nat)] h (aX fun r h'=>r= .int .i64 (fU s a)/\ak h h'):=by
 have hc:=zR hg s a ha hs;refine cu ?_;refine ah ?_;refine xo rfl (bl rfl hc) ?_;rintro v h1 ⟨⟨b,rfl⟩,e1⟩
 rcases Nat.eq_zero_or_pos a with h0|h0
 · have hv:oH s a b= .tuple #[.int .i32 0,.int .i64 0,.bool false]:=by unfold oH;rw[if_pos h0]
   rw[hv];refine ah ?_;refine mX rfl (by simp) ?_;refine ah ?_;refine bE ?_;exact⟨_,rfl,congrArg (Value.int .i64) (by unfold fU;rw[if_pos (.inl h0)]),e1⟩
 · have hv:oH s a b= .tuple #[.int .i32 ((Lib.decodeLastL (s.take a)).1:Nat),.int .i64 ((Lib.decodeLastL (s.take a)).2:Nat),.bool b]:=by unfold oH;rw[if_neg (by omega)]
   have hl:=wK (s.take a) (by intro e;have:=congrArg List.length e;rw[List.length_take,List.length_nil] at this;omega);rw[hv];refine ah ?_;refine mQ rfl (by simp;omega) ?_;refine ah ?_;refine xo rfl (bl rfl (uz ((Lib.decodeLastL (s.take a)).1))) ?_;rintro _ h1 ⟨rfl,rfl⟩;refine ah ?_;refine bE ?_;exact⟨_,rfl,congrArg (Value.int .i64) (by unfold fU;rw[if_neg (by omega)]),e1⟩
def EO (h:ai) (fv:Value) (so:Int->Bool):Prop:=∃g caps,fv= .func (.func g) #[] caps.toArray/\Nb Tryz.prog g/\∀(c:Int) (h':ai),ak h h'->af Tryz.prog g ([.int .i64 c]++caps).toArray h' (aX fun r h''=>r= .bool (so c)/\ak h' h'')
theorem fB (hg:kF h) (s:By) (a:Nat) (ha:a<=s.length) (hs:s.length<=1000000){so:Int->Bool}(hf:EO h fv so):af Tryz.prog 165 #[.string (bs s),.int .i64 (a:Nat),fv] h (aX fun r h'=>r= .int .i64 (cI so s a:Nat)/\ak h h'):=by
 obtain⟨g0,caps,rfl,hok,hcal⟩:=hf;refine cu ?_;refine ah ?_;refine nq (σ:=Nat) (fun p=>[(1,.int .i64 (p:Nat))]) (fun p g=>ak h g/\p<=s.length/\cI so s p=cI so s a) (fun p=>s.length-p) (a) ⟨Ext.refl _ _,ha,rfl⟩ rfl ?_;rintro p g ⟨e0,hp,hsk⟩ ih
 iterate 2 refine bZ ?_
 refine O9 (fun(_u:Unit) (h':ai)=>ak g h') (fun(_u:Unit)=>[(17,.bool (decide (0<=eR s p/\so (eR s p)=true)))]) rfl ?_ ?_
 · refine ah ?_;refine xo rfl (bl rfl (mq (hg.aj e0) s p hp hs)) ?_;rintro _ g1 ⟨rfl,e1⟩;refine ah ?_;refine gU 11 (fun c=>?_) (fun c=>?_)
   · have c:=of_decide_eq_true c;refine ah ?_;refine xo rfl (bl rfl (mq (hg.aj (e0.trans e1)) s p hp hs)) ?_;rintro _ g2 ⟨rfl,e2⟩;refine xo rfl (az.JB (vs:=[_]) rfl hok rfl (af.cD (hcal (eR s p) g2 ((e0.trans e1).trans e2)))) ?_;rintro _ g3 ⟨rfl,e3⟩;refine ah ?_;exact FX () ((e1.trans e2).trans e3) ⟨aq rfl (by simp[c]),sb rfl⟩
   · have c:=of_decide_eq_false c;refine ah ?_;exact FX () e1 ⟨aq rfl (by rw[decide_eq_false (fun q=>c q.1)]),sb rfl⟩
 · rintro _ g4 e4;have e04:=e0.trans e4;refine bN (fun hc=>?_) (fun hc=>?_)
   · have hlt:=A4 hc.1;have hr:=And.intro (vO hlt) (gM hp).2;refine ah ?_;refine xo rfl (bl rfl (nO (hg.aj e04) s p hp hs)) ?_;rintro _ g5 ⟨rfl,e5⟩;refine ah ?_;exact ih (cw s p) ⟨e04.trans e5,by omega,by rw[<-hsk];exact(Gg hc.1 hc.2).symm⟩
   · refine ah ?_;refine bE ?_;exact⟨_,rfl,congrArg (fun n:Nat=>Value.int .i64 (n:Nat)) (by rw[<-hsk];exact(Gf hc).symm),e04⟩
theorem j9 (hg:kF h) (s:By) (a:Nat) (ha:a<=s.length) (hs:s.length<=1000000){so:Int->Bool}(hf:EO h fv so):af Tryz.prog 168 #[.string (bs s),.int .i64 (a:Nat),fv] h (aX fun r h'=>r= .int .i64 (gY so s a:Nat)/\ak h h'):=by
 obtain⟨g0,caps,rfl,hok,hcal⟩:=hf;refine cu ?_;refine ah ?_;refine nq (σ:=Nat) (fun p=>[(1,.int .i64 (p:Nat))]) (fun p g=>ak h g/\p<=s.length/\gY so s p=gY so s a) (fun p=>p) (a) ⟨Ext.refl _ _,ha,rfl⟩ rfl ?_;rintro p g ⟨e0,hp,hsk⟩ ih
 iterate 2 refine bZ ?_
 refine O9 (fun(_u:Unit) (h':ai)=>ak g h') (fun(_u:Unit)=>[(17,.bool (decide (0<=fU s p/\so (fU s p)=true)))]) rfl ?_ ?_
 · refine ah ?_;refine xo rfl (bl rfl (oJ (hg.aj e0) s p hp hs)) ?_;rintro _ g1 ⟨rfl,e1⟩;refine ah ?_;refine gU 11 (fun c=>?_) (fun c=>?_)
   · have c:=of_decide_eq_true c;refine ah ?_;refine xo rfl (bl rfl (oJ (hg.aj (e0.trans e1)) s p hp hs)) ?_;rintro _ g2 ⟨rfl,e2⟩;refine xo rfl (az.JB (vs:=[_]) rfl hok rfl (af.cD (hcal (fU s p) g2 ((e0.trans e1).trans e2)))) ?_;rintro _ g3 ⟨rfl,e3⟩;refine ah ?_;exact FX () ((e1.trans e2).trans e3) ⟨aq rfl (by simp[c]),sb rfl⟩
   · have c:=of_decide_eq_false c;refine ah ?_;exact FX () e1 ⟨aq rfl (by rw[decide_eq_false (fun q=>c q.1)]),sb rfl⟩
 · rintro _ g4 e4;have e04:=e0.trans e4;refine bN (fun hc=>?_) (fun hc=>?_)
   · have hlt:=sJ hc.1;have hr:=AP hlt.1 hlt.2;refine ah ?_;refine xo rfl (bl rfl (qB (hg.aj e04) s p hp hs)) ?_;rintro _ g5 ⟨rfl,e5⟩;refine ah ?_;exact ih (ij s p) ⟨e04.trans e5,by omega,by rw[<-hsk];exact(Hq hc.1 hc.2).symm⟩
   · refine ah ?_;refine bE ?_;exact⟨_,rfl,congrArg (fun n:Nat=>Value.int .i64 (n:Nat)) (by rw[<-hsk];exact(Hp hc).symm),e04⟩
theorem C0 (c:Int):af Tryz.prog 171 #[.int .i64 c] h (aX fun r h'=>r= .bool (dZ c)/\h'=h):=by
 refine cu ?_;refine ah ?_;refine bE ?_;exact⟨_,rfl,rfl,rfl⟩
theorem sF (h:ai):EO h (.func (.func 171) #[] #[]) dZ:=⟨_,[],rfl,⟨_,func171,rfl,by kernel_rfl⟩,fun c h' e=>(C0 c).ret fun _ _ ⟨h1,h2⟩=>⟨h1,by subst h2;exact Ext.refl _ _⟩⟩
theorem Dn (c:Int):af Tryz.prog 167 #[.int .i64 c] h (aX fun r h'=>r= .bool (FZ c)/\h'=h):=by
 refine cu ?_;refine ah ?_;refine bE ?_;exact⟨_,rfl,rfl,rfl⟩
theorem E2 (h:ai):EO h (.func (.func 167) #[] #[]) FZ:=⟨_,[],rfl,⟨_,func167,rfl,by kernel_rfl⟩,fun c h' e=>(Dn c).ret fun _ _ ⟨h1,h2⟩=>⟨h1,by subst h2;exact Ext.refl _ _⟩⟩
theorem EE (c:Int):af Tryz.prog 166 #[.int .i64 c] h (aX fun r h'=>r= .bool (uD c)/\h'=h):=by
 refine cu ?_;refine ah ?_;refine bE ?_;exact⟨_,rfl,rfl,rfl⟩
theorem FG (h:ai):EO h (.func (.func 166) #[] #[]) uD:=⟨_,[],rfl,⟨_,func166,rfl,by kernel_rfl⟩,fun c h' e=>(EE c).ret fun _ _ ⟨h1,h2⟩=>⟨h1,by subst h2;exact Ext.refl _ _⟩⟩
theorem B8 {b:Nat}{k c:Int}(kb:aE h b 3 [.int .i64 k]):af Tryz.prog 197 #[.int .i64 c,.pointer (some ⟨b,0,none⟩)] h (aX fun r h'=>r= .bool (gD k c)/\ak h h'):=by
 refine cu ?_;refine bZ ?_;refine eu ?_;refine b7 ?_;refine fu ?_;refine bZ ?_;refine jR [(3,.bool (gD k c))] rfl ?_ ?_
 · refine ah ?_;refine xp rfl (aM rfl (kb.cell (i:=0) rfl)) ?_;refine ah ?_;refine gU 7 (fun c1=>?_) (fun c1=>?_)
   · have c1:=of_decide_eq_true c1;refine ah ?_;exact bq rfl ⟨aq rfl (by unfold gD;rw[decide_eq_true c1,Bool.true_and]),sb rfl⟩
   · have c1:=of_decide_eq_false c1;refine ah ?_;exact bq rfl ⟨aq rfl (by unfold gD;rw[decide_eq_false c1,Bool.false_and]),sb rfl⟩
 · refine bE ?_;exact⟨_,rfl,rfl,Ext.refl _ _⟩
theorem nS (k:Int):af Tryz.prog 169 #[.int .i64 k] h (aX fun r h'=>EO h' r (gD k)/\ak h h'):=by
 refine cu ?_;refine ah ?_;refine xo rfl (nk) ?_;rintro _ h1 ⟨rfl,k1,e1,z1⟩;refine ah ?_;refine xp rfl (an.makeFunc (vs:=[_]) rfl) ?_;refine ah ?_;refine bE ?_;exact⟨_,rfl,⟨_,[.pointer (some ⟨h.size,0,none⟩)],rfl,⟨_,func197,rfl,by kernel_rfl⟩,fun c h' e=>B8 (k1.aj e)⟩,e1⟩
theorem uR (s:By) (a:Nat):dF s a<=s.length:=by
 have h1:=List.Sublist.length_le (List.takeWhile_sublist (fun k=>decide (k<a)) (l:=b8 s))
 have h2:∀(n:Nat) (l:By) (b:Nat),l.length<=n->(bf n l b).length<=l.length:=by
  intro n
  induction n with
  |zero=>intro l b _;simp[bf]
  |succ n ih =>
   intro l b hl;rw[bf];split
   · simp
   · rename_i hne;have hr:=cv hne;have:=ih (l.drop (aN l)) (b+aN l) (by rw[List.length_drop];omega);rw[List.length_drop] at this;rw[List.length_cons];omega
 have h3:=h2 s.length s 0 (Nat.le_refl _);unfold dF;unfold b8 at *;omega
theorem wC (s:By) (a:Nat) (ha:a<=s.length) (hs:s.length<=1000000) (up:Bool):af Tryz.prog 164 #[.string (bs s),.int .i64 (a:Nat),.int .i64 (if up=true then -1 else 1)] h (aX fun r h'=>r= .int .i64 (nX s a up:Nat)/\ak h h'):=by
 have hbs:=aF s;have hst:=gL s a;have hen:=mz ha;have r1:=uR s a;have r2:=uR s (aW s a);refine cu ?_;refine ah ?_;refine xo rfl (bl rfl (fJ s a ha hs)) ?_;rintro _ h ⟨rfl,rfl⟩;refine ah ?_;refine xo rfl (bl rfl (lY s a hs ha)) ?_;rintro _ g1 ⟨rfl,e1⟩;refine ah ?_;refine xo rfl (bl rfl (lY s (aW s a) hs hst.2)) ?_;rintro _ g2 ⟨rfl,e2⟩;refine ah ?_;cases up
 · refine mX rfl (by simp) ?_;refine ah ?_;refine xo rfl (bl rfl (iA s a ha hs)) ?_;rintro _ g2 ⟨rfl,rfl⟩
   iterate 2 refine b7 ?_
   refine fu ?_
   iterate 2 refine bZ ?_
   refine jR [(35,.bool (decide (s.length<eI s a+1)))] rfl ?_ ?_
   · refine ah ?_;refine RW.dK (d:=30) (b':=false) rfl (by rw[decide_eq_false];omega) ?_;refine ah ?_;exact bq rfl ⟨aq rfl (by rw[decide_eq_decide];omega),sb rfl⟩
   · refine bN (fun hc=>?_) (fun hc=>?_)
     · refine ah ?_;refine bE ?_;exact⟨_,rfl,congrArg (fun n:Nat=>Value.int .i64 (n:Nat)) (by unfold nX;rw[if_neg (by simp),if_pos hc]),e1.trans e2⟩
     · have hL:nX s a false=min (kJ s ((dF s (aW s (eI s a+1)):Int)+((dF s a:Int)-(dF s (aW s a):Nat)))) (eI s (aW s (eI s a+1))):=by unfold nX;rw[if_neg (by simp),if_neg hc]
       refine ah ?_;refine xo rfl (bl rfl (fJ s (eI s a+1) (by omega) hs)) ?_;rintro _ h3 ⟨rfl,rfl⟩;have ht:=gL s (eI s a+1);have r3:=uR s (aW s (eI s a+1));refine ah ?_;refine xo rfl (bl rfl (lY s (aW s (eI s a+1)) hs ht.2)) ?_;rintro _ g4 ⟨rfl,e4⟩;refine ah ?_;refine xo rfl (bl rfl (vR s ((dF s (aW s (eI s a+1)):Int)+((dF s a:Int)-(dF s (aW s a):Nat))) hs)) ?_;rintro _ g5 ⟨rfl,e5⟩;refine ah ?_;refine xo rfl (bl rfl (iA s (aW s (eI s a+1)) ht.2 hs)) ?_;rintro _ h6 ⟨rfl,rfl⟩;refine ah ?_;refine bE ?_;exact⟨_,rfl,congrArg (Value.int .i64) (by rw[hL];(repeat' split)<;>omega),((e1.trans e2).trans e4).trans e5⟩
 · refine mQ rfl (by simp) ?_
   iterate 3 refine bZ ?_
   refine jR [(35,.bool (decide (aW s a=0)))] rfl ?_ ?_
   · refine ah ?_;refine gU 30 (fun c1=>?_) (fun c1=>?_)
     · have c1:=of_decide_eq_true c1;refine ah ?_;exact bq rfl ⟨aq rfl (by rw[decide_eq_true (by omega)]),sb rfl⟩
     · have c1:=of_decide_eq_false c1;refine ah ?_;exact bq rfl ⟨aq rfl (by rw[decide_eq_decide];omega),sb rfl⟩
   · refine bN (fun hc=>?_) (fun hc=>?_)
     · refine ah ?_;refine bE ?_;exact⟨_,rfl,congrArg (fun n:Nat=>Value.int .i64 (n:Nat)) (by unfold nX;rw[if_pos rfl,if_pos hc]),e1.trans e2⟩
     · have hL:nX s a true=min (kJ s ((dF s (aW s (aW s a-1)):Int)+((dF s a:Int)-(dF s (aW s a):Nat)))) (eI s (aW s (aW s a-1))):=by unfold nX;rw[if_pos rfl,if_neg hc]
       rw[show ((aW s a:Nat):Int)-1=((aW s a-1:Nat):Int) by omega];refine ah ?_;refine xo rfl (bl rfl (fJ s (aW s a-1) (by omega) hs)) ?_;rintro _ h3 ⟨rfl,rfl⟩;have ht:=gL s (aW s a-1);have r3:=uR s (aW s (aW s a-1));refine ah ?_;refine xo rfl (bl rfl (lY s (aW s (aW s a-1)) hs ht.2)) ?_;rintro _ g4 ⟨rfl,e4⟩;refine ah ?_;refine xo rfl (bl rfl (vR s ((dF s (aW s (aW s a-1)):Int)+((dF s a:Int)-(dF s (aW s a):Nat))) hs)) ?_;rintro _ g5 ⟨rfl,e5⟩;refine ah ?_;refine xo rfl (bl rfl (iA s (aW s (aW s a-1)) ht.2 hs)) ?_;rintro _ h6 ⟨rfl,rfl⟩;refine ah ?_;refine bE ?_;exact⟨_,rfl,congrArg (Value.int .i64) (by rw[hL];(repeat' split)<;>omega),((e1.trans e2).trans e4).trans e5⟩
theorem DC (hg:kF h) (s:By) (a:Nat) (ha:a<=s.length) (hs:s.length<=1000000):af Tryz.prog 173 #[.string (bs s),.int .i64 (a:Nat)] h (aX fun r h'=>r= .int .i64 (E4 s a:Nat)/\ak h h'):=by
 have h1:=gM ha;have h2:=fY (so:=dZ) h1.2;have h3:=fY (so:=gD (eR s (cI dZ s (cw s a)))) h2.2;have hT:E4 s a=if cI dZ s (cw s a)<cI (gD (eR s (cI dZ s (cw s a)))) s (cI dZ s (cw s a)) then ij s (cI (gD (eR s (cI dZ s (cw s a)))) s (cI dZ s (cw s a))) else cI dZ s (cw s a):=rfl
 rw[hT];have hm1:∀g,ak h g->_:=fun g e=>fB (hg.aj e) s (cw s a) h1.2 hs (sF g)
 generalize cI dZ s (cw s a)=b at *;have hm2:∀g (fv:Value),ak h g->EO g fv (gD (eR s b))->_:=fun g fv e hf=>fB (hg.aj e) s b h2.2 hs hf
 generalize ht:cI (gD (eR s b)) s b=t at *;refine cu ?_;refine ah ?_;refine xo rfl (bl rfl (nO hg s a ha hs)) ?_;rintro _ g1 ⟨rfl,e1⟩;refine xo rfl (bl rfl (hm1 _ e1)) ?_;rintro _ g2 ⟨rfl,e2⟩;refine ah ?_;refine xo rfl (bl rfl (mq (hg.aj (e1.trans e2)) s b h2.2 hs)) ?_;rintro _ g3 ⟨rfl,e3⟩;refine xo rfl (bl rfl (nS (eR s b))) ?_;rintro fv g4 ⟨hf,e4⟩;refine xo rfl (bl rfl (hm2 _ fv (((e1.trans e2).trans e3).trans e4) hf)) ?_;rintro _ g5 ⟨rfl,e5⟩;refine ah ?_;have e05:=(((e1.trans e2).trans e3).trans e4).trans e5;refine bN (fun hc=>?_) (fun hc=>?_)
 · have hc:b<t:=by omega
   refine ah ?_;refine xo rfl (bl rfl (qB (hg.aj e05) s t h3.2 hs)) ?_;rintro _ g6 ⟨rfl,e6⟩;refine ah ?_;refine bE ?_;exact⟨_,rfl,by rw[if_pos hc];rfl,e05.trans e6⟩
 · refine ah ?_;refine bE ?_;exact⟨_,rfl,by rw[if_neg (by omega)];rfl,e05⟩
theorem DW (hg:kF h) (s:By) (a:Nat) (w:Int) (ha:a<=s.length) (hs:s.length<=1000000):af Tryz.prog 109 #[.string (bs s),.int .i64 (a:Nat),.int .i64 w] h (aX fun r h'=>r= .int .i64 (mS s a w:Nat)/\ak h h'):=by
 have hbs:=aF s;obtain⟨O,hO⟩:∃O,mS s a w=O:=⟨_,rfl⟩
 rw[hO];unfold mS at hO;refine cu ?_;refine ah ?_;refine bN (fun c0=>?_) (fun c0=>?_)
 · rw[if_pos c0] at hO;refine ah ?_;refine xo rfl (bl rfl (qB hg s a ha hs)) ?_;rintro _ g1 ⟨rfl,e1⟩;refine ah ?_;refine bE ?_;exact⟨_,rfl,congrArg (fun n:Nat=>Value.int .i64 (n:Nat)) hO,e1⟩
 · rw[if_neg c0] at hO;refine ah ?_;refine bN (fun c1=>?_) (fun c1=>?_)
   · rw[if_pos c1] at hO;refine ah ?_;refine xo rfl (bl rfl (nO hg s a ha hs)) ?_;rintro _ g1 ⟨rfl,e1⟩;refine ah ?_;refine bE ?_;exact⟨_,rfl,congrArg (fun n:Nat=>Value.int .i64 (n:Nat)) hO,e1⟩
   · rw[if_neg c1] at hO;refine ah ?_;refine bN (fun c2=>?_) (fun c2=>?_)
     · rw[if_pos c2] at hO;refine ah ?_;refine xo rfl (bl rfl (fJ s a ha hs)) ?_;rintro _ h ⟨rfl,rfl⟩;refine ah ?_;refine bE ?_;exact⟨_,rfl,congrArg (fun n:Nat=>Value.int .i64 (n:Nat)) hO,Ext.refl _ _⟩
     · rw[if_neg c2] at hO;refine ah ?_;refine bN (fun c3=>?_) (fun c3=>?_)
       · rw[if_pos c3] at hO;refine ah ?_;refine xo rfl (bl rfl (iA s a ha hs)) ?_;rintro _ h ⟨rfl,rfl⟩;refine ah ?_;refine bE ?_;exact⟨_,rfl,congrArg (fun n:Nat=>Value.int .i64 (n:Nat)) hO,Ext.refl _ _⟩
       · rw[if_neg c3] at hO;refine ah ?_;refine bN (fun c4=>?_) (fun c4=>?_)
         · rw[if_pos c4] at hO;refine ah ?_;refine xo rfl (bl rfl (wC s a ha hs true)) ?_;rintro _ g1 ⟨rfl,e1⟩;refine ah ?_;refine bE ?_;exact⟨_,rfl,congrArg (fun n:Nat=>Value.int .i64 (n:Nat)) hO,e1⟩
         · rw[if_neg c4] at hO;refine ah ?_;refine bN (fun c5=>?_) (fun c5=>?_)
           · rw[if_pos c5] at hO;refine ah ?_;refine xo rfl (bl rfl (wC s a ha hs false)) ?_;rintro _ g1 ⟨rfl,e1⟩;refine ah ?_;refine bE ?_;exact⟨_,rfl,congrArg (fun n:Nat=>Value.int .i64 (n:Nat)) hO,e1⟩
           · rw[if_neg c5] at hO;refine ah ?_;refine bN (fun c6=>?_) (fun c6=>?_)
             · rw[if_pos c6] at hO;refine ah ?_;refine xo rfl (bl rfl (fB hg s a ha hs (FG h))) ?_;rintro _ g1 ⟨rfl,e1⟩;refine xo rfl (bl rfl (fB (hg.aj e1) s (cI uD s a) (fY ha).2 hs (E2 g1))) ?_;rintro _ g2 ⟨rfl,e2⟩;refine ah ?_;refine bE ?_;exact⟨_,rfl,congrArg (fun n:Nat=>Value.int .i64 (n:Nat)) hO,e1.trans e2⟩
             · rw[if_neg c6] at hO;refine ah ?_;refine bN (fun c7=>?_) (fun c7=>?_)
               · rw[if_pos c7] at hO;refine ah ?_;refine xo rfl (bl rfl (j9 hg s a ha hs (FG h))) ?_;rintro _ g1 ⟨rfl,e1⟩;refine xo rfl (bl rfl (j9 (hg.aj e1) s (gY uD s a) (Nat.le_trans oI ha) hs (E2 g1))) ?_;rintro _ g2 ⟨rfl,e2⟩;refine ah ?_;refine bE ?_;exact⟨_,rfl,congrArg (fun n:Nat=>Value.int .i64 (n:Nat)) hO,e1.trans e2⟩
               · rw[if_neg c7] at hO;refine ah ?_;refine bN (fun c8=>?_) (fun c8=>?_)
                 · rw[if_pos c8] at hO;refine ah ?_;refine xo rfl (bl rfl (mq hg s a ha hs)) ?_;rintro _ g1 ⟨rfl,e1⟩;refine xo rfl (bl rfl (nS (eR s a))) ?_;rintro fv g2 ⟨hf,e2⟩;refine xo rfl (bl rfl (fB (hg.aj (e1.trans e2)) s a ha hs hf)) ?_;rintro _ g3 ⟨rfl,e3⟩;refine xo rfl (bl rfl (fB (hg.aj ((e1.trans e2).trans e3)) s (cI (gD (eR s a)) s a) (fY ha).2 hs (sF g3))) ?_;rintro _ g4 ⟨rfl,e4⟩;refine ah ?_;refine bE ?_;exact⟨_,rfl,congrArg (fun n:Nat=>Value.int .i64 (n:Nat)) hO,((e1.trans e2).trans e3).trans e4⟩
                 · rw[if_neg c8] at hO;refine ah ?_;refine bN (fun c9=>?_) (fun c9=>?_)
                   · rw[if_pos c9] at hO;refine ah ?_;refine xo rfl (bl rfl (j9 hg s a ha hs (sF h))) ?_;rintro _ g1 ⟨rfl,e1⟩;refine ah ?_;refine xo rfl (bl rfl (oJ (hg.aj e1) s (gY dZ s a) (Nat.le_trans oI ha) hs)) ?_;rintro _ g2 ⟨rfl,e2⟩;refine xo rfl (bl rfl (nS (fU s (gY dZ s a)))) ?_;rintro fv g3 ⟨hf,e3⟩;refine xo rfl (bl rfl (j9 (hg.aj ((e1.trans e2).trans e3)) s (gY dZ s a) (Nat.le_trans oI ha) hs hf)) ?_;rintro _ g4 ⟨rfl,e4⟩;refine ah ?_;refine bE ?_;exact⟨_,rfl,congrArg (fun n:Nat=>Value.int .i64 (n:Nat)) hO,((e1.trans e2).trans e3).trans e4⟩
                   · rw[if_neg c9] at hO;refine ah ?_;refine bN (fun c10=>?_) (fun c10=>?_)
                     · rw[if_pos c10] at hO;refine ah ?_;refine xo rfl (bl rfl (DC hg s a ha hs)) ?_;rintro _ g1 ⟨rfl,e1⟩;refine ah ?_;refine bE ?_;exact⟨_,rfl,congrArg (fun n:Nat=>Value.int .i64 (n:Nat)) hO,e1⟩
                     · rw[if_neg c10] at hO;refine ah ?_;refine bN (fun c11=>?_) (fun c11=>?_)
                       · rw[if_pos c11] at hO;refine ah ?_;refine xo rfl (bl rfl (fJ s a ha hs)) ?_;rintro _ h ⟨rfl,rfl⟩;refine xo rfl (bl rfl (fB hg s (aW s a) (gL s a).2 hs (sF h))) ?_;rintro _ g1 ⟨rfl,e1⟩;refine ah ?_;refine xo rfl (bl rfl (iA s a ha hs)) ?_;rintro _ g1 ⟨rfl,rfl⟩;refine ah ?_;refine bE ?_;exact⟨_,rfl,congrArg (Value.int .i64) (by rw[<-hO];(repeat' split)<;>omega),e1⟩
                       · rw[if_neg c11] at hO;refine ah ?_;refine bN (fun c12=>?_) (fun c12=>?_)
                         · rw[if_pos c12] at hO;refine ah ?_;refine bE ?_;exact⟨_,rfl,congrArg (Value.int .i64) (by rw[<-hO];rfl),Ext.refl _ _⟩
                         · rw[if_neg c12] at hO;refine ah ?_;refine bN (fun c13=>?_) (fun c13=>?_)
                           · rw[if_pos c13] at hO;refine ah ?_;refine bE ?_;exact⟨_,rfl,congrArg (Value.int .i64) (by rw[<-hO,hbs]),Ext.refl _ _⟩
                           · rw[if_neg c13] at hO;refine ah ?_;refine bE ?_;exact⟨_,rfl,congrArg (fun n:Nat=>Value.int .i64 (n:Nat)) hO,Ext.refl _ _⟩
theorem ry (hg:kF h) (s:By) (a w n:Int) (hs:s.length<=1000000):af Tryz.prog 47 #[.string (bs s),.int .i64 a,.int .i64 w,.int .i64 n] h (aX fun r h'=>r= .int .i64 (lV s a w n:Nat)/\ak h h'):=by
 obtain⟨N,hN⟩:∃N:Nat,(min (max n 0) 1000).toNat=N:=⟨_,rfl⟩
 have hf:=uV s a;have hT:lV s a w n=HV s w N (fG s a):=by unfold lV;rw[hN]
 rw[hT];refine cu ?_;refine ah ?_;refine xo rfl (bl rfl (lF s a hs)) ?_;rintro _ g1 ⟨rfl,e1⟩
 have hmm:(if (1000:Int)<(if n<0 then 0 else n) then 1000 else (if n<0 then 0 else n))=(N:Nat):=by
  (repeat' split)<;>omega
 refine ah ?_;rw[hmm];refine nq (σ:=Nat×Nat) (fun w2=>[(1,.int .i64 (w2.2:Nat)),(16,.int .i64 (w2.1:Nat))]) (fun w2 g=>ak h g/\w2.1<=N/\w2.2<=s.length/\HV s w (N-w2.1) w2.2=HV s w N (fG s a)) (fun w2=>N-w2.1) ((0,fG s a)) ⟨e1,Nat.zero_le _,hf,rfl⟩ rfl ?_;rintro⟨i,p⟩ g ⟨e0,hi,hp,ht⟩ ih
 try dsimp only
 dsimp only at e0 hi hp ht;have hN2:N<=1000:=by omega
 refine ah ?_;refine bN (fun hlt=>?_) (fun hlt=>?_)
 · obtain⟨m,hm⟩:∃m,N-i=m+1:=⟨N-i-1,by omega⟩
   rw[hm,HV] at ht;refine ah ?_;refine xo rfl (bl rfl (DW (hg.aj e0) s p w hp hs)) ?_;rintro _ g2 ⟨rfl,e2⟩;refine ah ?_;refine bN (fun he=>?_) (fun he=>?_)
   · refine ah ?_;refine bE ?_;rw[if_pos (by omega)] at ht;exact⟨_,rfl,congrArg (fun n:Nat=>Value.int .i64 (n:Nat)) ht,e0.trans e2⟩
   · refine ah ?_;rw[if_neg (by omega),show m=N-(i+1) by omega] at ht;exact ih (i+1,mS s p w) ⟨e0.trans e2,by show i+1<=N;omega,Cb hp w,ht⟩
 · refine ah ?_;refine bE ?_;rw[show N-i=0 by omega,HV] at ht;exact⟨_,rfl,congrArg (fun n:Nat=>Value.int .i64 (n:Nat)) ht,e0⟩
def Qp:iS Bool:=.flat Value.bool fun _=>rfl
def sP (s:MS) (rv hv lv fv:Value):List Value:=[.string (bs s.text),.int .i64 s.cur,.int .i64 s.mode,.int .i64 s.mark,rv,hv,.int .i64 s.at_,.string (bs s.draft),.int .i64 s.last,.int .i64 s.from_,.int .i64 s.to_,.string (bs s.query),.int .i64 s.found,.string (bs s.saved),.int .i64 s.savedAt,.int .i64 s.was,lv,fv,.int .i64 s.bells]
structure vf (O:Nat->Prop) (h:ai) (s:MS) (rv hv lv fv:Value):Prop where
 ring:bC sx h O rv s.ring
 hist:bC sx h O hv s.hist
 lines:bC sx h O lv s.lines
 flags:bC Qp h O fv s.flags
theorem vf.mv {O O':Nat->Prop}{h h':ai}{s:MS}{rv hv lv fv:Value}(k:vf O h s rv hv lv fv) (m:Mv O O' h h'):vf O' h' s rv hv lv fv:=⟨k.ring.mv m,k.hist.mv m,k.lines.mv m,k.flags.mv m⟩
theorem vf.aj {O:Nat->Prop}{h h':ai}{s:MS}{rv hv lv fv:Value}(k:vf O h s rv hv lv fv) (e:ak h h'):vf O h' s rv hv lv fv:=k.mv (Mv.aj e)
theorem vf.of {t:MS}{rv hv lv:Value}(k:vf O h s rv hv lv fv) (h1:t.ring=s.ring) (h2:t.hist=s.hist) (h3:t.lines=s.lines) (h4:t.flags=s.flags):vf O h t rv hv lv fv:=⟨h1▸k.ring,h2▸k.hist,h3▸k.lines,h4▸k.flags⟩
theorem bC.one {α:Type}{e:iS α}{xs:List α}(k:bC e h O v xs):v.oneCell'=true:=by
 obtain⟨oa,n,c,rfl,_⟩:=k.open;rfl
def eJ (O:Nat->Prop) (h:ai) (v:Value) (s:MS):Prop:=∃rv hv lv fv,v= .agg (sP s rv hv lv fv).toArray/\vf O h s rv hv lv fv
theorem eJ.get (k:eJ O h v s):∃xa xn xc ya yn yc za zn zc ua un uc,v= .agg (sP s (.slice xa xn xc) (.slice ya yn yc) (.slice za zn zc) (.slice ua un uc)).toArray/\vf O h s (.slice xa xn xc) (.slice ya yn yc) (.slice za zn zc) (.slice ua un uc):=by
 obtain⟨rv,hv,lv,fv,rfl,hS⟩:=k;obtain⟨xa,xn,xc,rfl,_⟩:=hS.ring.open;obtain⟨ya,yn,yc,rfl,_⟩:=hS.hist.open;obtain⟨za,zn,zc,rfl,_⟩:=hS.lines.open;obtain⟨ua,un,uc,rfl,_⟩:=hS.flags.open;exact⟨xa,xn,xc,ya,yn,yc,za,zn,zc,ua,un,uc,rfl,hS⟩
theorem ms1 {xa ya za ua:Option Addr}{xn xc yn yc zn zc un uc:Nat}:∀v∈sP s (.slice xa xn xc) (.slice ya yn yc) (.slice za zn zc) (.slice ua un uc),v.oneCell'=true:=by
 intro v hv;simp only[sP,List.mem_cons,List.not_mem_nil,or_false] at hv
 rcases hv with rfl|rfl|rfl|rfl|rfl|rfl|rfl|rfl|rfl|rfl|rfl|rfl|rfl|rfl|rfl|rfl|rfl|rfl|rfl<;>rfl
def QJ:MS:=⟨[],0,0,0,[],[],0,[],0,0,0,[],0,[],0,0,[],[],0⟩
abbrev zC:List Value:=sP QJ (.slice none 0 0) (.slice none 0 0) (.slice none 0 0) (.slice none 0 0)
abbrev Ka (b r:Nat) (O:Nat->Prop):Nat->Prop:=fun y=>y=b\/y=r\/O y
structure Fr (O:Nat->Prop) (h g:ai) (b r:Nat) (s:MS) (rv hv lv fv:Value):Prop where
 blk:aE g b 31 (sP s rv hv lv fv)
 res:aE g r 31 zC
 ext:ak h g
 hb:h.size<=b
 hr:h.size<=r
 ne:¬r=b
 old:∀y,O y->y<h.size
 ms:vf (Ka b r O) g s rv hv lv fv
section
variable {O:Nat->Prop}{h g g':ai}{b r:Nat}{s t:MS}{rv hv lv fv rv' hv' lv' fv':Value}
theorem ef (hS:vf O h s rv hv lv fv) (hO:∀y,O y->y<h.size) (e:ak h g) (k1:aE g b 31 (sP s rv hv lv fv)) (k2:aE g r 31 zC) (hb:h.size<=b) (hr:h.size<=r) (ne:¬r=b):Fr O h g b r s rv hv lv fv :=
 ⟨k1,k2,e,hb,hr,ne,hO,hS.mv (Mv.cL e fun y hy q=>⟨fun k=>k,by rintro(rfl|rfl|k);omega;omega;exact q k⟩)⟩
theorem Fr.aj (F:Fr O h g b r s rv hv lv fv) (e:ak g g'):Fr O h g' b r s rv hv lv fv:=⟨F.blk.aj e,F.res.aj e,F.ext.trans e,F.hb,F.hr,F.ne,F.old,F.ms.aj e⟩
theorem Fr.set (F:Fr O h g b r s rv hv lv fv) (k:aE g' b 31 (sP t rv' hv' lv' fv')) (x:Ext (fun y=>y=b) g g') (m:vf (Ka b r O) g t rv' hv' lv' fv'):Fr O h g' b r t rv' hv' lv' fv' :=
 ⟨k,F.res.ext x F.ne,ak.only F.ext x F.hb,F.hb,F.hr,F.ne,F.old,m.mv (Mv.cL x fun y hy q=>⟨fun k=>q (.inl k),q⟩)⟩
theorem Fr.tU (F:Fr O h g b r s rv hv lv fv):eJ (Ka b r O) g (.agg (sP s rv hv lv fv).toArray) s:=⟨_,_,_,_,rfl,F.ms⟩
theorem Fr.hO (F:Fr O h g b r s rv hv lv fv):∀y,Ka b r O y->y<g.size:=by
 have:=F.ext.size;rintro y (rfl|rfl|k)
 · exact F.blk.lt
 · exact F.res.lt
 · have:=F.old y k;omega
theorem Fr.out (F:Fr O h g b r s rv hv lv fv) (x:Ext (fun y=>y=r) g g'):eJ O g' (.agg (sP s rv hv lv fv).toArray) s/\ak h g' :=
 ⟨⟨_,_,_,_,rfl,F.ms.mv (Mv.cL x fun y hy q=>⟨fun k=>q (.inr (.inl k)),fun k=>q (.inr (.inr k))⟩)⟩,ak.only F.ext x F.hr⟩
def Ey (c:Cm):List Value:=[.int .i64 c.kind,.int .i64 c.way,.int .i64 c.n,.string (bs c.text),.bool c.incl]
def HE (c:Cm):Value:=.agg #[.int .i64 c.kind,.int .i64 c.way,.int .i64 c.n,.string (bs c.text),.bool c.incl]
structure Ke (O:Nat->Prop) (h g:ai) (b r cb:Nat) (c:Cm) (s:MS) (rv hv lv fv:Value):Prop extends Fr O h g b r s rv hv lv fv where
 cmd:aE g cb 28 (Ey c)
 cne:¬cb=b
theorem Ke.aj {cb:Nat}{c:Cm}(F:Ke O h g b r cb c s rv hv lv fv) (e:ak g g'):Ke O h g' b r cb c s rv hv lv fv:=⟨F.toFr.aj e,F.cmd.aj e,F.cne⟩
theorem Ke.set {cb:Nat}{c:Cm}(F:Ke O h g b r cb c s rv hv lv fv) (k:aE g' b 31 (sP t rv' hv' lv' fv')) (x:Ext (fun y=>y=b) g g') (m:vf (Ka b r O) g t rv' hv' lv' fv'):Ke O h g' b r cb c t rv' hv' lv' fv' :=
 ⟨F.toFr.set k x m,F.cmd.ext x F.cne,F.cne⟩
theorem Fr.tr (F:Fr O h g b r s rv hv lv fv) (m:vf (Ka b r O) g t rv' hv' lv' fv') (x:Ext (fun y=>y=r) g g'):eJ O g' (.agg (sP t rv' hv' lv' fv').toArray) t/\ak h g' :=
 ⟨⟨_,_,_,_,rfl,m.mv (Mv.cL x fun y hy q=>⟨fun k=>q (.inr (.inl k)),fun k=>q (.inr (.inr k))⟩)⟩,ak.only F.ext x F.hr⟩
end
theorem mK (k:eJ O h v s) (hO:∀y,O y->y<h.size){B:Nat}(hI:MI B s) (hB:B<=100000000):af Tryz.prog 89 #[v] h (aX fun r h'=>eJ O h' r (dL s)/\ak h h'):=by
 have hb0:=hI.bell0;have hb1:=hI.bell1;obtain⟨xa,xn,xc,ya,yn,yc,za,zn,zc,ua,un,uc,rfl,hS⟩:=eJ.get k;refine cu ?_;refine ah ?_;refine xo rfl (nk) ?_;rintro _ h1 ⟨rfl,k1,e1,z1⟩;refine xo rfl (iT) ?_;rintro _ h2 ⟨rfl,k2,e2,z2⟩;have F:Fr O h h2 h.size h1.size s _ _ _ _:=ef hS hO (e1.trans e2) (k1.aj e2) k2 (Nat.le_refl _) (by omega) (by omega);refine ah ?_;refine xp rfl (aM rfl (F.blk.cell (i:=18) rfl)) ?_;refine ah ?_;refine bQ rfl (gq rfl rfl F.blk) ?_;rintro _ h3 ⟨rfl,k3,x3,z3⟩;have F:=F.set (t:= { s with bells:=s.bells+1 }) k3 x3 (F.ms.of rfl rfl rfl rfl);refine ah ?_;refine bQ rfl (gq rfl rfl F.blk) ?_;rintro _ h4 ⟨rfl,k4,x4,z4⟩;have F:=F.set (t:=dL s) k4 x4 (F.ms.of rfl rfl rfl rfl);refine ah ?_;refine xp rfl (eN rfl F.blk.row) ?_;refine bQ rfl (er rfl rfl F.res ms1) ?_;rintro _ gz ⟨rfl,kz,xz,zz⟩;refine ah ?_;refine jQ (jd rfl kz.row jP) ?_;exact⟨_,rfl,F.out xz⟩
theorem nB (n:Int):af Tryz.prog 145 #[.int .i64 n] h (aX fun r h'=>r= .int .i64 (dB n)/\h'=h):=by
 refine cu ?_;refine ah ?_;refine bE ?_;exact⟨_,rfl,congrArg (Value.int .i64) (by unfold dB;(repeat' split)<;>omega),rfl⟩
theorem zj (k:eJ O h v s) (hO:∀y,O y->y<h.size){B:Nat}(hI:MI B s) (hB:B<=100000000) (a:Nat) (ha:a<=s.text.length) (t:By) (ht:t.length<=100000000) :
 af Tryz.prog 144 #[v,.int .i64 (a:Nat),.string (bs t)] h (aX fun r h'=>(∃w,r= .tuple #[w,.bool (dN s a t).2]/\eJ O h' w (dN s a t).1)/\ak h h'):=by
 have hbs:=aF s.text;have hbt:=aF t;have htx:=hI.text;have hq1:(bs s.text).extract 0 a=bs (s.text.take a):=by rw[jq s.text 0 a (Nat.zero_le _),List.drop_zero]
 have hq2:=js s.text a;obtain⟨xa,xn,xc,ya,yn,yc,za,zn,zc,ua,un,uc,rfl,hS⟩:=eJ.get k;refine cu ?_;refine ah ?_;refine xo rfl (nk) ?_;rintro _ h1 ⟨rfl,k1,e1,z1⟩;refine xo rfl (iT) ?_;rintro _ h2 ⟨rfl,k2,e2,z2⟩;have F:Fr O h h2 h.size h1.size s _ _ _ _:=ef hS hO (e1.trans e2) (k1.aj e2) k2 (Nat.le_refl _) (by omega) (by omega);refine ah ?_;refine xp rfl (aM rfl (F.blk.cell (i:=0) rfl)) ?_;refine ah ?_;refine bN (fun c=>?_) (fun c=>?_)
 · have hp:dN s a t=(dL s,false):=by unfold dN;rw[if_pos (by omega)]
   refine ah ?_;refine xp rfl (eN rfl F.blk.row) ?_;refine xo rfl (bl rfl (mK F.tU F.hO hI hB)) ?_;rintro v3 h3 ⟨kv,e3⟩;obtain⟨_,_,_,_,_,_,_,_,_,_,_,_,rfl,hT⟩:=eJ.get kv;have F:=F.aj e3;refine bQ rfl (er rfl rfl F.res ms1) ?_;rintro _ gz ⟨rfl,kz,xz,zz⟩;refine ah ?_;refine jQ (jd rfl kz.row (Kg jP)) ?_;rw[hp];exact⟨_,rfl,⟨_,rfl,(F.tr hT xz).1⟩,(F.tr hT xz).2⟩
 · have hp:dN s a t=({ s with text:=s.text.take a++t++s.text.drop a,cur:=((a+t.length:Nat):Int) },true):=by unfold dN;rw[if_neg (by omega)]
   have hl:(s.text.take a).length=a:=by rw[List.length_take];omega
   have hM:¬Array.size h2<=h.size:=by omega
   have hq3:((bs s.text).extract 0 a++bs t)++(bs s.text).extract a (bs s.text).size=bs (s.text.take a++t++s.text.drop a):=by rw[hq1,hq2,fK,fK]
   refine ah ?_;refine L8 13 12 ?_;refine aZ 0 ?_;refine cA 1 rfl (fun h' e=>aM rfl (e.cell hM (F.blk.cell (i:=0) rfl))) ?_;refine aZ 2 ?_;refine cA 3 rfl (fun h' e=>an.iw underlying9 rfl rfl a (by omega) (by omega)) ?_;refine aZ 4 ?_;refine cA 5 rfl (fun h' e=>an.mM rfl rfl (by rw[hq1,aF,aF];omega)) ?_;refine aZ 6 ?_;refine cA 7 rfl (fun h' e=>aM rfl (e.cell hM (F.blk.cell (i:=0) rfl))) ?_;refine aZ 8 ?_;refine cA 9 rfl (fun h' e=>an.eE underlying9 rfl rfl a (by omega) (by omega)) ?_;refine cA 10 rfl (fun h' e=>an.mM rfl rfl (by rw[hq2,ByteArray.size_append,hq1,aF,aF,aF,List.length_drop];omega)) ?_;refine aZ 11 ?_;refine pO 12 rfl (gq rfl rfl F.blk rfl) ?_;rintro _ h3 ⟨rfl,k3,x3,z3⟩;refine⟨nofun,?_⟩;rw[hq3] at k3;have F:=F.set (t:= { s with text:=s.text.take a++t++s.text.drop a }) k3 x3 (F.ms.of rfl rfl rfl rfl);refine pQ ?_;refine ah ?_;refine bQ rfl (gq rfl rfl F.blk) ?_;rintro _ h4 ⟨rfl,k4,x4,z4⟩;rw[hbt,show ((a:Nat):Int)+(t.length:Nat)=((a+t.length:Nat):Int) by omega] at k4;have F:=F.set (t:= { s with text:=s.text.take a++t++s.text.drop a,cur:=((a+t.length:Nat):Int) }) k4 x4 (F.ms.of rfl rfl rfl rfl);refine ah ?_;refine xp rfl (eN rfl F.blk.row) ?_;refine bQ rfl (er rfl rfl F.res ms1) ?_;rintro _ gz ⟨rfl,kz,xz,zz⟩;refine ah ?_;refine jQ (jd rfl kz.row (Kg jP)) ?_;rw[hp];exact⟨_,rfl,⟨_,rfl,(F.out xz).1⟩,(F.out xz).2⟩
theorem zO (k:eJ O h v s) (hO:∀y,O y->y<h.size) (htx:s.text.length<=16384) (a b:Nat) (ha:a<=s.text.length) (hb:b<=s.text.length) :
 af Tryz.prog 147 #[v,.int .i64 (a:Nat),.int .i64 (b:Nat)] h (aX fun r h'=>eJ O h' r (qO s a b)/\ak h h'):=by
 have hbs:=aF s.text;have hq1:(bs s.text).extract 0 a=bs (s.text.take a):=by rw[jq s.text 0 a (Nat.zero_le _),List.drop_zero]
 have hq2:=js s.text b;have hq3:(bs s.text).extract 0 a++(bs s.text).extract b (bs s.text).size=bs (s.text.take a++s.text.drop b):=by rw[hq1,hq2,fK]
 obtain⟨xa,xn,xc,ya,yn,yc,za,zn,zc,ua,un,uc,rfl,hS⟩:=eJ.get k;refine cu ?_;refine ah ?_;refine xo rfl (nk) ?_;rintro _ h1 ⟨rfl,k1,e1,z1⟩;refine xo rfl (iT) ?_;rintro _ h2 ⟨rfl,k2,e2,z2⟩;have F:Fr O h h2 h.size h1.size s _ _ _ _:=ef hS hO (e1.trans e2) (k1.aj e2) k2 (Nat.le_refl _) (by omega) (by omega);have hM:¬Array.size h2<=h.size:=by omega
 refine ah ?_;refine L8 11 8 ?_;refine aZ 0 ?_;refine cA 1 rfl (fun h' e=>aM rfl (e.cell hM (F.blk.cell (i:=0) rfl))) ?_;refine aZ 2 ?_;refine cA 3 rfl (fun h' e=>an.iw underlying9 rfl rfl a (by omega) (by omega)) ?_;refine aZ 4 ?_;refine cA 5 rfl (fun h' e=>aM rfl (e.cell hM (F.blk.cell (i:=0) rfl))) ?_;refine J8 6 ?_;refine cA 7 rfl (fun h' e=>an.eE underlying9 rfl rfl b (by omega) (by omega)) ?_;refine cA 8 rfl (fun h' e=>an.mM rfl rfl (by rw[hq1,hq2,aF,aF,List.length_take,List.length_drop];omega)) ?_;refine aZ 9 ?_;refine pO 10 rfl (gq rfl rfl F.blk rfl) ?_;rintro _ h3 ⟨rfl,k3,x3,z3⟩;refine⟨nofun,?_⟩;rw[hq3] at k3;have F:=F.set (t:= { s with text:=s.text.take a++s.text.drop b }) k3 x3 (F.ms.of rfl rfl rfl rfl);refine pQ ?_;refine ah ?_;refine bQ rfl (gq rfl rfl F.blk) ?_;rintro _ h4 ⟨rfl,k4,x4,z4⟩;have F:=F.set (t:=qO s a b) k4 x4 (F.ms.of rfl rfl rfl rfl);refine ah ?_;refine xp rfl (eN rfl F.blk.row) ?_;refine bQ rfl (er rfl rfl F.res ms1) ?_;rintro _ gz ⟨rfl,kz,xz,zz⟩;refine ah ?_;refine jQ (jd rfl kz.row jP) ?_;exact⟨_,rfl,F.out xz⟩
theorem tQ (k:eJ O h v s) (hO:∀y,O y->y<h.size) (t:By):af Tryz.prog 193 #[v,.string (bs t)] h (aX fun r h'=>eJ O h' r (nQ s t)/\ak h h'):=by
 have hbt:=aF t;obtain⟨xa,xn,xc,ya,yn,yc,za,zn,zc,ua,un,uc,rfl,hS⟩:=eJ.get k;refine cu ?_;refine ah ?_;refine xo rfl (nk) ?_;rintro _ h1 ⟨rfl,k1,e1,z1⟩;refine xo rfl (iT) ?_;rintro _ h2 ⟨rfl,k2,e2,z2⟩;have F:Fr O h h2 h.size h1.size s _ _ _ _:=ef hS hO (e1.trans e2) (k1.aj e2) k2 (Nat.le_refl _) (by omega) (by omega);refine ah ?_;refine bQ rfl (gq rfl rfl F.blk) ?_;rintro _ h4 ⟨rfl,k4,x4,z4⟩;have F:=F.set (t:= { s with text:=t }) k4 x4 (F.ms.of rfl rfl rfl rfl);refine ah ?_;refine bQ rfl (gq rfl rfl F.blk) ?_;rintro _ h4 ⟨rfl,k4,x4,z4⟩;rw[hbt] at k4;have F:=F.set (t:= { s with text:=t,cur:=(t.length:Nat) }) k4 x4 (F.ms.of rfl rfl rfl rfl);refine ah ?_;refine bQ rfl (gq rfl rfl F.blk) ?_;rintro _ h4 ⟨rfl,k4,x4,z4⟩;have F:=F.set (t:= { s with text:=t,cur:=(t.length:Nat),mark:= -1 }) k4 x4 (F.ms.of rfl rfl rfl rfl);refine ah ?_;refine bQ rfl (gq rfl rfl F.blk) ?_;rintro _ h4 ⟨rfl,k4,x4,z4⟩;have F:=F.set (t:=nQ s t) k4 x4 (F.ms.of rfl rfl rfl rfl);refine ah ?_;refine xp rfl (eN rfl F.blk.row) ?_;refine bQ rfl (er rfl rfl F.res ms1) ?_;rintro _ gz ⟨rfl,kz,xz,zz⟩;refine ah ?_;refine jQ (jd rfl kz.row jP) ?_;exact⟨_,rfl,F.out xz⟩
theorem tV (hg:kF h) (k:eJ O h v s) (hO:∀y,O y->y<h.size) (htx:s.text.length<=1000000) (w n:Int):af Tryz.prog 94 #[v,.int .i64 w,.int .i64 n] h (aX fun r h'=>eJ O h' r (jB s w n)/\ak h h'):=by
 obtain⟨xa,xn,xc,ya,yn,yc,za,zn,zc,ua,un,uc,rfl,hS⟩:=eJ.get k;refine cu ?_;refine ah ?_;refine xo rfl (nk) ?_;rintro _ h1 ⟨rfl,k1,e1,z1⟩;refine xo rfl (iT) ?_;rintro _ h2 ⟨rfl,k2,e2,z2⟩;have F:Fr O h h2 h.size h1.size s _ _ _ _:=ef hS hO (e1.trans e2) (k1.aj e2) k2 (Nat.le_refl _) (by omega) (by omega);have hM:¬Array.size h2<=h.size:=by omega
 have ht:=ry (hg.aj F.ext) s.text s.cur w (dB n) htx;refine ah ?_;refine L8 10 9 ?_;refine aZ 0 ?_;refine cA 1 rfl (fun h' e=>aM rfl (e.cell hM (F.blk.cell (i:=0) rfl))) ?_;refine aZ 2 ?_;refine cA 3 rfl (fun h' e=>aM rfl (e.cell hM (F.blk.cell (i:=1) rfl))) ?_;refine aZ 4 ?_;refine aZ 5 ?_;refine iL 6 rfl (bl rfl (nB n)) ?_;rintro _ g3 ⟨rfl,rfl⟩;refine⟨fun _=>Ext.refl _ _,?_⟩;refine iL 7 rfl (bl rfl ht) ?_;rintro _ g3 ⟨rfl,e3⟩;refine⟨fun _=>e3.of,?_⟩;refine aZ 8 ?_;refine pO 9 rfl (gq rfl rfl ((F.aj e3).blk)) ?_;rintro _ h4 ⟨rfl,k4,x4,z4⟩;refine⟨nofun,?_⟩;have F:=F.aj e3;have F:=F.set (t:= { s with cur:=(lV s.text s.cur w (dB n):Nat) }) k4 x4 (F.ms.of rfl rfl rfl rfl);refine pQ ?_;refine ah ?_;refine bQ rfl (gq rfl rfl F.blk) ?_;rintro _ h4 ⟨rfl,k4,x4,z4⟩;have F:=F.set (t:=jB s w n) k4 x4 (F.ms.of rfl rfl rfl rfl);refine ah ?_;refine xp rfl (eN rfl F.blk.row) ?_;refine bQ rfl (er rfl rfl F.res ms1) ?_;rintro _ gz ⟨rfl,kz,xz,zz⟩;refine ah ?_;refine jQ (jd rfl kz.row jP) ?_;exact⟨_,rfl,F.out xz⟩
def l7:ByteArray:=⟨#[]⟩
theorem AF (l:List ByteArray):∀u∈l.map Value.string,u.oneCell'=true:=by
 intro u hu;obtain⟨s,_,rfl⟩:=List.mem_map.1 hu;rfl
def lD (l:List ByteArray) (s:ByteArray) (way:Int):List ByteArray :=
 if s=l7 then l
 else match l with
  |x::r=>if 0<way then ((x++s)::r).take 10 else if way<0 then ((s++x)::r).take 10 else (s::l).take 10
  | []=>[s]
theorem CA {l:List ByteArray}{s:ByteArray}(way:Int) (hv:bC .str h O v l) (hl:l.length<=1000000) (hs:s.size<=1000000) (hls:∀x∈l,x.size<=100000000) :
 af Tryz.prog 149 #[v,.string s,.int .i64 way] h (aX fun r h'=>ax h' h.size 9 1 r (lD l s way).length ((lD l s way).map .string)/\ak h h'):=by
 obtain⟨oa,n,c,rfl,hsl⟩:=hv.open;have hn:=hsl.len;have hrow:=hsl.row;refine cu ?_;refine ah ?_;refine xo rfl (az.append underlying22 H.xw rfl rfl (ax.nil h h.size 9 1) (by simp[hn]) hrow (AF l) (by simp only[maxLen];omega) (by omega) (Nat.le_refl _)) ?_;rintro v1 h1 ⟨ho1,he1,-,-⟩;refine ah ?_;have he1:=dc he1;rw[Nat.zero_add,List.nil_append] at ho1;obtain⟨oa1,c1,rfl,hw1⟩:=ho1.open;have hc1:=hw1.cap;have hle1:=hw1.le;unfold maxLen at hc1;refine bN (fun hse=>?_) (fun hse=>?_)
 · refine ah ?_;refine bE ?_;refine⟨_,rfl,?_,he1⟩;have:lD l s way=l:=by unfold lD;exact if_pos hse
   rw[this,hn];exact hw1.own
 · refine bZ ?_
   have fin:∀(oa':Option Addr) (m c':Nat) (xs:List ByteArray) (h':ai) (ρ':Env),Sub [(7,.slice oa' m c')] ρ'->Ow h' h.size 9 1 oa' m c' (xs.map .string)->ak h h'->xs.take 10=lD l s way->G Tryz.prog 149 Tryz.f149 [.blk 0,.code [1,1,1]] ρ' h' (aX fun r h'=>ax h' h.size 9 1 r (lD l s way).length ((lD l s way).map .string)/\ak h h'):=by
    intro oa' m c' xs h2 ρ' hsub hw he hx;have hcap:=hw.cap;have hle2:=hw.le;have hlen:=hw.len;simp at hlen;unfold maxLen at hcap;refine G.sub (ρ':=[(7,.slice oa' m c')]) hsub ?_;refine ah ?_;refine xp rfl (an.cW underlying22 H.lS rfl rfl (if (10:Nat)<m then 10 else m) (by split<;>split<;>omega) (by split<;>omega)) ?_;refine ah ?_;refine bE ?_;have hm:(if (10:Nat)<m then 10 else m)=(xs.take 10).length:=by rw[List.length_take];split<;>omega
    have:=hw.take (m:=(xs.take 10).length) (by rw[List.length_take];omega) 1;rw[Nat.mul_one,<-List.map_take] at this
    have htt:xs.take (xs.take 10).length=xs.take 10:=by
     rw[List.length_take]
     rcases Nat.lt_or_ge xs.length 10 with h|h
     · rw[Nat.min_eq_right (by omega),List.take_of_length_le (Nat.le_refl _),List.take_of_length_le (by omega)]
     · rw[Nat.min_eq_left h]
    rw[htt] at this;refine⟨_,rfl,?_,he⟩;rw[hm,<-hx];exact this
   have hs0:¬s=l7:=hse;refine jR [(18,.bool (decide (0<way/\0<n)))] rfl ?_ ?_
   · refine ah ?_;refine gU 21 (fun hg=>?_) (fun hg=>?_)
     · refine ah ?_;exact bq rfl ⟨aq rfl (by simp[hg]),sb rfl⟩
     · refine ah ?_;exact bq rfl ⟨aq rfl (by simp[hg]),sb rfl⟩
   · refine bN (fun hway=>?_) (fun hway=>?_)
     · obtain⟨hw0,hn0⟩:=hway;obtain⟨x,r,rfl⟩:∃x r,l=x::r:=by cases l with|nil=>simp at hn;omega|cons x r=>exact⟨x,r,rfl⟩
       obtain⟨g,ha,hg,hlt,hcell,hfz⟩:=hw1.at (i:=0) (x:=.string x) rfl;refine eu ?_;refine b7 ?_;refine xp rfl (eK rfl rfl 0 rfl ha hn0) ?_;refine xp rfl (aM rfl hcell) ?_;refine b7 ?_;refine xp rfl (an.mM rfl rfl (by have:=hls x (by simp);omega)) ?_;refine xp rfl (eK rfl rfl 0 rfl ha hn0) ?_;refine bQ rfl (bU H.lS rfl rfl rfl hcell hfz) ?_;rintro _ _ ⟨rfl,rfl⟩;refine fu ?_;have hw2:=hw1.set ha hn0 (.string (x++s));exact fin _ _ _ ((x++s)::r) _ _ (by exact sb rfl) hw2 (he1.set hg _) (by unfold lD;rw[if_neg hs0];simp[hw0])
     · refine bZ ?_;refine jR [(32,.bool (decide (way<0/\0<n)))] rfl ?_ ?_
       · refine ah ?_;refine gU 35 (fun hg=>?_) (fun hg=>?_)
         · refine ah ?_;exact bq rfl ⟨aq rfl (by simp[hg]),sb rfl⟩
         · refine ah ?_;exact bq rfl ⟨aq rfl (by simp[hg]),sb rfl⟩
       · refine bN (fun hway2=>?_) (fun hway2=>?_)
         · obtain⟨hw0,hn0⟩:=hway2;obtain⟨x,r,rfl⟩:∃x r,l=x::r:=by cases l with|nil=>simp at hn;omega|cons x r=>exact⟨x,r,rfl⟩
           obtain⟨g,ha,hg,hlt,hcell,hfz⟩:=hw1.at (i:=0) (x:=.string x) rfl;refine eu ?_
           iterate 3 refine b7 ?_
           refine xp rfl (eK rfl rfl 0 rfl ha hn0) ?_;refine xp rfl (aM rfl hcell) ?_;refine xp rfl (an.mM rfl rfl (by have:=hls x (by simp);omega)) ?_;refine xp rfl (eK rfl rfl 0 rfl ha hn0) ?_;refine bQ rfl (bU H.lS rfl rfl rfl hcell hfz) ?_;rintro _ _ ⟨rfl,rfl⟩;refine fu ?_;have hw2:=hw1.set ha hn0 (.string (s++x));exact fin _ _ _ ((s++x)::r) _ _ (by exact sb rfl) hw2 (he1.set hg _) (by unfold lD;rw[if_neg hs0];simp[hw0];omega)
         · have hmade:=pF h1 [.string s] 9 1 rfl (by decide) h.size he1.size
           have hrow1:n=0\/∃b o,oa1=some ⟨b,o,none⟩/\Lw.rowAt (h1.push (.cells [Value.string s].toArray 9)) b o (l.map .string) :=
            hw1.row.imp id fun⟨b,o,ha,hr⟩=>⟨b,o,ha,(Ext.push (fun _=>False) _ _).rowAt (fun k=>k) hr⟩
           refine ah ?_;refine xo rfl (sO [_]) ?_;rintro _ _ ⟨rfl,rfl⟩;refine ah ?_;refine xo rfl (az.append underlying22 H.xw rfl rfl hmade (by simp[hn]) hrow1 (AF l) (by simp only[maxLen];omega) (by omega) (by have:=he1.size;simp;omega)) ?_;rintro v2 h2 ⟨ho2,he2,-,-⟩;refine b7 ?_;refine fu ?_;obtain⟨oa2,c2,rfl,hw2⟩:=ho2.open
           have hadd:(s::l).take 10=lD l s way:=by
            unfold lD;rw[if_neg hs0];cases l with
            |nil=>rfl
            |cons x r=>simp at hn;simp only;rw[if_neg (by omega),if_neg (by omega)]
           exact fin _ _ _ (s::l) _ _ (by exact sb rfl) hw2 (Ext.own (he1.push _) hmade (Nat.le_refl _) he2) hadd
theorem GN (l:List By) (s:By) (way:Int):lD (l.map bs) (bs s) way=(oe l s way).map bs:=by
 have hz:(bs s=l7)=(s=[]):=propext ⟨fun e=>gX (m:=[]) e,fun e=>by rw[e];rfl⟩;unfold lD oe;simp only[hz];cases l with
 |nil=>split<;>rfl
 |cons x r =>
  simp only[List.map_cons,fK]
  repeat' split
  all_goals simp only[List.map_take,List.map_cons]
theorem FC (k:bC sx h O v l):bC .str h O v (l.map bs):=by
 obtain⟨oa,n,c,rfl,hl,hn,hc,hk⟩:=k;refine⟨oa,n,c,rfl,by rw[List.length_map];exact hl,hn,hc,fun i y hy=>?_⟩;rw[List.getElem?_map] at hy;cases hx:l[i]? with
 |none=>rw[hx] at hy;cases hy
 |some x=>rw[hx] at hy;cases hy;exact hk i x hx
theorem Ks {base:Nat}{n:Nat}(k:ax h base 9 1 v n ((l.map bs).map .string)) (hn:n=l.length) (ho:∀b,base<=b->¬O b):bC sx h O v l:=by
 subst hn;rw[List.map_map] at k;exact ax.shut (enc:=fun s=>Value.string (bs s)) k ho
theorem Eg {s:By}(way:Int) (hv:bC sx h O v l) (hO:∀y,O y->y<h.size) (hl:l.length<=1000000) (hs:s.length<=1000000) (hls:∀x∈l,x.length<=100000000) :
 af Tryz.prog 149 #[v,.string (bs s),.int .i64 way] h (aX fun r h'=>bC sx h' O r (oe l s way)/\ak h h') :=
 (CA way (FC hv) (by rw[List.length_map];exact hl) (by rw[aF];exact hs) (fun x hx=>by obtain⟨y,hy,rfl⟩:=List.mem_map.1 hx;rw[aF];exact hls y hy)).ret fun r h' ⟨ho,he⟩=>⟨by
  rw[GN] at ho;exact Ks ho (by rw[List.length_map]) (fun b hb k=>by have:=hO b k;omega),he⟩
end
end Go.Proofs.YtpjgdgdnbkjoiaaGreatDoor
namespace Go.Proofs.YtpjgdgdnbkjoiaaGreatDoor
open Go Go.Lw
set_option maxRecDepth 20000
theorem Pf:Go.Proofs.Builder.Extra Tryz.prog Tryz.tY where
  sizeBuilder:=by kernel_rfl
  liesBuilder:=by kernel_rfl
  t5:=Tryz.mc.t5
  a5:=Tryz.mc.a5
  z5:=Tryz.mc.z5
  v5:=Tryz.mc.v5
  infoByte:=by kernel_rfl
  cellsByte:=by kernel_rfl
  sizeByte:=by kernel_rfl
  neB5:=by decide
theorem Ir (t:By):∀n,Lib.repeatL t n=uK t n
  | 0=>rfl
  |n+1=>by rw[uK,<-Ir t n];rfl
theorem zi {h:ai}(t:By) (n:Nat) (ht:t.length<=16384) (hn:n<=1000):af Tryz.prog 187 #[.string (bs t),.int .i64 (n:Nat)] h (aX fun r h'=>r= .string (bs (uK t n))/\ak h h'):=by
  have hm:t.length*n<=16384*1000:=Nat.mul_le_mul ht hn;refine af.oY fun w hw=>?_
  subst hw;refine(Any.strings_Repeat Tryz.mc Pf (bs t) n w (by omega) (by rw[aF];omega)).mono ?_;rintro e w' ⟨rfl,hb⟩;refine⟨_,rfl,⟨?_,⟨hb.size,fun b hlt _=>hb.block b hlt⟩⟩,hb.os,hb.tape,hb.output⟩;rw[jr,Ir];rfl
theorem BX (t:By):∀n,(uK t n).length=n*t.length
  | 0=>by simp[uK]
  |n+1=>by rw[uK,List.length_append,BX t n,Nat.succ_mul];omega
end Go.Proofs.YtpjgdgdnbkjoiaaGreatDoor
namespace Go.Proofs.YtpjgdgdnbkjoiaaGreatDoor
open Go.Proofs.Tryz
open Go Go.Lw
set_option maxRecDepth 20000 set_option maxHeartbeats 4000000
section
variable {h:ai}{O:Nat->Prop}{v:Value}{s:MS}{B:Nat}
theorem Dw (t:By) (n:Int) (ht:t.length<=100000000):af Tryz.prog 143 #[.string (bs t),.int .i64 n] h (aX fun r h'=>r= .tuple #[.string (bs ((jZ t n).getD [])),.bool (jZ t n).isSome]/\ak h h'):=by
 have hbt:=aF t;obtain⟨m,hm⟩:∃m:Nat,dB n=(m:Nat):=⟨(dB n).toNat,by unfold dB;omega⟩
 have hm1:m<=1000:=by unfold dB at hm;omega
 have hR:jZ t n=if t≠[]/\((16384 / t.length:Nat):Int)<(m:Nat) then none else some (uK t m):=by unfold jZ;rw[hm,Int.toNat_natCast]
 refine cu ?_;refine ah ?_;refine xo rfl (bl rfl (nB n)) ?_;rintro _ h ⟨rfl,rfl⟩;rw[hm];refine b7 ?_;refine fu ?_
 iterate 2 refine bZ ?_
 obtain⟨D0,hD0⟩:∃D0,16384 / t.length=D0:=⟨_,rfl⟩
 rw[hD0] at hR;refine jR [(16,.bool (decide (t≠[]/\(D0:Int)<(m:Nat))))] rfl ?_ ?_
 · refine ah ?_;refine gU 10 (fun c=>?_) (fun c=>?_)
   · have c:=of_decide_eq_true c;have hne:t≠[]:=fun e=>c (by rw[e];rfl)
     have hp:=List.length_pos_iff.2 hne;have hdiv:(16384:Int).tdiv ((t.length:Nat):Int)=((16384 / t.length:Nat):Int):=rfl;have hdl:16384 / t.length<=16384:=Nat.div_le_self _ _;rw[hD0] at hdiv hdl
     iterate 3 refine b7 ?_
     refine xp rfl (Bu rfl rfl (by omega)) ?_;rw[hbt,hdiv,wrap_i64 ⟨by omega,by omega⟩];refine ah ?_;exact bq rfl ⟨aq rfl (by rw[decide_eq_decide];exact⟨fun q=>⟨hne,q⟩,fun q=>q.2⟩),sb rfl⟩
   · have c:=of_decide_eq_false c;have he:t=[]:=gX (by by_cases q:bs t=bs [];exact q;exact absurd q c);refine ah ?_;exact bq rfl ⟨aq rfl (by rw[decide_eq_false (fun q=>q.1 he)]),sb rfl⟩
 · refine bN (fun hc=>?_) (fun hc=>?_)
   · rw[if_pos hc] at hR;rw[hR];refine ah ?_;refine bE ?_;exact⟨_,rfl,rfl,Ext.refl _ _⟩
   · rw[if_neg hc] at hR;rw[hR]
     have htl:m=0\/t.length<=16384:=by
      by_cases he:t=[]
      · right;rw[he];simp
      · rcases Nat.eq_zero_or_pos m with q|q
        · exact .inl q
        · right
          have hp:=List.length_pos_iff.2 he
          by_cases hg:t.length<=16384
          · exact hg
          · exact absurd ⟨he,by rw[<-hD0,Nat.div_eq_of_lt (by omega)];omega⟩ hc
     have hcall:af Tryz.prog 187 #[.string (bs t),.int .i64 (m:Nat)] h (aX fun r h'=>r= .string (bs (uK t m))/\ak h h'):=by
      rcases htl with rfl|htl
      · exact af.AH (h:=h) (fun w=>Tryz.strings_Repeat_zero (bs t) w) |>.ret fun r h' ⟨h1,h2⟩=>⟨h1,by subst h2;exact Ext.refl _ _⟩
      · exact zi t m htl hm1
     refine ah ?_;refine xo rfl (bl rfl hcall) ?_;rintro _ g ⟨rfl,e⟩;refine ah ?_;refine bE ?_;exact⟨_,rfl,rfl,e⟩
theorem Gp {t x:By}{n:Int}(h:jZ t n=some x):x.length<=16384:=by
 unfold jZ at h;split at h
 · cases h
 · rename_i q;cases h;rw[BX]
   by_cases he:t=[]
   · rw[he];simp
   · have hp:=List.length_pos_iff.2 he
     have hle:(dB n).toNat<=16384 / t.length:=by
      by_cases hg:(dB n).toNat<=16384 / t.length
      · exact hg
      · exact absurd ⟨he,by generalize 16384 / t.length=D at *;omega⟩ q
     exact Nat.le_trans (Nat.mul_le_mul_right _ hle) (Nat.div_mul_le_self _ _)
theorem AY (k:eJ O h v s) (hO:∀y,O y->y<h.size) (hI:MI B s) (hB:B<=100000000) (hc:fo s) (t:By) (ht:t.length<=100000000) (n last:Int) :
 af Tryz.prog 93 #[v,.string (bs t),.int .i64 n,.int .i64 last] h (aX fun r h'=>eJ O h' r (gk s t n last)/\ak h h'):=by
 obtain⟨p,hp⟩:∃p:Nat,s.cur=(p:Nat):=⟨s.cur.toNat,by unfold fo at hc;omega⟩
 have hpl:p<=s.text.length:=by unfold fo at hc;omega
 obtain⟨xa,xn,xc,ya,yn,yc,za,zn,zc,ua,un,uc,rfl,hS⟩:=eJ.get k;refine cu ?_;refine ah ?_;refine xo rfl (nk) ?_;rintro _ h1 ⟨rfl,k1,e1,z1⟩;refine xo rfl (iT) ?_;rintro _ h2 ⟨rfl,k2,e2,z2⟩;have F:Fr O h h2 h.size h1.size s _ _ _ _:=ef hS hO (e1.trans e2) (k1.aj e2) k2 (Nat.le_refl _) (by omega) (by omega);refine ah ?_;refine xo rfl (bl rfl (Dw t n ht)) ?_;rintro _ g ⟨rfl,e⟩;have F:=F.aj e
 rcases hR:jZ t n with _|x
 · refine ah ?_;refine mX rfl (by simp) ?_;have hM:gk s t n last=dL s:=by unfold gk;rw[hR]
   rw[hM];refine ah ?_;refine xp rfl (eN rfl F.blk.row) ?_;refine xo rfl (bl rfl (mK F.tU F.hO hI hB)) ?_;rintro v3 h3 ⟨kv,e3⟩;obtain⟨_,_,_,_,_,_,_,_,_,_,_,_,rfl,hT⟩:=eJ.get kv;have F:=F.aj e3;refine bQ rfl (er rfl rfl F.res ms1) ?_;rintro _ gz ⟨rfl,kz,xz,zz⟩;refine ah ?_;refine jQ (jd rfl kz.row jP) ?_;exact⟨_,rfl,F.tr hT xz⟩
 · have hxl:=Gp hR;refine ah ?_;refine mQ rfl (by simp) ?_
   iterate 2 refine bZ ?_
   refine G.CO [(11,.int .i64 s.cur),(12,.bool (decide (last=1/\s.last=1/\s.to_=s.cur)))] [(0,_),(1,_),(2,_),(3,_),(4,_),(8,_),(9,_),(10,_),(20,_)] ⟨rfl,rfl,rfl,rfl,rfl,rfl,rfl,rfl,rfl,trivial⟩ func93 H.mixed rfl (by kernel_rfl) ?_ ?_
   · refine Ng ?_;refine nj rfl (aM rfl (F.blk.cell (i:=1) rfl)) ?_;refine ah ?_;refine Qg 27 (fun c1=>?_) (fun c1=>?_)
     · have c1:=of_decide_eq_true c1;refine ah ?_;refine nj rfl (aM rfl (F.blk.cell (i:=8) rfl)) ?_;refine ah ?_;refine Qg 32 (fun c2=>?_) (fun c2=>?_)
       · have c2:=of_decide_eq_true c2;refine ah ?_;refine nj rfl (aM rfl (F.blk.cell (i:=10) rfl)) ?_;refine ah ?_;refine nj rfl (aM rfl (F.blk.cell (i:=1) rfl)) ?_;refine ah ?_;exact L7 rfl ⟨rfl,aq rfl (by rw[decide_eq_decide];exact⟨fun q=>⟨c1,c2,q⟩,fun q=>q.2.2⟩),sb rfl⟩
       · have c2:=of_decide_eq_false c2;refine ah ?_;exact L7 rfl ⟨rfl,aq rfl (by rw[decide_eq_false (fun q=>c2 q.2.1)]),sb rfl⟩
     · have c1:=of_decide_eq_false c1;refine ah ?_;exact L7 rfl ⟨rfl,aq rfl (by rw[decide_eq_false (fun q=>c1 q.1)]),sb rfl⟩
   · rw[hp];refine ah ?_;refine xp rfl (eN rfl F.blk.row) ?_;refine ah ?_;refine xo rfl (bl rfl (zj F.tU F.hO hI hB p hpl x (by omega))) ?_;rintro v3 h3 ⟨⟨w3,rfl,kw⟩,e3⟩;obtain⟨_,_,_,_,_,_,_,_,_,_,_,_,rfl,hT⟩:=eJ.get kw;have F:=F.aj e3;refine ah ?_;refine bQ rfl (er rfl rfl F.blk ms1) ?_;rintro _ h4 ⟨rfl,k4,x4,z4⟩;refine ah ?_;have F:=F.set k4 x4 hT;have hpt:s.cur.toNat=p:=by omega
     rcases hq:(dN s p x).2
     · refine mX rfl (by simp) ?_;have hM:gk s t n last=(dN s p x).1:=by unfold gk;rw[hR];simp only;rw[hpt,if_pos hq]
       rw[hM];refine ah ?_;refine xp rfl (eN rfl F.blk.row) ?_;refine bQ rfl (er rfl rfl F.res ms1) ?_;rintro _ gz ⟨rfl,kz,xz,zz⟩;refine ah ?_;refine jQ (jd rfl kz.row jP) ?_;exact⟨_,rfl,F.out xz⟩
     · refine mQ rfl (by simp) ?_;have hM:gk s t n last= { (dN s p x).1 with from_:=if last=1/\s.last=1/\s.to_=s.cur then s.from_ else s.cur,last:=last,to_:=(dN s p x).1.cur }:=by unfold gk;rw[hR];simp only;rw[hpt,if_neg (by rw[hq];simp)]
       have hfr:(dN s p x).1.from_=s.from_:=by unfold dN;split<;>rfl
       rw[hM];refine ah ?_
       rcases hg:decide (last=1/\s.last=1/\s.to_=(p:Nat))
       · refine mX rfl (by simp) ?_;have hg:=of_decide_eq_false hg;rw[if_neg (by rw[hp];exact hg),hp];refine ah ?_;refine bQ rfl (gq rfl rfl F.blk) ?_;rintro _ h4 ⟨rfl,k4,x4,z4⟩;have F:=F.set (t:= { (dN s p x).1 with from_:=(p:Nat) }) k4 x4 (F.ms.of rfl rfl rfl rfl);refine ah ?_;refine xp rfl (aM rfl (F.blk.cell (i:=1) rfl)) ?_;refine ah ?_;refine bQ rfl (gq rfl rfl F.blk) ?_;rintro _ h4 ⟨rfl,k4,x4,z4⟩;have F:=F.set (t:= { (dN s p x).1 with from_:=(p:Nat),last:=last }) k4 x4 (F.ms.of rfl rfl rfl rfl);refine ah ?_;refine bQ rfl (gq rfl rfl F.blk) ?_;rintro _ h4 ⟨rfl,k4,x4,z4⟩;have F:=F.set (t:= { (dN s p x).1 with from_:=(p:Nat),last:=last,to_:=(dN s p x).1.cur }) k4 x4 (F.ms.of rfl rfl rfl rfl);refine ah ?_;refine xp rfl (eN rfl F.blk.row) ?_;refine bQ rfl (er rfl rfl F.res ms1) ?_;rintro _ gz ⟨rfl,kz,xz,zz⟩;refine ah ?_;refine jQ (jd rfl kz.row jP) ?_;exact⟨_,rfl,F.out xz⟩
       · refine mQ rfl (by simp) ?_;have hg:=of_decide_eq_true hg;rw[if_pos (by rw[hp];exact hg),<-hfr];refine ah ?_;refine xp rfl (aM rfl (F.blk.cell (i:=1) rfl)) ?_;refine ah ?_;refine bQ rfl (gq rfl rfl F.blk) ?_;rintro _ h4 ⟨rfl,k4,x4,z4⟩;have F:=F.set (t:= { (dN s p x).1 with last:=last }) k4 x4 (F.ms.of rfl rfl rfl rfl);refine ah ?_;refine bQ rfl (gq rfl rfl F.blk) ?_;rintro _ h4 ⟨rfl,k4,x4,z4⟩;have F:=F.set (t:= { (dN s p x).1 with last:=last,to_:=(dN s p x).1.cur }) k4 x4 (F.ms.of rfl rfl rfl rfl);refine ah ?_;refine xp rfl (eN rfl F.blk.row) ?_;refine bQ rfl (er rfl rfl F.res ms1) ?_;rintro _ gz ⟨rfl,kz,xz,zz⟩;refine ah ?_;refine jQ (jd rfl kz.row jP) ?_;exact⟨_,rfl,F.out xz⟩
theorem wM (k:eJ O h v s) (hO:∀y,O y->y<h.size) (hI:MI B s) (hB:B<=100000000) (a b:Nat) (hab:a<=b) (hb:b<=s.text.length) (d:Bool) :
 af Tryz.prog 148 #[v,.int .i64 (a:Nat),.int .i64 (b:Nat),.bool d] h (aX fun r h'=>eJ O h' r (p6 s a b d)/\ak h h'):=by
 have hbs:=aF s.text;have htx:=hI.text;have hrn:=hI.ringn;have hq:=jq s.text a b hab;have hpl:((s.text.take b).drop a).length<=16384:=rN _ _ _ _ htx;obtain⟨xa,xn,xc,ya,yn,yc,za,zn,zc,ua,un,uc,rfl,hS⟩:=eJ.get k;refine cu ?_;refine ah ?_;refine xo rfl (nk) ?_;rintro _ h1 ⟨rfl,k1,e1,z1⟩;refine xo rfl (iT) ?_;rintro _ h2 ⟨rfl,k2,e2,z2⟩;have F:Fr O h h2 h.size h1.size s _ _ _ _:=ef hS hO (e1.trans e2) (k1.aj e2) k2 (Nat.le_refl _) (by omega) (by omega);have hM:¬Array.size h2<=h.size:=by omega
 refine ah ?_;refine xp rfl (aM rfl (F.blk.cell (i:=8) rfl)) ?_;refine ah ?_
 have j1:∀(w:Int) (h':ai) (ρ':Env),Sub [(1,.int .i64 (a:Nat)),(2,.int .i64 (b:Nat)),(4,.pointer (some ⟨h.size,0,none⟩)),(8,.pointer (some ⟨h1.size,0,none⟩)),(9,.int .i64 w)] ρ'->h'=h2/\w=(if s.last=2 then (if d=true then 1 else -1) else 0)->G Tryz.prog 148 Tryz.f148 [.code [1,1,1]] ρ' h' (aX fun r h'=>eJ O h' r (p6 s a b d)/\ak h h'):=by
  rintro w h2 ρ' hsub ⟨rfl,hw⟩;refine G.sub (ρ':=[(1,.int .i64 (a:Nat)),(2,.int .i64 (b:Nat)),(4,.pointer (some ⟨h.size,0,none⟩)),(8,.pointer (some ⟨h1.size,0,none⟩)),(9,.int .i64 w)]) hsub ?_;have hkc:∀g,ak h2 g->af Tryz.prog 149 #[.slice xa xn xc,.string (bs ((s.text.take b).drop a)),.int .i64 w] g (aX fun r h'=>bC sx h' (Ka h.size h1.size O) r (oe s.ring ((s.text.take b).drop a) w)/\ak g h'):=fun g e=>Eg w (F.ms.ring.aj e) (fun y hy=>by have:=F.hO y hy;have:=e.size;omega) (by omega) (by omega) (fun x hx=>Nat.le_trans (hI.ring x hx) hB)
  refine ah ?_;refine L8 11 10 ?_;refine aZ 0 ?_;refine cA 1 rfl (fun h' e=>aM rfl (e.cell hM (F.blk.cell (i:=4) rfl))) ?_;refine aZ 2 ?_;refine cA 3 rfl (fun h' e=>aM rfl (e.cell hM (F.blk.cell (i:=0) rfl))) ?_;refine aZ 4 ?_;refine aZ 5 ?_;refine cA 6 rfl (fun h' e=>an.rG underlying9 rfl rfl a rfl rfl b rfl hab (by omega)) ?_;refine aZ 7 ?_;refine iL 8 rfl (bl rfl ((hq▸hkc _ (Ext.refl _ _)))) ?_;rintro v3 h3 ⟨hv3,e3⟩;refine⟨fun _=>e3.of,?_⟩;refine aZ 9 ?_;refine pO 10 rfl (gq rfl rfl ((F.aj e3).blk) (bC.one hv3)) ?_;rintro _ h4 ⟨rfl,k4,x4,z4⟩;refine⟨nofun,?_⟩;obtain⟨na,nn,nc,rfl,_⟩:=hv3.open;have F:=F.aj e3;have F:=F.set (t:=p6 s a b d) k4 x4 ⟨by rw[hw] at hv3;exact hv3,F.ms.hist,F.ms.lines,F.ms.flags⟩;refine pQ ?_;refine ah ?_;refine xp rfl (eN rfl F.blk.row) ?_;refine bQ rfl (er rfl rfl F.res ms1) ?_;rintro _ gz ⟨rfl,kz,xz,zz⟩;refine ah ?_;refine jQ (jd rfl kz.row jP) ?_;exact⟨_,rfl,F.out xz⟩
 refine bN (fun c1=>?_) (fun c1=>?_)
 · refine ah ?_;refine Dm (fun c2=>?_) (fun c2=>?_)
   · refine eu ?_;refine b7 ?_;refine fu ?_;exact j1 1 _ _ (by exact sb rfl) ⟨rfl,by rw[if_pos c1,if_pos c2]⟩
   · refine bZ ?_;exact j1 (-1) _ _ (by exact sb rfl) ⟨rfl,by rw[if_pos c1,if_neg (by rw[c2];simp)]⟩
 · refine bZ ?_;exact j1 0 _ _ (by exact sb rfl) ⟨rfl,by rw[if_neg c1]⟩
theorem BY (hg:kF h) (k:eJ O h v s) (htx:s.text.length<=1000000) (p:Nat) (hp:s.cur=(p:Nat)) (c:Cm) :
 af Tryz.prog 146 #[v,HE c] h (aX fun r h'=>r= .tuple #[.int .i64 (min (dR s c) p:Nat),.int .i64 (max (dR s c) p:Nat),.bool (decide (p<=dR s c))]/\ak h h'):=by
 obtain⟨a0,h0⟩:∃a0,lV s.text s.cur c.way (dB c.n)=a0:=⟨_,rfl⟩
 obtain⟨a1,h1'⟩:∃a1,(if c.incl=true/\s.cur<=(a0:Int)/\a0<eI s.text a0 then lV s.text a0 1 1 else a0)=a1:=⟨_,rfl⟩
 have hR:dR s c=if (a1:Int)=s.cur/\c.way=3/\c.kind=5/\0<c.n then lV s.text a1 1 1 else a1:=by unfold dR;rw[h0];simp only;rw[h1']
 have hl0:a0<=s.text.length:=by rw[<-h0];exact vv _ _ _ _
 obtain⟨xa,xn,xc,ya,yn,yc,za,zn,zc,ua,un,uc,rfl,hS⟩:=eJ.get k;refine cu ?_;refine ah ?_;refine xo rfl (nk) ?_;rintro _ h1 ⟨rfl,k1,e1,z1⟩;refine xo rfl (nk) ?_;rintro _ h2 ⟨rfl,k2,e2,z2⟩;have kb:aE h2 h.size 31 (sP s _ _ _ _):=k1.aj e2;have kc:aE h2 h1.size 28 (Ey c):=k2;have e02:=e1.trans e2;have ht:=ry (hg.aj e02) s.text s.cur c.way (dB c.n) htx;have hM1:¬Array.size h2<=h.size:=by omega
 have hM2:¬Array.size h2<=h1.size:=by omega
 rw[h0] at ht;refine ah ?_;refine L8 11 11 ?_;refine aZ 0 ?_;refine cA 1 rfl (fun h' e=>aM rfl (e.cell hM1 (kb.cell (i:=0) rfl))) ?_;refine aZ 2 ?_;refine cA 3 rfl (fun h' e=>aM rfl (e.cell hM1 (kb.cell (i:=1) rfl))) ?_;refine aZ 4 ?_;refine cA 5 rfl (fun h' e=>aM rfl (e.cell hM2 (kc.cell (i:=1) rfl))) ?_;refine aZ 6 ?_;refine cA 7 rfl (fun h' e=>aM rfl (e.cell hM2 (kc.cell (i:=2) rfl))) ?_;refine iL 8 rfl (bl rfl (nB c.n)) ?_;rintro _ g3 ⟨rfl,rfl⟩;refine⟨fun _=>Ext.refl _ _,?_⟩;refine iL 9 rfl (bl rfl ht) ?_;rintro _ h3 ⟨rfl,e3⟩;refine⟨fun _=>e3.of,?_⟩;have kb:=kb.aj e3;have kc:=kc.aj e3;have e03:=e02.trans e3;refine aZ 10 ?_;refine pQ ?_
 iterate 2 refine bZ ?_
 refine jR [(33,.bool (decide (c.incl=true/\s.cur<=(a0:Int)/\a0<eI s.text a0)))] rfl ?_ ?_
 · refine ah ?_;refine xp rfl (aM rfl (kc.cell (i:=4) rfl)) ?_;refine ah ?_;refine gU 20 (fun c1=>?_) (fun c1=>?_)
   · refine ah ?_;refine xp rfl (aM rfl (kb.cell (i:=1) rfl)) ?_;refine ah ?_;refine gU 26 (fun c2=>?_) (fun c2=>?_)
     · have c2:=of_decide_eq_true c2;refine ah ?_;refine xp rfl (aM rfl (kb.cell (i:=0) rfl)) ?_;refine ah ?_;refine xo rfl (bl rfl (iA s.text a0 hl0 htx)) ?_;rintro _ h3 ⟨rfl,rfl⟩;refine ah ?_;exact bq rfl ⟨aq rfl (by rw[decide_eq_decide];exact⟨fun q=>⟨c1,c2,by omega⟩,fun q=>by omega⟩),sb rfl⟩
     · have c2:=of_decide_eq_false c2;refine ah ?_;exact bq rfl ⟨aq rfl (by rw[decide_eq_false (fun q=>c2 q.2.1)]),sb rfl⟩
   · refine ah ?_;exact bq rfl ⟨aq rfl (by rw[decide_eq_false (fun q=>by rw[c1] at q;exact absurd q.1 (by simp))]),sb rfl⟩
 · have j1:∀(u:Unit) (h':ai) (ρ':Env),Sub [(2,.pointer (some ⟨h.size,0,none⟩)),(3,.pointer (some ⟨h1.size,0,none⟩)),(7,.int .i64 (a1:Nat))] ρ'->ak h3 h'->G Tryz.prog 146 f146 [.code [1,1,1]] ρ' h' (aX fun r h'=>r= .tuple #[.int .i64 (min (dR s c) p:Nat),.int .i64 (max (dR s c) p:Nat),.bool (decide (p<=dR s c))]/\ak h h'):=by
    rintro u h4 ρ' hsub e4;refine G.sub (ρ':=[(2,.pointer (some ⟨h.size,0,none⟩)),(3,.pointer (some ⟨h1.size,0,none⟩)),(7,.int .i64 (a1:Nat))]) hsub ?_;have kb:=kb.aj e4;have kc:=kc.aj e4;have e04:=e03.trans e4;obtain⟨R,hRR⟩:∃R,dR s c=R:=⟨_,rfl⟩
    rw[hRR] at hR ⊢
    iterate 2 refine bZ ?_
    refine jR [(56,.bool (decide ((a1:Int)=s.cur/\c.way=3/\c.kind=5/\0<c.n)))] rfl ?_ ?_
    · refine ah ?_;refine xp rfl (aM rfl (kb.cell (i:=1) rfl)) ?_;refine ah ?_;refine gU 42 (fun c1=>?_) (fun c1=>?_)
      · have c1:=of_decide_eq_true c1;refine ah ?_;refine xp rfl (aM rfl (kc.cell (i:=1) rfl)) ?_;refine ah ?_;refine gU 47 (fun c2=>?_) (fun c2=>?_)
        · have c2:=of_decide_eq_true c2;refine ah ?_;refine xp rfl (aM rfl (kc.cell (i:=0) rfl)) ?_;refine ah ?_;refine gU 52 (fun c3=>?_) (fun c3=>?_)
          · have c3:=of_decide_eq_true c3;refine ah ?_;refine xp rfl (aM rfl (kc.cell (i:=2) rfl)) ?_;refine ah ?_;exact bq rfl ⟨aq rfl (by rw[decide_eq_decide];exact⟨fun q=>⟨c1,c2,c3,q⟩,fun q=>q.2.2.2⟩),sb rfl⟩
          · have c3:=of_decide_eq_false c3;refine ah ?_;exact bq rfl ⟨aq rfl (by rw[decide_eq_false (fun q=>c3 q.2.2.1)]),sb rfl⟩
        · have c2:=of_decide_eq_false c2;refine ah ?_;exact bq rfl ⟨aq rfl (by rw[decide_eq_false (fun q=>c2 q.2.1)]),sb rfl⟩
      · have c1:=of_decide_eq_false c1;refine ah ?_;exact bq rfl ⟨aq rfl (by rw[decide_eq_false (fun q=>c1 q.1)]),sb rfl⟩
    · have j2:∀(u:Unit) (h':ai) (ρ':Env),Sub [(2,.pointer (some ⟨h.size,0,none⟩)),(3,.pointer (some ⟨h1.size,0,none⟩)),(7,.int .i64 (R:Nat))] ρ'->ak h4 h'->G Tryz.prog 146 f146 [.code [1,1,1,1]] ρ' h' (aX fun r h'=>r= .tuple #[.int .i64 (min R p:Nat),.int .i64 (max R p:Nat),.bool (decide (p<=R))]/\ak h h'):=by
       rintro u h5 ρ' hsub e5;refine G.sub (ρ':=[(2,.pointer (some ⟨h.size,0,none⟩)),(3,.pointer (some ⟨h1.size,0,none⟩)),(7,.int .i64 (R:Nat))]) hsub ?_;have kb:=kb.aj e5;have kc:=kc.aj e5;refine ah ?_;refine nj rfl (aM rfl (kb.cell (i:=1) rfl)) ?_;refine ah ?_;refine nj rfl (aM rfl (kb.cell (i:=1) rfl)) ?_;refine ah ?_;refine nj rfl (aM rfl (kb.cell (i:=1) rfl)) ?_;refine ah ?_;refine bE ?_;have q1:(if s.cur<(R:Nat) then s.cur else (R:Int))=(min R p:Nat):=by rw[hp];split<;>omega
       have q2:(if (R:Int)<s.cur then s.cur else (R:Int))=(max R p:Nat):=by rw[hp];split<;>omega
       have q3:decide (s.cur<=(R:Int))=decide (p<=R):=by rw[hp,decide_eq_decide];omega
       exact⟨_,rfl,by rw[<-q1,<-q2,<-q3];rfl,e04.trans e5⟩
      refine bN (fun hc=>?_) (fun hc=>?_)
      · have ht:=ry (hg.aj e04) s.text (a1:Nat) 1 1 htx;rw[if_pos hc] at hR;rw[<-hR] at ht;refine ah ?_;refine xp rfl (aM rfl (kb.cell (i:=0) rfl)) ?_;refine ah ?_;refine xo rfl (bl rfl ht) ?_;rintro _ h5 ⟨rfl,e5⟩;refine b7 ?_;refine fu ?_;exact j2 () _ _ (by exact sb rfl) e5
      · rw[if_neg hc] at hR;subst hR;refine bZ ?_;exact j2 () _ _ (by exact sb rfl) (Ext.refl _ _)
   refine bN (fun hc=>?_) (fun hc=>?_)
   · have ht:=ry (hg.aj e03) s.text (a0:Nat) 1 1 htx;rw[if_pos hc] at h1';rw[h1'] at ht;refine ah ?_;refine xp rfl (aM rfl (kb.cell (i:=0) rfl)) ?_;refine ah ?_;refine xo rfl (bl rfl ht) ?_;rintro _ h4 ⟨rfl,e4⟩;refine b7 ?_;refine fu ?_;exact j1 () _ _ (by exact sb rfl) e4
   · rw[if_neg hc] at h1';subst h1';refine bZ ?_;exact j1 () _ _ (by exact sb rfl) (Ext.refl _ _)
theorem G0 (hg:kF h) (k:eJ O h v s) (hO:∀y,O y->y<h.size) (hI:MI B s) (hB:B<=10000000) (hc:fo s) (c:Cm) :
 af Tryz.prog 95 #[v,HE c] h (aX fun r h'=>eJ O h' r (G1 s c)/\ak h h'):=by
 obtain⟨p,hp⟩:∃p:Nat,s.cur=(p:Nat):=⟨s.cur.toNat,by unfold fo at hc;omega⟩
 have hpl:p<=s.text.length:=by unfold fo at hc;omega
 have htx:=hI.text;have hrl:=Gs (s:=s) c;obtain⟨R,hR⟩:∃R,dR s c=R:=⟨_,rfl⟩
 rw[hR] at hrl
 have hF:G1 s c=if min R p=max R p then dL s else if c.kind=4 then { qO s (min R p) (max R p) with last:=0 } else if c.kind=5 then { qO (p6 s (min R p) (max R p) (decide (p<=R))) (min R p) (max R p) with last:=2 } else { p6 { s with last:=0 } (min R p) (max R p) (decide (p<=R)) with cur:=(min R p:Nat) }:=by
  have hd:decide (s.cur<=(R:Int))=decide (p<=R):=by rw[hp,decide_eq_decide];omega
  unfold G1;simp only;rw[hR,hd,hp,Int.toNat_natCast]
 have hrc:∀{g:ai}{w:Value} {O2},eJ O2 g w s->ak h g->af Tryz.prog 146 #[w,HE c] g _:=fun {g} {w} {O2} kw e=>BY (hg.aj e) kw (by omega) p hp c
 rw[hR] at hrc;rw[hF];have ha:min R p<=s.text.length:=by omega
 have hb:max R p<=s.text.length:=by omega
 have hab:min R p<=max R p:=by omega
 generalize min R p=a at *;generalize max R p=b at *;generalize decide (p<=R)=d at *;obtain⟨xa,xn,xc,ya,yn,yc,za,zn,zc,ua,un,uc,rfl,hS⟩:=eJ.get k;refine cu ?_;refine ah ?_;refine xo rfl (nk) ?_;rintro _ h1 ⟨rfl,k1,e1,z1⟩;refine xo rfl (nk) ?_;rintro _ h2 ⟨rfl,k2,e2,z2⟩;refine xo rfl (iT) ?_;rintro _ h3 ⟨rfl,k3,e3,z3⟩;have F:Ke O h h3 h.size h2.size h1.size c s _ _ _ _:=⟨ef hS hO ((e1.trans e2).trans e3) ((k1.aj e2).aj e3) k3 (Nat.le_refl _) (by omega) (by omega),k2.aj e3,by omega⟩
 refine ah ?_;refine xp rfl (eN rfl F.blk.row) ?_;refine xp rfl (eN rfl F.cmd.row) ?_;refine xo rfl (bl rfl (hrc F.tU F.ext)) ?_;rintro _ g ⟨rfl,e⟩;have F:=F.aj e;refine ah ?_;refine bN (fun c1=>?_) (fun c1=>?_)
 · rw[if_pos (by omega)];refine ah ?_;refine xp rfl (eN rfl F.blk.row) ?_;refine xo rfl (bl rfl (mK F.tU F.hO hI (by omega))) ?_;rintro v3 h3 ⟨kv,e3⟩;obtain⟨_,_,_,_,_,_,_,_,_,_,_,_,rfl,hT⟩:=eJ.get kv;have F:=F.aj e3;refine bQ rfl (er rfl rfl F.res ms1) ?_;rintro _ gz ⟨rfl,kz,xz,zz⟩;refine ah ?_;refine jQ (jd rfl kz.row jP) ?_;exact⟨_,rfl,F.tr hT xz⟩
 · rw[if_neg (by omega)];refine ah ?_;refine xp rfl (aM rfl (F.cmd.cell (i:=0) rfl)) ?_;refine ah ?_;refine bN (fun c2=>?_) (fun c2=>?_)
   · rw[if_pos c2];refine ah ?_;refine xp rfl (eN rfl F.blk.row) ?_;refine ah ?_;refine xo rfl (bl rfl (zO F.tU F.hO htx a b ha hb)) ?_;rintro v3 h3 ⟨kv,e3⟩;obtain⟨_,_,_,_,_,_,_,_,_,_,_,_,rfl,hT⟩:=eJ.get kv;have F:=F.aj e3;refine bQ rfl (er rfl rfl F.blk ms1) ?_;rintro _ h4 ⟨rfl,k4,x4,z4⟩;have F:=F.set k4 x4 hT;refine ah ?_;refine bQ rfl (gq rfl rfl F.blk) ?_;rintro _ h4 ⟨rfl,k4,x4,z4⟩;have F:=F.set (t:= { qO s a b with last:=0 }) k4 x4 (F.ms.of rfl rfl rfl rfl);refine ah ?_;refine xp rfl (eN rfl F.blk.row) ?_;refine bQ rfl (er rfl rfl F.res ms1) ?_;rintro _ gz ⟨rfl,kz,xz,zz⟩;refine ah ?_;refine jQ (jd rfl kz.row jP) ?_;exact⟨_,rfl,F.out xz⟩
   · rw[if_neg c2];refine ah ?_;refine xp rfl (aM rfl (F.cmd.cell (i:=0) rfl)) ?_;refine ah ?_;refine bN (fun c3=>?_) (fun c3=>?_)
     · rw[if_pos c3];refine ah ?_;refine xp rfl (eN rfl F.blk.row) ?_;refine ah ?_;refine xo rfl (bl rfl (wM F.tU F.hO hI (by omega) a b hab hb d)) ?_;rintro v3 h3 ⟨kv,e3⟩;have F:=F.aj e3;refine ah ?_;refine xo rfl (bl rfl (zO kv F.hO htx a b ha hb)) ?_;rintro v4 h4 ⟨kw,e4⟩;obtain⟨_,_,_,_,_,_,_,_,_,_,_,_,rfl,hT⟩:=eJ.get kw;have F:=F.aj e4;refine bQ rfl (er rfl rfl F.blk ms1) ?_;rintro _ h5 ⟨rfl,k5,x5,z5⟩;have F:=F.set k5 x5 hT;refine ah ?_;refine bQ rfl (gq rfl rfl F.blk) ?_;rintro _ h4 ⟨rfl,k4,x4,z4⟩;have F:=F.set (t:= { qO (p6 s a b d) a b with last:=2 }) k4 x4 (F.ms.of rfl rfl rfl rfl);refine ah ?_;refine xp rfl (eN rfl F.blk.row) ?_;refine bQ rfl (er rfl rfl F.res ms1) ?_;rintro _ gz ⟨rfl,kz,xz,zz⟩;refine ah ?_;refine jQ (jd rfl kz.row jP) ?_;exact⟨_,rfl,F.out xz⟩
     · rw[if_neg c3];have hI2:MI B { s with last:=0 }:=hI.of htx rfl rfl rfl rfl rfl rfl rfl rfl rfl rfl;refine ah ?_;refine bQ rfl (gq rfl rfl F.blk) ?_;rintro _ h4 ⟨rfl,k4,x4,z4⟩;have F:=F.set (t:= { s with last:=0 }) k4 x4 (F.ms.of rfl rfl rfl rfl);refine ah ?_;refine xp rfl (eN rfl F.blk.row) ?_;refine ah ?_;refine xo rfl (bl rfl (wM F.tU F.hO hI2 (by omega) a b hab hb d)) ?_;rintro v3 h3 ⟨kv,e3⟩;obtain⟨_,_,_,_,_,_,_,_,_,_,_,_,rfl,hT⟩:=eJ.get kv;have F:=F.aj e3;refine bQ rfl (er rfl rfl F.blk ms1) ?_;rintro _ h4 ⟨rfl,k4,x4,z4⟩;have F:=F.set k4 x4 hT;refine ah ?_;refine bQ rfl (gq rfl rfl F.blk) ?_;rintro _ h4 ⟨rfl,k4,x4,z4⟩;have F:=F.set (t:= { p6 { s with last:=0 } a b d with cur:=(a:Nat) }) k4 x4 (F.ms.of rfl rfl rfl rfl);refine ah ?_;refine xp rfl (eN rfl F.blk.row) ?_;refine bQ rfl (er rfl rfl F.res ms1) ?_;rintro _ gz ⟨rfl,kz,xz,zz⟩;refine ah ?_;refine jQ (jd rfl kz.row jP) ?_;exact⟨_,rfl,F.out xz⟩
structure Fs (O:Nat->Prop) (h g:ai) (b:Nat) (s:MS) (rv hv lv fv:Value):Prop where
 blk:aE g b 31 (sP s rv hv lv fv)
 ext:ak h g
 hb:h.size<=b
 old:∀y,O y->y<h.size
 ms:vf (fun y=>y=b\/O y) g s rv hv lv fv
section
variable {O:Nat->Prop}{h g g':ai}{b:Nat}{s t:MS}{rv hv lv fv rv' hv' lv' fv':Value}
theorem Fs.aj (F:Fs O h g b s rv hv lv fv) (e:ak g g'):Fs O h g' b s rv hv lv fv:=⟨F.blk.aj e,F.ext.trans e,F.hb,F.old,F.ms.aj e⟩
theorem Fs.tU (F:Fs O h g b s rv hv lv fv):eJ (fun y=>y=b\/O y) g (.agg (sP s rv hv lv fv).toArray) s:=⟨_,_,_,_,rfl,F.ms⟩
theorem Fs.weak (F:Fs O h g b s rv hv lv fv):vf O g s rv hv lv fv:=F.ms.mv (Mv.cL (Ext.refl (fun _=>False) g) fun y hy q=>⟨fun k=>k,fun k=>q (.inr k)⟩)
end
end
end Go.Proofs.YtpjgdgdnbkjoiaaGreatDoor
namespace Go.Proofs
open Go.Shelf
def Tryz.Cu:Go.Shelf.Ren:=⟨fun| 148=>185| 222=>161| 223=>205| 269=>218|n=>n,fun| 9=>9| 3=>3| 4=>4| 5=>5| 146=>281| 51=>280| 46=>246|n=>n,fun|n=>n⟩
theorem Tryz.KJ:Go.Proofs.Lays.n148 Tryz.prog Tryz.Cu:= {
  mixed:=by kernel_rfl
  f148:=Tryz.func185.trans (congrArg some (by kernel_rfl))
  f222:=Tryz.func161.trans (congrArg some (by kernel_rfl))
  f223:=Tryz.func205.trans (congrArg some (by kernel_rfl))
  f269:=Tryz.func218.trans (congrArg some (by kernel_rfl))
  t3:=underlying3
  a3:=Tryz.isAgg3
  z3:=Tryz.sizeOf3
  v3:=Tryz.zeroValue3
  t4:=underlying4
  a4:=Tryz.isAgg4
  z4:=Tryz.sizeOf4
  v4:=Tryz.zeroValue4
  t5:=underlying5
  a5:=Tryz.isAgg5
  z5:=Tryz.sizeOf5
  v5:=Tryz.zeroValue5
  t9:=underlying9
  a9:=Tryz.isAgg9
  z9:=Tryz.sizeOf9
  v9:=Tryz.zeroValue9
  t46:=underlying246
  a46:=Tryz.isAgg246
  z46:=Tryz.sizeOf246
  v46:=Tryz.zeroValue246
  t51:=underlying280
  a51:=Tryz.isAgg280
  z51:=Tryz.sizeOf280
  v51:=Tryz.zeroValue280
  t146:=underlying281
  a146:=Tryz.isAgg281
  z146:=Tryz.sizeOf281
  v146:=Tryz.zeroValue281 }
open Go.RowKit Go.Lib in
theorem Tryz.strings_LastIndex (s sub:ByteArray) (hs:s.size<4611686018427387904) (w:World) :
    Calls Tryz.prog 185 #[.string s,.string sub] w fun e w'=>e= .returned (.int .i64 (Lib.lastIndex s.data.toList sub.data.toList))/\w'=w:=Any.strings_LastIndex Tryz.KJ s sub hs w
end Go.Proofs
namespace Go.Proofs.YtpjgdgdnbkjoiaaGreatDoor
open Go.Proofs.Tryz
open Go Go.Lw
set_option maxRecDepth 20000 set_option maxHeartbeats 4000000
section
variable {h:ai}{p:Value}
def Q3 (h:ai) (base:Nat) (v:Value) (xs:List ByteArray):Prop:=∃oa n c,v= .slice oa n c/\Wr Value.string (fun _=>rfl) h base oa n c xs
def JT (l:List ByteArray) (s:ByteArray):List ByteArray :=
 if s=l7\/l.getLast? =some s then l else (l++[s]).drop (l.length+1-100)
theorem yB {O:Nat->Prop}{v:Value}{l:List ByteArray}{s:ByteArray}(hv:bC .str h O v l) (hl:l.length<=1000000) :
 af Tryz.prog 192 #[v,.string s] h (aX fun r h'=>Q3 h' h.size r (JT l s)/\ak h h'):=by
 obtain⟨oa,n,c,rfl,hsl⟩:=hv.open;have hn:=hsl.len;have hrow:=hsl.row;refine cu ?_;refine ah ?_;refine xo rfl (az.append underlying22 H.xw rfl rfl (ax.nil h h.size 9 1) (by simp[hn]) hrow (AF l) (by simp only[maxLen];omega) (by omega) (Nat.le_refl _)) ?_;rintro v1 h1 ⟨ho1,he1,-,-⟩;refine b7 ?_;refine fu ?_
 iterate 2 refine bZ ?_
 have he1:=dc he1;rw[Nat.zero_add,List.nil_append] at ho1;obtain⟨oa1,c1,rfl,hw1⟩:=ho1.open;have hc1:=hw1.cap;have hle1:=hw1.le;unfold maxLen at hc1;refine jR [(24,.bool (decide (s=l7\/l.getLast? =some s)))] rfl ?_ ?_
 · refine ah ?_;refine gU 10 (fun hg=>?_) (fun hg=>?_)
   · refine ah ?_;exact bq rfl ⟨aq rfl (by simp at hg;simp[hg,l7]),sb rfl⟩
   · have hs:¬s=l7:=by simpa [l7] using hg
     refine ah ?_;refine gU 14 (fun hn0=>?_) (fun hn0=>?_)
     · have hn0:0<n:=by simpa using hn0
       obtain⟨x,hx⟩:∃x,l[n-1]? =some x:=⟨l[n-1],List.getElem?_eq_getElem (by omega)⟩
       obtain⟨g,ha,hg1,hlt,hcell,hfz⟩:=hw1.at (i:=n-1) (x:=.string x) (by simp[hx]);have hlast:l.getLast? =some x:=by rw[List.getLast?_eq_getElem?,hn,hx]
       iterate 4 refine b7 ?_
       refine xp rfl (eK rfl rfl (n-1) (by omega) ha) ?_;refine xp rfl (aM rfl hcell) ?_;refine ah ?_;exact bq rfl ⟨aq rfl (by simp[hs,hlast]),sb rfl⟩
     · have hl0:l=[]:=List.eq_nil_of_length_eq_zero (by simp at hn0;omega);refine ah ?_;exact bq rfl ⟨aq rfl (by simp[hs,hl0]),sb rfl⟩
 · refine bN (fun hsame=>?_) (fun hsame=>?_)
   · refine ah ?_;refine bE ?_;have:JT l s=l:=if_pos hsame;rw[this];exact⟨_,rfl,⟨_,_,_,rfl,hw1.wr⟩,he1⟩
   · have hadd:JT l s=(l++[s]).drop (l.length+1-100):=if_neg hsame;have hp:=Ext.push (fun _=>False) h1 (.cells [Value.string s].toArray 9);have ho2:=hw1.own.ext hp (fun _ _ k=>k);refine ah ?_;refine xo rfl (sO [_]) ?_;rintro _ _ ⟨rfl,rfl⟩;refine xo rfl (az.append underlying22 H.xw rfl rfl ho2 rfl (.inr ⟨_,_,rfl,rK _ _ _⟩) (by simp[Value.oneCell']) (by simp only[maxLen];omega) (by omega) (by have:=he1.size;simp;omega)) ?_;rintro v2 h2 ⟨ho3,he3,-,-⟩;have he:=Ext.own (he1.push _) ho2 (Nat.le_refl _) he3;have ho3:ax h2 h.size 9 1 v2 (n+1) ((l++[s]).map Value.string):=by simpa using ho3
     obtain⟨oa2,c2,rfl,hw2⟩:=ho3.open;have hc2:=hw2.cap;have hle2:=hw2.le;unfold maxLen at hc2;refine ah ?_;refine xp rfl (an.jk underlying22 H.lS rfl rfl (n+1-100) (by split<;>omega) (by omega)) ?_;refine ah ?_;refine bE ?_;refine⟨_,rfl,⟨_,_,_,rfl,?_⟩,he⟩;have:=hw2.wr (h1:=fun _=>rfl).part (i:=n+1-100) (j:=n+1) (by omega) (Nat.le_refl _);rw[List.take_of_length_le (by simp;omega)] at this;rw[hadd,hn];exact this
theorem GP (l:List By) (s:By):JT (l.map bs) (bs s)=(fQ l s).map bs:=by
 have hz:(bs s=l7)=(s=[]):=propext ⟨fun e=>gX (m:=[]) e,fun e=>by rw[e];rfl⟩
 have hl:((l.map bs).getLast? =some (bs s))=(l.getLast? =some s):=by
  rw[List.getLast?_map];cases l.getLast? with
  |none=>simp
  |some x=>simp only[Option.map_some,Option.some.injEq];exact propext ⟨gX,fun e=>by rw[e]⟩
 unfold JT fQ;simp only[hz,hl];split
 · rfl
 · rw[List.map_drop,List.map_append,List.length_map];rfl
theorem Ej {O:Nat->Prop}{v:Value}{l:List By}{s:By}(hv:bC sx h O v l) (hO:∀y,O y->y<h.size) (hl:l.length<=1000000) :
 af Tryz.prog 192 #[v,.string (bs s)] h (aX fun r h'=>bC sx h' O r (fQ l s)/\ak h h') :=
 (yB (FC hv) (by rw[List.length_map];exact hl)).ret fun r h' ⟨hf,he⟩=>⟨by
  rw[GP] at hf;obtain⟨oa,n,c,rfl,hw⟩:=hf;refine⟨oa,n,c,rfl,by have:=hw.sl.len;rw[List.length_map] at this;exact this,hw.sl.le,hw.sl.cap,fun i x hx=>?_⟩;obtain⟨b,o,cs,h1,h2,h3,h4⟩:=hw.sl.get i (bs x) (by rw[List.getElem?_map,hx];rfl);exact⟨b,o,cs,h1,fun k=>by have:=hO b k;omega,h3,h4⟩,he⟩
def aK (s:ew):List Value:=[.int .i64 s.1,.int .i64 s.2]
theorem bL (s:ew):∀v∈aK s,v.oneCell'=true:=fun v hv=>by simp[aK] at hv;rcases hv with rfl|rfl<;>rfl
def EW (i:Int):Prop:= -9223372036854775808<=i/\i<=9223372036854775807
theorem uE (hg:kF h) (s:ew) (n:Int) (hs:EW s.2):af Tryz.prog 127 #[.agg (aK s).toArray,.int .i64 n] h (aX fun r h'=>r= .agg (aK (jL s n)).toArray/\ak h h'):=by
 obtain⟨m,d⟩:=s;obtain⟨hd1,hd2⟩:=hs;simp only at hd1 hd2;refine cu ?_;refine ah ?_;refine xo rfl (nk) ?_;rintro _ h1 ⟨rfl,k1,e1,z1⟩;refine xo rfl (iT) ?_;rintro _ h2 ⟨rfl,k2,e2,z2⟩;have k1:aE h1 h.size 44 [.int .i64 m,.int .i64 d]:=k1;have k2:aE h2 h1.size 44 [.int .i64 0,.int .i64 0]:=k2;have e02:=e1.trans e2;have q1:=k1.aj e2;refine ah ?_;refine xp rfl (aM rfl (q1.cell (i:=0) rfl)) ?_;refine ah ?_;refine xo rfl (bl rfl (wY (hg.aj e02) m n)) ?_;rintro _ h3 ⟨⟨x,rfl,hx⟩,e3⟩;refine ah ?_;refine xo rfl (iT) ?_;rintro _ h4 ⟨rfl,k4,e4,z4⟩;refine bQ rfl (er rfl rfl k4 (rH x)) ?_;rintro _ h5 ⟨rfl,k5,x5,z5⟩;have k5:aE h5 h3.size 162 (eY x):=k5;have e45:ak h3 h5:=e4.only x5 (Nat.le_refl _);have e25:=e3.trans e45;have e05:=e02.trans e25;have s1:=q1.aj e25;have s2:=k2.aj e25;have hz1:=e1.size;have hz2:=e2.size;have hz5:=e25.size;have hne:¬h.size=h1.size:=by omega
 have hout:∀{g:ai},Ext (fun b=>b=h1.size) h5 g->ak h g:=fun e=>ak.only e05 e hz1
 rcases hf:jI m n with _|p
 · have haf:jL (m,d) n=(m,d):=by unfold jL;rw[hf]
   refine ah ?_;refine mX rfl (by simp) ?_;refine ah ?_;refine mX rfl (by simp) ?_;refine ah ?_;refine xp rfl (eN rfl s1.row) ?_;refine bQ rfl (er rfl rfl s2) ?_;rintro _ h6 ⟨rfl,k6,x6,z6⟩;refine ah ?_;have k6:aE h6 h1.size 44 (aK (m,d)):=k6;refine jQ (jd rfl k6.row jP) ?_;exact⟨_,rfl,by rw[haf];rfl,hout x6⟩
 · have hp:=hx p hf;obtain⟨hp1,hp2⟩:=Prod.mk.inj hp;have haf:jL (m,d) n=if x.2.2=0 then (m,d) else if x.2.2=1 then (1,0) else if x.2.2=3 then (2,min (max d 0) 16383+1) else if x.2.2=4/\1<d then (m,d-1) else (0,0):=by unfold jL;rw[hf,<-hp]
   refine ah ?_;refine mQ rfl (by simp) ?_;refine ah ?_;refine xp rfl (aM rfl (k5.cell (i:=2) rfl)) ?_;refine ah ?_;refine bN (fun h0=>?_) (fun h0=>?_)
   · rw[if_pos h0] at haf;refine ah ?_;refine xp rfl (eN rfl s1.row) ?_;refine bQ rfl (er rfl rfl s2) ?_;rintro _ h6 ⟨rfl,k6,x6,z6⟩;refine ah ?_;have k6:aE h6 h1.size 44 (aK (m,d)):=k6;refine jQ (jd rfl k6.row jP) ?_;exact⟨_,rfl,by rw[haf];rfl,hout x6⟩
   · rw[if_neg h0] at haf;refine ah ?_;refine xp rfl (aM rfl (k5.cell (i:=2) rfl)) ?_;refine ah ?_;refine bN (fun h1'=>?_) (fun h1'=>?_)
     · rw[if_pos h1'] at haf;refine ah ?_;refine xp rfl (aB (H.MW _) rfl) ?_;refine bQ rfl (er rfl rfl s2) ?_;rintro _ h6 ⟨rfl,k6,x6,z6⟩;refine ah ?_;have k6:aE h6 h1.size 44 (aK (1,0)):=k6;refine jQ (jd rfl k6.row jP) ?_;exact⟨_,rfl,by rw[haf];rfl,hout x6⟩
     · rw[if_neg h1'] at haf;refine ah ?_;refine xp rfl (aM rfl (k5.cell (i:=2) rfl)) ?_;refine ah ?_;refine bN (fun h3'=>?_) (fun h3'=>?_)
       · rw[if_pos h3'] at haf;refine ah ?_;refine xp rfl (aM rfl (s1.cell (i:=1) rfl)) ?_;refine ah ?_;refine xp rfl (aB (H.JG _ _) rfl) ?_;refine bQ rfl (er rfl rfl s2) ?_;rintro _ h6 ⟨rfl,k6,x6,z6⟩;refine ah ?_;have hmm:(if (16383:Int)<if d<0 then 0 else d then 16383 else if d<0 then 0 else d)=min (max d 0) 16383:=by split<;>split<;>omega
         have k6:aE h6 h1.size 44 (aK (2,min (max d 0) 16383+1)):=by rw[<-hmm];exact k6
         refine jQ (jd rfl k6.row jP) ?_;exact⟨_,rfl,by rw[haf];rfl,hout x6⟩
       · rw[if_neg h3'] at haf;refine bZ ?_;refine jR [(36,.bool (decide (x.2.2=4/\1<d)))] rfl ?_ ?_
         · refine ah ?_;refine xp rfl (aM rfl (k5.cell (i:=2) rfl)) ?_;refine ah ?_;refine gU 40 (fun hc=>?_) (fun hc=>?_)
           · have hc':=of_decide_eq_true hc;refine ah ?_;refine xp rfl (aM rfl (s1.cell (i:=1) rfl)) ?_;refine ah ?_;exact bq rfl ⟨aq rfl (by simp[hc']),sb rfl⟩
           · have hc':=of_decide_eq_false hc;refine ah ?_;exact bq rfl ⟨aq rfl (by simp[hc']),sb rfl⟩
         · refine bN (fun h4'=>?_) (fun h4'=>?_)
           · rw[if_pos h4'] at haf;refine ah ?_;refine xp rfl (aM rfl (s1.cell (i:=1) rfl)) ?_;refine ah ?_;refine bQ rfl (bU H.ck rfl rfl rfl (s1.cell (i:=1) rfl) s1.nf) ?_;rintro _ h6 ⟨rfl,hg6⟩;have s6:=s1.set 1 (.int .i64 (d-1));have x6:Ext (fun b=>b=h.size) h5 h6:=by rw[hg6];exact Ext.ey _ _ _ rfl
             have s6:aE h6 h.size 44 (aK (m,d-1)):=by rw[hg6];exact s6
             refine ah ?_;refine xp rfl (eN rfl s6.row) ?_;refine bQ rfl (er rfl rfl ((s2.ext x6 (fun k=>by omega))) (bL _)) ?_;rintro _ h7 ⟨rfl,k7,x7,z7⟩;refine ah ?_;have k7:aE h7 h1.size 44 (aK (m,d-1)):=k7;refine jQ (jd rfl k7.row jP) ?_;have hz6:=x6.size;exact⟨_,rfl,by rw[haf];rfl,ak.only (ak.only e05 x6 (Nat.le_refl _)) x7 hz1⟩
           · rw[if_neg h4'] at haf;refine ah ?_;refine xp rfl (aB (H.JH ) rfl) ?_;refine bQ rfl (er rfl rfl s2) ?_;rintro _ h6 ⟨rfl,k6,x6,z6⟩;refine ah ?_;have k6:aE h6 h1.size 44 (aK (0,0)):=k6;refine jQ (jd rfl k6.row jP) ?_;exact⟨_,rfl,by rw[haf];rfl,hout x6⟩
theorem CV (hg:kF h) (s:By) (k:Nat) (hk:k<s.length) (hs:s.length<=1000000):af Tryz.prog 124 #[.string (bs s),.int .i64 (k:Nat)] h (aX fun r h'=>(∃(x:Nat) (ok:Bool),r= .tuple #[.int .i32 (x:Nat),.int .i64 (aN (s.drop k):Nat),.bool ok])/\ak h h'):=by
 have hbs:=aF s;have hne:s.drop k≠[]:=fun e=>by have:=congrArg List.length e;rw[List.length_drop] at this;simp at this;omega
 refine cu ?_;refine bZ ?_;refine eu ?_
 iterate 3 refine b7 ?_
 refine fu ?_
 iterate 2 refine bZ ?_
 refine jR [(14,.bool false)] rfl ?_ ?_
 · refine ah ?_;refine RW.dK (d:=9) (b':=false) rfl ((by simp)) ?_;refine ah ?_;exact bq rfl ⟨aq rfl (by simp;omega),sb rfl⟩
 · refine mQ rfl (by decide) ?_;refine ah ?_;refine xp rfl (an.eE underlying9 rfl rfl k rfl (by omega)) ?_;rw[js];refine xo rfl (bl rfl (Bg hg (s.drop k) hne)) ?_;rintro _ h1 ⟨⟨x,rfl⟩,e1⟩;generalize hn:aN (s.drop k)=n
   iterate 5 refine b7 ?_
   refine fu ?_;refine bZ ?_;refine jR [(4,.int .i32 (x:Nat)),(5,.int .i64 (n:Nat)),(6,.bool (decide (¬(x:Int)=65533\/(1:Int)<n)))] rfl ?_ ?_
   · refine ah ?_;refine gU 26 (fun hc=>?_) (fun hc=>?_)
     · have hc':=of_decide_eq_true hc;refine ah ?_;exact bq rfl ⟨rfl,rfl,aq rfl (by rw[decide_eq_true (Or.inl hc')]),sb rfl⟩
     · have hc':=of_decide_eq_false hc;refine ah ?_;exact bq rfl ⟨rfl,rfl,aq rfl (by simp only[decide_eq_decide];exact⟨fun q=>.inr q,fun q=>q.resolve_left hc'⟩),sb rfl⟩
   · refine bE ?_;exact⟨_,rfl,⟨x,_,rfl⟩,e1⟩
theorem Co (k:oP h p):af Tryz.prog 122 #[p] h (aX fun r h'=>r= .bool false/\h'=h):=by
 obtain⟨lb,vm,rfl,hk,⟨oa,n,c,rfl,hl,_⟩⟩:=k;have hl:n=3:=by rw[<-hl];rfl
 subst hl;refine cu ?_;refine bZ ?_;refine eu ?_;refine b7 ?_;refine fu ?_;refine bZ ?_;refine jR [(2,.bool false)] rfl ?_ ?_
 · refine b7 ?_;refine xp rfl (an.eH underlying65 rfl rfl) ?_;refine ah ?_;refine RW.dK (d:=5) (b':=false) rfl (rfl) ?_;refine ah ?_;refine xp rfl (aM rfl (hk.cell (i:=0) rfl)) ?_;refine ah ?_;exact bq rfl ⟨aq rfl (rfl),sb rfl⟩
 · refine bE ?_;exact⟨_,rfl,rfl,rfl⟩
def tf (m:Int) (l:By):Int:=if 0<=m/\m<3 then (aL (lA (mY m)) l 0 0 (0,-1)).2.2 else 0
theorem GH (m:Nat) (hm:m<3) (s:By) (k:Nat) (hk:k<=s.length):de (lA (mY m)) s k=((eG m (s.drop k)).1,(eG m (s.drop k)).2,tf m (s.drop k)):=by
 obtain⟨ss,st,h1,h2,h3,h4,h5⟩:=rS m hm;have hok:=lJ h2;have hsp:=s8 hok.1 hok.2;have htl:=DD hok.1 hsp.1 hsp.2.2.2.2 hok.2 hsp.2.1 (fun w=>(hsp.2.2.2.1 w).symm) s k;have htm:=BG h2 s k;have hst:=(fC h1).stl
 have hM:AL (iz m) s k=eG m (s.drop k):=by
  unfold AL D3;rw[h1];simp only;rw[if_neg (by omega),Int.toNat_natCast,h4]
 rw[hM] at htm
 have hA:(de (lA (mY m)) s k).2.2=tf m (s.drop k):=by
  rw[tf,if_pos (show (0:Int)<=m/\(m:Int)<3 by omega),de,if_neg (by have:=hsp.2.1;omega),Int.toNat_natCast]
 rw[<-hA];refine Prod.ext ?_ (Prod.ext ?_ rfl)
 · rw[<-htl.1];exact(Prod.mk.inj htm).1
 · rw[<-htl.2.1];exact(Prod.mk.inj htm).2
theorem KE (m:Int) (l:By):0<=tf m l/\tf m l<=(eG m l).1+2:=by
 unfold tf;split
 · rename_i h;obtain⟨n,rfl⟩:=Int.eq_ofNat_of_zero_le h.1;obtain⟨ss,st,h1,h2,h3,h4,h5⟩:=rS n (by omega);have hok:=lJ h2;have hsp:=s8 hok.1 hok.2;have hl:=mD hok.1 hsp.1 hsp.2.2.2.2 l 0 0 0 (0,-1) hok.2 hsp.2.1 (fun w=>(hsp.2.2.2.1 w).symm);have hs:=qg (lA (mY n)) l 0 0 (0,-1) (Int.le_refl _);have h6:=h5 l;have h7:=jG n l
   have h8:(aL (mY n) l 0 0 (0,-1)).1=(eG n l).1:=by
    have:=mE h3 (by have:=(fC h1).stl;omega) l;rw[h4,<-this]
   refine⟨?_,by have:=hl.2.2;omega⟩;have:=hs.1;rw[<-hl.1,h8] at this;omega
 · have:=jG m l;omega
theorem IW {m:Int}(h:m<0\/3<=m) (l:By):eG m l=(0,-1):=by
 unfold eG;rw[if_neg (by omega),if_neg (by omega),if_neg (by omega)]
theorem AN (k:oP h p) (s:By) (i:Nat) (hi:i<=s.length) (hs:s.length<=1000000) (m:Int) :
 af Tryz.prog 123 #[p,.string (bs s),.int .i64 (i:Nat),.int .i64 m] h (aX fun r h'=>r= .tuple #[.int .i64 (eG m (s.drop i)).1,.int .i64 (eG m (s.drop i)).2,.int .i64 (tf m (s.drop i))]/\h'=h):=by
 obtain⟨lb,vm,rfl,hk,hv⟩:=k;obtain⟨oa,n,c,rfl,hsl⟩:=hv.open;have hl:n=3:=by rw[<-hsl.len];rfl
 subst hl;refine cu ?_;refine bZ ?_;refine eu ?_
 iterate 3 refine b7 ?_
 refine fu ?_
 iterate 2 refine bZ ?_
 refine jR [(21,.bool (decide (m<0\/3<=m)))] rfl ?_ ?_
 · refine ah ?_;refine gU 13 (fun hc=>?_) (fun hc=>?_)
   · have hc':=of_decide_eq_true hc;refine ah ?_;exact bq rfl ⟨aq rfl (by simp[hc']),sb rfl⟩
   · have hc':=of_decide_eq_false hc;refine ah ?_;refine xp rfl (aM rfl (hk.cell (i:=0) rfl)) ?_;refine ah ?_;exact bq rfl ⟨aq rfl (by simp only[decide_eq_decide];omega),sb rfl⟩
 · refine bN (fun hout=>?_) (fun hout=>?_)
   · rw[IW hout];refine ah ?_;refine bE ?_;exact⟨_,rfl,by rw[tf,if_neg (by omega)];rfl,rfl⟩
   · obtain⟨mm,rfl⟩:=Int.eq_ofNat_of_zero_le (show 0<=m by omega);have hmm:mm<3:=by omega
     have hx:(tX 3)[mm]? =some (lA (mY mm)):=by
      match mm,hmm with
      | 0,_=>rfl
      | 1,_=>rfl
      | 2,_=>rfl
     obtain⟨b3,o3,cs3,ha3,_,hrow3,db,rfl,htab⟩:=hsl.get mm _ hx;obtain⟨ss,st,h1,h2,h3,h4,h5⟩:=rS mm hmm;have hok:=lJ h2;have hsp:=s8 hok.1 hok.2;refine ah ?_;refine xp rfl (aM rfl (hk.cell (i:=0) rfl)) ?_;refine b7 ?_;refine xp rfl (eK rfl rfl mm rfl ha3) ?_;refine xp rfl (aM rfl (hrow3 0 _ rfl)) ?_;refine ah ?_;refine xo rfl (bl rfl (Bc (s:=s) (a:=(i:Int)) (.inr ⟨db,rfl,htab.rd⟩) hsp.1 hs)) ?_;rintro _ h0 ⟨rfl,hh0⟩;subst hh0;rw[GH mm hmm s i hi];refine ah ?_;refine bE ?_;exact⟨_,rfl,rfl,rfl⟩
def bY (t:Tk):List Value:=[.int .i64 t.1,.int .i64 t.2.1,.int .i64 t.2.2]
theorem dA (t:Tk):∀v∈bY t,v.oneCell'=true:=fun v hv=>by simp[bY] at hv;rcases hv with rfl|rfl|rfl<;>rfl
theorem Hw {s:ew}(h:EW s.2) (n:Int):EW (jL s n).2:=by
 unfold EW at *;unfold jL;split
 · exact h
 · split
   · exact h
   · split
     · simp only;omega
     · split
       · simp only;omega
       · split
         · simp only;omega
         · simp only;omega
theorem Fj {s:ew}(h:EW s.2) (l:By):EW (dJ l s).2:=by
 unfold dJ;split
 · exact h
 · exact Hw h _
theorem lg {h':ai}{b:Nat}{t:TypeId}{cs:List Value}(k:aE h b t cs) (k':aE h' b t cs) (e:Ext (fun x=>x=b) h h'):ak h h':=⟨e.size,fun x hx _=>by
 by_cases q:x=b
 · subst q;exact k'.trans k.symm
 · exact e.block x hx q⟩
def Ku (s:By) (i:Nat) (st:ew):Value:=.tuple #[.agg (bY (mh (s.drop i) st.1,(i:Int),((i+bB (s.drop i) st.1:Nat):Int))).toArray,.agg (aK (dJ (s.drop i) st)).toArray,.int .i64 (tf st.1 (s.drop i))]
theorem zm (hg:kF h) (k:oP h p) (s:By) (i:Nat) (hi:i<s.length) (hs:s.length<=1000000) (st:ew) (hst:EW st.2) :
 af Tryz.prog 72 #[p,.string (bs s),.int .i64 (i:Nat),.agg (aK st).toArray] h (aX fun r h'=>r=Ku s i st/\ak h h'):=by
 have hbs:=aF s;unfold Ku;have hne:s.drop i≠[]:=fun e=>by have:=congrArg List.length e;rw[List.length_drop] at this;simp at this;omega
 have hll:=jG st.1 (s.drop i);have hrl:=cv hne;rw[List.length_drop] at hll hrl;refine cu ?_;refine ah ?_;refine xo rfl (nk) ?_;rintro _ h1 ⟨rfl,k7,e1,z1⟩;refine xo rfl (iT) ?_;rintro _ h2 ⟨rfl,k8,e2,z2⟩;refine xo rfl (iT) ?_;rintro _ h3 ⟨rfl,k9,e3,z3⟩;have k7:aE h1 h.size 44 (aK st):=k7;have k8:aE h2 h1.size 128 (bY (0,0,0)):=k8;have k9:aE h3 h2.size 44 (aK (0,0)):=k9;have e03:=(e1.trans e2).trans e3;have q7:=(k7.aj e2).aj e3;have q8:=k8.aj e3;have y1:=e1.size;have y2:=e2.size;have hout:∀{g g2 g3:ai},ak h3 g->Ext (fun b=>b=h1.size) g g2->Ext (fun b=>b=h2.size) g2 g3->ak h g3:=fun ea eb ec=>ak.only (ak.only (e03.trans ea) eb (by omega)) ec (by omega)
 refine b7 ?_;refine fu ?_
 iterate 2 refine bZ ?_
 refine jR [(27,.bool false)] rfl ?_ ?_
 · refine ah ?_;refine xo rfl (bl rfl (Co (k.aj e03))) ?_;rintro _ h4 ⟨rfl,hh4⟩;subst hh4;refine ah ?_;refine RW.dK (d:=18) (b':=false) rfl (rfl) ?_;refine ah ?_;refine RW.dK (d:=22) (b':=false) rfl ((by simp)) ?_;refine ah ?_;exact bq rfl ⟨aq rfl (by simp;omega),sb rfl⟩
 · refine mQ rfl (by decide) ?_;refine ah ?_;refine xp rfl (aM rfl (q7.cell (i:=0) rfl)) ?_;refine xo rfl (bl rfl (AN (k.aj e03) s i (by omega) hs st.1)) ?_;rintro _ h4 ⟨rfl,hh4⟩;subst hh4;refine ah ?_;refine bN (fun hz=>?_) (fun hz=>?_)
   · have hlen:bB (s.drop i) st.1=aN (s.drop i):=by rw[bB,if_pos hz]
     have hknd:mh (s.drop i) st.1=0:=by rw[mh,if_pos hz]
     have hnxt:dJ (s.drop i) st=st:=by rw[dJ,if_pos hz]
     rw[hlen,hknd,hnxt];refine ah ?_;refine xo rfl (bl rfl (CV (hg.aj e03) s i hi hs)) ?_;rintro _ h5 ⟨⟨x,ok,rfl⟩,e5⟩;have r7:=q7.aj e5;have r8:=q8.aj e5;have r9:=k9.aj e5;have y5:=e5.size;have hM7:¬(h.size=h1.size\/h.size=h2.size\/Array.size h5<=h.size):=by have:=e03.size;omega
     refine ah ?_;refine vi 10 (fun b=>b=Array.size h1\/b=Array.size h2\/Array.size h5<=b) (fun i=>Nat.blt i 9) ?_;refine aZ 0 ?_;refine aZ 1 ?_;refine aZ 2 ?_;refine aZ 3 ?_;refine cA 4 rfl (fun h' e=>aB (H.oG _ _ _) rfl) ?_;refine cA 5 rfl (fun h' e=>eN rfl (e.rowAt hM7 r7.row)) ?_;refine aZ 6 ?_;refine pO 7 rfl (er rfl rfl r8) ?_;rintro _ h6 ⟨rfl,w8,x6,z6⟩;refine⟨fun _=>x6.mono (fun _ _ k=>.inl k),?_⟩;refine pO 8 rfl (er rfl rfl ((r9.ext x6 (fun k=>by omega))) (bL st)) ?_;rintro _ h7 ⟨rfl,w9,x7,z7⟩;refine⟨fun _=>x7.mono (fun _ _ k=>.inr (.inl k)),?_⟩;have w8:aE h6 h1.size 128 (bY (0,(i:Int),((i+aN (s.drop i):Nat):Int))):=by rw[Int.natCast_add];exact w8
     have w8:=w8.ext x7 (show ¬h1.size=h2.size by omega);have w9:aE h7 h2.size 44 (aK st):=w9;refine aZ 9 ?_;refine pQ ?_;refine jQ (jd rfl w8.row (jd rfl w9.row (Kg jP))) ?_;exact⟨_,rfl,rfl,hout e5 x6 x7⟩
   · obtain⟨L,hL⟩:=Int.eq_ofNat_of_zero_le hll.1;have hL0:0<L:=by omega
     have hlen:bB (s.drop i) st.1=L:=by rw[bB,if_neg hz,hL];rfl
     have hknd:mh (s.drop i) st.1=if rX st.1 (eG st.1 (s.drop i)).2=3/\tK ((s.drop i).take L)=true then 4 else rX st.1 (eG st.1 (s.drop i)).2:=by rw[mh,if_neg hz,hL];rfl
     have hnxt:dJ (s.drop i) st=jL st (eG st.1 (s.drop i)).2:=by rw[dJ,if_neg hz]
     rw[hlen,hknd,hnxt,hL];generalize (eG st.1 (s.drop i)).2=rl at *;rw[hL] at hll;refine ah ?_;refine xp rfl (aM rfl (q7.cell (i:=0) rfl)) ?_;refine ah ?_;refine xo rfl (bl rfl (Ef (hg.aj e03) st.1 rl)) ?_;rintro _ h5 ⟨rfl,e5⟩;refine ah ?_;refine xp rfl (aB (H.oG _ _ _) rfl) ?_;refine bQ rfl (er rfl rfl ((q8.aj e5))) ?_;rintro _ h6 ⟨rfl,w8,x6,z6⟩;have w8:aE h6 h1.size 128 (bY (rX st.1 rl,(i:Int),((i+L:Nat):Int))):=by rw[Int.natCast_add];exact w8
     generalize rX st.1 rl=kd at *;have hcut:(bs s).extract i (i+L)=bs ((s.drop i).take L):=by rw[jq s i (i+L) (by omega),List.drop_take,Nat.add_sub_cancel_left]
     have y6:=x6.size;have e06:ak h h6:=ak.only (e03.trans e5) x6 (by omega);have r7:=(q7.aj e5).ext x6 (show ¬h.size=h1.size by omega);have r9:=(k9.aj e5).ext x6 (show ¬h2.size=h1.size by omega);refine fu ?_
     iterate 2 refine bZ ?_
     refine jR [(76,.bool (decide (kd=3/\tK ((s.drop i).take L)=true)))] rfl ?_ ?_
     · refine ah ?_;refine xp rfl (aM rfl (w8.cell (i:=0) rfl)) ?_;refine ah ?_;refine gU 68 (fun hc=>?_) (fun hc=>?_)
       · have hc':kd=3:=of_decide_eq_true hc;refine ah ?_;refine xp rfl (aM rfl (w8.cell (i:=1) rfl)) ?_;refine ah ?_;refine xp rfl (aM rfl (w8.cell (i:=2) rfl)) ?_;refine xp rfl (an.rG underlying9 rfl rfl i rfl rfl (i+L) rfl (by omega) (by omega)) ?_;rw[hcut];refine xo rfl (bl rfl (Dr (hg.aj e06) ((s.drop i).take L) (by rw[List.length_take,List.length_drop];omega))) ?_;rintro _ h7 ⟨rfl,hh7⟩;subst hh7;refine ah ?_;exact bq rfl ⟨aq rfl (by simp[hc']),sb rfl⟩
       · have hc':¬kd=3:=of_decide_eq_false hc;refine ah ?_;exact bq rfl ⟨aq rfl (by simp[hc']),sb rfl⟩
     · refine bN (fun hw=>?_) (fun hw=>?_)
       · refine ah ?_;refine bQ rfl (bU H.ck rfl rfl rfl (w8.cell (i:=0) rfl) w8.nf) ?_;rintro _ h7 ⟨rfl,hg7⟩;have w7:=w8.set 0 (.int .i64 4);have x7:Ext (fun b=>b=h1.size) h6 h7:=by rw[hg7];exact Ext.ey _ _ _ rfl
         have w7:aE h7 h1.size 128 (bY (4,(i:Int),((i+L:Nat):Int))):=by rw[hg7];exact w7
         have y7:=x7.size;have e07:ak h h7:=ak.only e06 x7 (by omega);have p7:=r7.ext x7 (show ¬h.size=h1.size by omega);have p9:=r9.ext x7 (show ¬h2.size=h1.size by omega);have hMa:¬(h1.size=h2.size\/Array.size h7<=h1.size):=by have:=e03.size;have:=e5.size;omega
         have hMb:¬(h.size=h2.size\/Array.size h7<=h.size):=by have:=e03.size;have:=e5.size;omega
         refine ah ?_;refine vi 8 (fun b=>b=Array.size h2\/Array.size h7<=b) (fun i=>Nat.blt i 7) ?_;refine cA 0 rfl (fun h' e=>eN rfl (e.rowAt hMa w7.row)) ?_;refine cA 1 rfl (fun h' e=>eN rfl (e.rowAt hMb p7.row)) ?_;refine aZ 2 ?_;refine aZ 4 ?_;refine iL 3 rfl (bl rfl (uE (hg.aj e07) st rl hst)) ?_;rintro _ h8 ⟨rfl,e8⟩;refine⟨fun _=>e8.mono (fun _ _ k=>k.elim),?_⟩;have w8':=w7.aj e8;refine pO 5 rfl (er rfl rfl w8' (dA _)) ?_;rintro _ h9 ⟨rfl,w9',x9,z9⟩;refine⟨fun _=>(lg w8' w9' x9).mono (fun _ _ k=>k.elim),?_⟩;have w9':aE h9 h1.size 128 (bY (4,(i:Int),((i+L:Nat):Int))):=w9';have e9:=lg w8' w9' x9;have p9':=(p9.aj e8).aj e9;refine pO 6 rfl (er rfl rfl p9' (bL _)) ?_;rintro _ h10 ⟨rfl,w10,x10,z10⟩;refine⟨fun _=>x10.mono (fun _ _ k=>.inl k),?_⟩;have w10:aE h10 h2.size 44 (aK (jL st rl)):=w10;have w11:=w9'.ext x10 (show ¬h1.size=h2.size by omega);refine aZ 7 ?_;refine pQ ?_;refine jQ (jd rfl w11.row (jd rfl w10.row (Kg jP))) ?_;have y10:=x10.size;exact⟨_,rfl,by rw[if_pos hw];rfl,ak.only ((e07.trans e8).trans e9) x10 (by omega)⟩
       · have hMa:¬(h1.size=h2.size\/Array.size h6<=h1.size):=by have:=e03.size;have:=e5.size;omega
         have hMb:¬(h.size=h2.size\/Array.size h6<=h.size):=by have:=e03.size;have:=e5.size;omega
         refine ah ?_;refine vi 8 (fun b=>b=Array.size h2\/Array.size h6<=b) (fun i=>Nat.blt i 7) ?_;refine cA 0 rfl (fun h' e=>eN rfl (e.rowAt hMa w8.row)) ?_;refine cA 1 rfl (fun h' e=>eN rfl (e.rowAt hMb r7.row)) ?_;refine aZ 2 ?_;refine aZ 4 ?_;refine iL 3 rfl (bl rfl (uE (hg.aj e06) st rl hst)) ?_;rintro _ h8 ⟨rfl,e8⟩;refine⟨fun _=>e8.mono (fun _ _ k=>k.elim),?_⟩;have w8':=w8.aj e8;refine pO 5 rfl (er rfl rfl w8' (dA _)) ?_;rintro _ h9 ⟨rfl,w9',x9,z9⟩;refine⟨fun _=>(lg w8' w9' x9).mono (fun _ _ k=>k.elim),?_⟩;have w9':aE h9 h1.size 128 (bY (kd,(i:Int),((i+L:Nat):Int))):=w9';have e9:=lg w8' w9' x9;have p9':=(r9.aj e8).aj e9;refine pO 6 rfl (er rfl rfl p9' (bL _)) ?_;rintro _ h10 ⟨rfl,w10,x10,z10⟩;refine⟨fun _=>x10.mono (fun _ _ k=>.inl k),?_⟩;have w10:aE h10 h2.size 44 (aK (jL st rl)):=w10;have w11:=w9'.ext x10 (show ¬h1.size=h2.size by omega);refine aZ 7 ?_;refine pQ ?_;refine jQ (jd rfl w11.row (jd rfl w10.row (Kg jP))) ?_;have y10:=x10.size;exact⟨_,rfl,by rw[if_neg hw];rfl,ak.only ((e06.trans e8).trans e9) x10 (by omega)⟩
end
end Go.Proofs.YtpjgdgdnbkjoiaaGreatDoor
namespace Go.Proofs.YtpjgdgdnbkjoiaaGreatDoor
open Go
section
variable {n:Nat}{l:By}
theorem lO (n a:Nat) (st:ew):cR n [] a st=([],st):=by cases n<;>simp[cR]
theorem gO (hl:l≠[]) (hn:l.length<=n) (a:Nat) (st:ew) :
    cR n l a st=((mh l st.1,(a:Int),((a+bB l st.1:Nat):Int))::(cR n (l.drop (bB l st.1)) (a+bB l st.1) (dJ l st)).1,(cR n (l.drop (bB l st.1)) (a+bB l st.1) (dJ l st)).2):=by
  have hp:=List.length_pos_iff.2 hl;have hk:=dH hl st.1;obtain⟨m,rfl⟩:∃m,n=m+1:=⟨n-1,by omega⟩
  rw[pE (m+1) (m+1) (l.drop (bB l st.1)) _ _ (by rw[List.length_drop];omega) (by rw[List.length_drop];omega),<-pE m (m+1) (l.drop (bB l st.1)) (a+bB l st.1) (dJ l st) (by rw[List.length_drop];omega) (by rw[List.length_drop];omega)];rw[cR,if_neg hl]
def jj:Nat->By->ew->List ew
  | 0,_,st=>[st]
  |n+1,l,st=>if l=[] then [st] else st::jj n (l.drop (bB l st.1)) (dJ l st)
def rA (s:By):List ew:=jj s.length s (0,0)
theorem sU:∀(n k:Nat) (l:By) (st:ew),l.length<=n->l.length<=k->jj n l st=jj k l st
  | 0,0,_,_,_,_=>rfl
  | 0,k+1,l,st,h,_=>by
    have:l=[]:=List.length_eq_zero_iff.1 (by omega);rw[jj,jj,if_pos this]
  |n+1,0,l,st,_,h=>by
    have:l=[]:=List.length_eq_zero_iff.1 (by omega);rw[jj,jj,if_pos this]
  |n+1,k+1,l,st,h1,h2=>by
    rw[jj,jj]
    by_cases hl:l=[]
    · rw[if_pos hl,if_pos hl]
    · have:=dH hl st.1;rw[if_neg hl,if_neg hl,sU n k _ _ (by rw[List.length_drop];omega) (by rw[List.length_drop];omega)]
theorem kW (hl:l≠[]) (hn:l.length<=n) (st:ew):jj n l st=st::jj n (l.drop (bB l st.1)) (dJ l st):=by
  have hp:=List.length_pos_iff.2 hl;have hk:=dH hl st.1;obtain⟨m,rfl⟩:∃m,n=m+1:=⟨n-1,by omega⟩
  rw[sU (m+1) m (l.drop (bB l st.1)) _ (by rw[List.length_drop];omega) (by rw[List.length_drop];omega),jj,if_neg hl]
theorem vz:∀(n a:Nat) (l:By) (st:ew),(jj n l st).getLast? =some (cR n l a st).2/\(jj n l st).length=(cR n l a st).1.length+1
  | 0,a,l,st=>⟨rfl,rfl⟩
  |n+1,a,l,st=>by
    rw[jj,cR]
    by_cases hl:l=[]
    · rw[if_pos hl,if_pos hl];exact⟨rfl,rfl⟩
    · rw[if_neg hl,if_neg hl];obtain⟨h1,h2⟩:=vz n (a+bB l st.1) (l.drop (bB l st.1)) (dJ l st);refine⟨?_,by simp[h2]⟩;rw[List.getLast?_cons,h1];rfl
theorem C9:∀(n:Nat) (l:By) (a:Nat) (st:ew),(cR n l a st).1.length<=l.length
  | 0,l,a,st=>by simp[cR]
  |n+1,l,a,st=>by
    rw[cR];split
    · simp
    · rename_i h;have h1:=dH h st.1;have h2:=C9 n (l.drop (bB l st.1)) (a+bB l st.1) (dJ l st);rw[List.length_drop] at h2;simp only[List.length_cons];omega
theorem GI (m:Int) (l x:By):(eG m l).1<=(eG m (l++x)).1:=by
  have key:∀{rules:List By}{ss:List bA}{st:Nat},Made rules ss st->(cX ss st l).1<=(cX ss st (l++x)).1:=fun k=>by
    have h1:=nV k l;have h2:=nV k (l++x)
    rcases h1 with ⟨e,_⟩|⟨n,r,e,hn,hp,_⟩
    · rw[e]
      rcases h2 with ⟨e2,_⟩|⟨n2,r2,e2,_⟩<;>rw[e2]<;>simp
    · have hp':∃s,_:=hp;rw[show l.take n=(l++x).take n by rw[List.take_append_of_le_length hn]] at hp'
      rcases h2 with ⟨e2,h2⟩|⟨n2,r2,e2,hn2,hp2,h3,_⟩
      · exact absurd hp' (h2 n r (by rw[List.length_append];omega))
      · have:=h3 n r (by rw[List.length_append];omega) hp';rw[e,e2];simp only;omega
  unfold eG;split
  · exact key LI
  · split
    · exact key mT
    · split
      · exact key LH
      · simp
theorem IG (h0:l≠[]) (x:By) (st:ew) (h:bB (l++x) st.1+2<l.length):bB (l++x) st.1=bB l st.1/\mh (l++x) st.1=mh l st.1/\dJ (l++x) st=dJ l st:=by
  have hm:=GI st.1 l x;have hl:=jG st.1 l;refine B9 h0 x st ?_;unfold bB at h ⊢;split at h
  · rename_i e;have hr:=cv (l:=l++x) (by simp[h0]);have e0:(eG st.1 l).1=0:=by omega
    rw[if_pos e0,<-zb (l:=l) (x:=x) (by omega)];exact h
  · rename_i e;split
    · rename_i e0;have hr:=cv h0
      by_cases h4:4<=l.length
      · by_cases hx:aN l+2<l.length
        · exact hx
        · exfalso;have hmo:=tg st.1 l x (by omega);rw[hmo] at e;exact e e0
      · exfalso;have hmo:=tg st.1 l x (by omega);rw[hmo] at e;exact e e0
    · omega
theorem Gx (h0:l≠[]) (x y:By) (st:ew) (h:bB (l++x) st.1+2<l.length):bB (l++y) st.1=bB (l++x) st.1/\mh (l++y) st.1=mh (l++x) st.1/\dJ (l++y) st=dJ (l++x) st:=by
  have h1:=IG h0 x st h;have h2:=B9 h0 y st (by rw[<-h1.1];exact h);exact⟨h2.1.trans h1.1.symm,h2.2.1.trans h1.2.1.symm,h2.2.2.trans h1.2.2.symm⟩
def cH:Nat->By->Nat->ew->Nat×ew
  | 0,_,a,st=>(a,st)
  |j+1,l,a,st=>if l=[] then (a,st) else cH j (l.drop (bB l st.1)) (a+bB l st.1) (dJ l st)
theorem qE:∀(j:Nat) (l:By) (a:Nat) (st:ew),a<=(cH j l a st).1/\(cH j l a st).1<=a+l.length
  | 0,l,a,st=>⟨Nat.le_refl _,by simp[cH]⟩
  |j+1,l,a,st=>by
    rw[cH];split
    · simp
    · rename_i h;have h1:=dH h st.1;have h2:=qE j (l.drop (bB l st.1)) (a+bB l st.1) (dJ l st);rw[List.length_drop] at h2;omega
theorem Jf:∀(j n:Nat) (l:By) (a:Nat) (st:ew),l.length<=n->j<=(cR n l a st).1.length ->
    (cR n l a st)=((cR n l a st).1.take j++(cR n (l.drop ((cH j l a st).1-a)) (cH j l a st).1 (cH j l a st).2).1,(cR n (l.drop ((cH j l a st).1-a)) (cH j l a st).1 (cH j l a st).2).2) /\
    jj n l st=(jj n l st).take j++jj n (l.drop ((cH j l a st).1-a)) (cH j l a st).2
  | 0,n,l,a,st,hn,hj=>by simp[cH]
  |j+1,n,l,a,st,hn,hj=>by
    by_cases h0:l=[]
    · subst h0;rw[lO] at hj;simp at hj
    · have h1:=dH h0 st.1;rw[gO h0 hn] at hj ⊢;rw[kW h0 hn,cH,if_neg h0];obtain⟨e1,e2⟩:=Jf j n (l.drop (bB l st.1)) (a+bB l st.1) (dJ l st) (by rw[List.length_drop];omega) (by simpa using hj);have hg:=qE j (l.drop (bB l st.1)) (a+bB l st.1) (dJ l st);generalize cH j (l.drop (bB l st.1)) (a+bB l st.1) (dJ l st)=q at *;rw[List.drop_drop,show bB l st.1+(q.1-(a+bB l st.1))=q.1-a by omega] at e1 e2;refine⟨?_,?_⟩
      · rw[Prod.mk.injEq];refine⟨?_,?_⟩
        · rw[List.take_succ_cons,List.cons_append]
          congr 1
          have:=congrArg Prod.fst e1;exact this
        · have:=congrArg Prod.snd e1;exact this
      · rw[List.take_succ_cons,List.cons_append]
        congr 1
theorem HR:∀(j n:Nat) (l:By) (a:Nat) (st:ew),l.length<=n->j<(cR n l a st).1.length->(cH j l a st).1<a+l.length /\
    (cR n l a st).1[j]? =some (mh (l.drop ((cH j l a st).1-a)) (cH j l a st).2.1,((cH j l a st).1:Int),(((cH j l a st).1+bB (l.drop ((cH j l a st).1-a)) (cH j l a st).2.1:Nat):Int))/\(jj n l st)[j]? =some (cH j l a st).2 /\
    (cH (j+1) l a st).1=(cH j l a st).1+bB (l.drop ((cH j l a st).1-a)) (cH j l a st).2.1/\(cH (j+1) l a st).2=dJ (l.drop ((cH j l a st).1-a)) (cH j l a st).2:=fun j n l a st hn hj=>by
  induction j generalizing l a st with
  |zero =>
    by_cases h0:l=[]
    · subst h0;rw[lO] at hj;simp at hj
    · have:=List.length_pos_iff.2 h0;rw[gO h0 hn,kW h0 hn];simp[cH,h0];omega
  |succ j ih =>
    by_cases h0:l=[]
    · subst h0;rw[lO] at hj;simp at hj
    · have h1:=dH h0 st.1;rw[gO h0 hn] at hj ⊢;rw[kW h0 hn];have hih:=ih (l.drop (bB l st.1)) (a+bB l st.1) (dJ l st) (by rw[List.length_drop];omega) (by simpa using hj);have hg:=qE j (l.drop (bB l st.1)) (a+bB l st.1) (dJ l st);have e1:cH (j+1) l a st=cH j (l.drop (bB l st.1)) (a+bB l st.1) (dJ l st):=by rw[cH,if_neg h0]
      have e2:cH (j+1+1) l a st=cH (j+1) (l.drop (bB l st.1)) (a+bB l st.1) (dJ l st):=by rw[cH,if_neg h0]
      rw[e2,e1];generalize cH (j+1) (l.drop (bB l st.1)) (a+bB l st.1) (dJ l st)=q2 at *;generalize cH j (l.drop (bB l st.1)) (a+bB l st.1) (dJ l st)=q at *;rw[List.drop_drop,List.length_drop,show bB l st.1+(q.1-(a+bB l st.1))=q.1-a by omega] at hih;refine⟨by omega,?_,?_,hih.2.2.2⟩
      · simpa using hih.2.1
      · simpa using hih.2.2.1
theorem zk:∀(j n n':Nat) (A x y:By) (a:Nat) (st:ew),(A++x).length<=n->(A++y).length<=n'->j<=(cR n (A++x) a st).1.length->(j=0\/(cH j (A++x) a st).1+2<a+A.length) ->
    cH j (A++y) a st=cH j (A++x) a st/\j<=(cR n' (A++y) a st).1.length/\(cR n' (A++y) a st).1.take j=(cR n (A++x) a st).1.take j/\(jj n' (A++y) st).take j=(jj n (A++x) st).take j
  | 0,n,n',A,x,y,a,st,_,_,_,_=>by simp[cH]
  |j+1,n,n',A,x,y,a,st,hn,hn',hj,hg=>by
    have hg:=hg.resolve_left (by omega)
    by_cases h0:A++x=[]
    · rw[h0,lO] at hj;simp at hj
    · have h1:=dH h0 st.1;have e1:cH (j+1) (A++x) a st=cH j ((A++x).drop (bB (A++x) st.1)) (a+bB (A++x) st.1) (dJ (A++x) st):=by rw[cH,if_neg h0]
      have hgg:=qE j ((A++x).drop (bB (A++x) st.1)) (a+bB (A++x) st.1) (dJ (A++x) st);rw[<-e1] at hgg;have hA:A≠[]:=fun e=>by subst e;simp only[List.length_nil] at hg;omega
      have hlt:bB (A++x) st.1+2<A.length:=by omega
      obtain⟨g1,g2,g3⟩:=Gx hA x y st hlt;have h0y:A++y≠[]:=by simp[hA]
      have e2:cH (j+1) (A++y) a st=cH j ((A++y).drop (bB (A++y) st.1)) (a+bB (A++y) st.1) (dJ (A++y) st):=by rw[cH,if_neg h0y]
      have dx:(A++x).drop (bB (A++x) st.1)=A.drop (bB (A++x) st.1)++x:=List.drop_append_of_le_length (by omega);have dy:(A++y).drop (bB (A++x) st.1)=A.drop (bB (A++x) st.1)++y:=List.drop_append_of_le_length (by omega);rw[gO h0 hn] at hj;rw[gO h0 hn,gO h0y hn',kW h0 hn,kW h0y hn',e1,e2,g1,g2,g3,dx,dy];rw[dx] at hj e1;have hle:=h1.2;generalize bB (A++x) st.1=L at *;generalize dJ (A++x) st=nx at *;simp only[List.length_append] at hn hn' hle;obtain⟨k1,k2,k3,k4⟩:=zk j n n' (A.drop L) x y (a+L) nx (by simp;omega) (by simp;omega) (by simpa using hj) (.inr (by rw[e1] at hg;simp only[List.length_drop];omega));refine⟨k1,by simpa using k2,?_,?_⟩
      · simp only[List.take_succ_cons];rw[k3]
      · simp only[List.take_succ_cons];rw[k4]
def Lx (d:Int) (t:Tk):Tk:=(t.1,t.2.1+d,t.2.2+d)
theorem xV (d:Int):∀(n:Nat) (l:By) (a b:Nat) (st:ew),(b:Int)=a+d->cR n l b st=((cR n l a st).1.map (Lx d),(cR n l a st).2)
  | 0,l,a,b,st,h=>rfl
  |n+1,l,a,b,st,h=>by
    rw[cR,cR];split
    · rfl
    · rw[xV d n (l.drop (bB l st.1)) (a+bB l st.1) (b+bB l st.1) (dJ l st) (by omega)];simp only[List.map_cons,Lx,Prod.mk.injEq,List.cons.injEq,and_true,true_and];omega
theorem CE {j i:Nat}{a:Nat}{st:ew}(hn:l.length<=n) (hi:i<(cR n l a st).1.length) (h:j<i):(cH j l a st).1<(cH i l a st).1:=by
  induction i with
  |zero=>omega
  |succ i ih =>
    obtain⟨h1,h2,h3,h4,h5⟩:=HR i n l a st hn (by omega);have hg:=qE i l a st;have hne:l.drop ((cH i l a st).1-a)≠[]:=fun e=>by have:=congrArg List.length e;rw[List.length_drop] at this;simp at this;omega
    have hl:=dH hne (cH i l a st).2.1
    rcases Nat.lt_or_ge j i with h6|h6
    · have:=ih (by omega) h6;omega
    · obtain rfl:j=i:=by omega
      omega
end
end Go.Proofs.YtpjgdgdnbkjoiaaGreatDoor
namespace Go.Proofs.YtpjgdgdnbkjoiaaGreatDoor
open Go.Proofs.Tryz
open Go Go.Lw
set_option maxRecDepth 20000 set_option maxHeartbeats 4000000
section
variable {h:ai}{p v:Value}{s:By}{O:Nat->Prop}
theorem Kt {b:Bool}(hn:∀g,ak h g->af Tryz.prog 122 #[p] g (aX fun r h'=>r= .bool b/\h'=g)) (s:By) (i:Int) (hs:s.length<=1000000) (st:ew) (hb:b=true\/i<0\/(s.length:Int)<=i) :
 af Tryz.prog 72 #[p,.string (bs s),.int .i64 i,.agg (aK st).toArray] h (aX fun r h'=>r= .tuple #[.agg (bY (0,0,0)).toArray,.agg (aK st).toArray,.int .i64 0]/\ak h h'):=by
 have hbs:=aF s;refine cu ?_;refine ah ?_;refine xo rfl (nk) ?_;rintro _ h1 ⟨rfl,k7,e1,z1⟩;refine xo rfl (iT) ?_;rintro _ h2 ⟨rfl,k8,e2,z2⟩;refine xo rfl (iT) ?_;rintro _ h3 ⟨rfl,k9,e3,z3⟩;have k7:aE h1 h.size 44 (aK st):=k7;have k8:aE h2 h1.size 128 (bY (0,0,0)):=k8;have k9:aE h3 h2.size 44 (aK (0,0)):=k9;have e03:=(e1.trans e2).trans e3;have q7:=(k7.aj e2).aj e3;have q8:=k8.aj e3;have y1:=e1.size;have y2:=e2.size;refine b7 ?_;refine fu ?_
 iterate 2 refine bZ ?_
 refine jR [(27,.bool true)] rfl ?_ ?_
 · refine ah ?_;refine xo rfl (bl rfl (hn _ e03)) ?_;rintro _ h4 ⟨rfl,hh4⟩;subst hh4;refine ah ?_;refine gU 18 (fun c1=>?_) (fun c1=>?_)
   · refine ah ?_;exact bq rfl ⟨aq rfl (rfl),sb rfl⟩
   · refine ah ?_;refine gU 22 (fun c2=>?_) (fun c2=>?_)
     · refine ah ?_;exact bq rfl ⟨aq rfl (rfl),sb rfl⟩
     · have c2':=of_decide_eq_false c2;refine ah ?_;exact bq rfl ⟨aq rfl (by rw[decide_eq_true_iff];rcases hb with k|k|k;rw[c1] at k;cases k;exact absurd k c2';omega),sb rfl⟩
 · refine mX rfl (by decide) ?_;have hM:¬(h.size=h1.size\/Array.size h3<=h.size):=by have:=e03.size;omega
   refine ah ?_;refine vi 5 (fun b=>b=Array.size h1\/Array.size h3<=b) (fun i=>Nat.blt i 3) ?_;refine cA 0 rfl (fun h' e=>aB (H.M1 ) rfl) ?_;refine cA 1 rfl (fun h' e=>eN rfl (e.rowAt hM q7.row)) ?_;refine pO 2 rfl (er rfl rfl q8) ?_;rintro _ h4 ⟨rfl,w8,x4,zz4⟩;refine⟨fun _=>x4.mono (fun _ _ k=>.inl k),?_⟩;have w8:aE h4 h1.size 128 (bY (0,0,0)):=w8;refine pO 3 rfl (er rfl rfl ((k9.ext x4 (show ¬h2.size=h1.size by omega))) (bL st)) ?_;rintro _ h5 ⟨rfl,w9,x5,z5⟩;refine⟨nofun,?_⟩;refine aZ 4 ?_;refine pQ ?_;have w9:aE h5 h2.size 44 (aK st):=w9;have w8:=w8.ext x5 (show ¬h1.size=h2.size by omega);refine jQ (jd rfl w8.row (jd rfl w9.row (Kg jP))) ?_;exact⟨_,rfl,rfl,ak.only (ak.only e03 x4 (by omega)) x5 (by omega)⟩
def O1:iS ew:=.record 2 (by decide) aK (fun _=>rfl) bL
def HD:iS Tk:=.record 3 (by decide) bY (fun _=>rfl) dA
theorem nZ (O:Nat->Prop) (hO:∀y,O y->y<h.size) (hg:kF h) (k:oP h p) (s:By) (hs:s.length<=1000000) :
 af Tryz.prog 188 #[p,.string (bs s)] h (aX fun r h'=>(∃v,r= .tuple #[v,.agg (aK (aQ s).2).toArray]/\bC HD h' O v (aQ s).1)/\ak h h'):=by
 have hbs:=aF s;generalize hres:aQ s=res;refine cu ?_;refine ah ?_;refine xo rfl (iT) ?_;rintro _ h1 ⟨rfl,k5,e1,z1⟩;have k5:aE h1 h.size 44 (aK (0,0)):=k5;have y1:=e1.size;refine ah ?_;refine nq (σ:=Nat×ew×Value×List Tk) (fun q=>[(4,q.2.2.1),(6,.int .i64 (q.1:Nat))]) (fun q h'=>(q.1<=s.length/\q.2.2.2.length<=q.1/\EW q.2.1.2)/\ak h h'/\h1.size<=h'.size/\aE h' h.size 44 (aK q.2.1)/\gP 3 bY h' h1.size 128 q.2.2.1 q.2.2.2/\(q.2.2.2++(cR s.length (s.drop q.1) q.1 q.2.1).1,(cR s.length (s.drop q.1) q.1 q.2.1).2)=res) (fun q=>s.length+1-q.1) ((0,(0,0),.slice none 0 0,[])) ⟨⟨Nat.zero_le _,by simp,by show EW 0;unfold EW;omega⟩,e1,Nat.le_refl _,k5,gP.nil _ _ _ _ _,hres⟩ rfl ?_;rintro⟨i,st,vt,toks⟩ g ⟨⟨hi,htl,hst⟩,eg,hz,kS,ho,hcon⟩ ih
 try dsimp only
 dsimp only at hi htl hst kS ho hcon;have hho:ax g h1.size 128 3 vt toks.length (toks.flatMap bY):=ho;obtain⟨ta,tc,rfl,_⟩:=hho.open;have tge:∀b,(Value.slice ta toks.length tc).ownBlock=some b->h1.size<=b/\b<g.size:=fun b hb=>hho.lt hb
 rcases Nat.lt_or_ge i s.length with hlt|hge
 · have hne:s.drop i≠[]:=fun e=>by have:=congrArg List.length e;rw[List.length_drop] at this;simp at this;omega
   have hkl:=dH hne st.1;rw[List.length_drop] at hkl;rw[gO hne (by rw[List.length_drop];omega)] at hcon;have hone:=zm (hg.aj eg) (k.aj eg) s i hlt hs st hst;unfold Ku at hone;have hnI:=Fj hst (s.drop i);rw[List.drop_drop] at hcon;generalize bB (s.drop i) st.1=L at *;generalize mh (s.drop i) st.1=kd at *;generalize dJ (s.drop i) st=nx at *;generalize tf st.1 (s.drop i)=sp at *;refine ah ?_;refine xp rfl (eN rfl kS.row) ?_;refine xo rfl (bl rfl hone) ?_;rintro _ g1 ⟨rfl,f1⟩;refine ah ?_;refine xo rfl (iT) ?_;rintro _ g2 ⟨rfl,c7,f2,y2⟩;refine xo rfl (iT) ?_;rintro _ g3 ⟨rfl,c8,f3,y3⟩;refine bQ rfl (er rfl rfl ((c7.aj f3)) (dA _)) ?_;rintro _ g4 ⟨rfl,d7,x4,y4⟩;have d7:aE g4 g1.size 128 (bY (kd,(i:Int),((i+L:Nat):Int))):=d7;have yz1:=f1.size;have yz2:=f2.size;have yz4:=x4.size;refine bQ rfl (er rfl rfl (((c8.ext x4 (show ¬g2.size=g1.size by omega)))) (bL nx)) ?_;rintro _ g5 ⟨rfl,d8,x5,y5⟩;have d8:aE g5 g2.size 44 (aK nx):=d8;have d7:=d7.ext x5 (show ¬g1.size=g2.size by omega);have yz5:=x5.size;have eg5:ak g g5:=ak.only (ak.only ((f1.trans f2).trans f3) x4 (by omega)) x5 (by omega);have hho5:=hho.fk eg5;refine ah ?_;refine xp rfl (aM rfl (d7.cell (i:=2) rfl)) ?_;refine ah ?_;refine mQ rfl (by simp;omega) ?_;refine ah ?_;refine xp rfl (eN rfl d7.row) ?_;refine xo rfl (Kh) ?_;rintro _ _ ⟨rfl,rfl⟩;refine xo rfl (az.fM underlying41 H.lG rfl rfl (hho5) rfl rfl (dA _) (by omega) (by decide) (by omega)) ?_;rintro vt2 g6 ⟨ho6,hx6,hx6',hv6⟩;have yz6:=hx6.size;have d7:=d7.ext hx6 (fun k=>by have:=tge _ k.symm;omega);have d8:=d8.ext hx6 (fun k=>by have:=tge _ k.symm;omega);have kS6:=(kS.aj eg5).ext hx6 (fun k=>by have:=tge _ k.symm;omega);have e06:ak h g6:=Ext.own (eg.trans eg5) hho5 (by omega) hx6;have ho6:gP 3 bY g6 h1.size 128 vt2 (toks++[(kd,(i:Int),((i+L:Nat):Int))]):=gP.of ho6 rfl rfl;have hMa:¬(g1.size=h.size\/Array.size g6<=g1.size):=by omega
   have hMb:¬(g2.size=h.size\/Array.size g6<=g2.size):=by omega
   refine ah ?_;refine vi 5 (fun b=>b=Array.size h\/Array.size g6<=b) (fun i=>Nat.blt i 6) ?_;refine aZ 0 ?_;refine cA 1 rfl (fun h' e=>aM rfl (e.cell hMa (d7.cell (i:=2) rfl))) ?_;refine cA 2 rfl (fun h' e=>eN rfl (e.rowAt hMb d8.row)) ?_;refine aZ 3 ?_;refine pO 4 rfl (er rfl rfl kS6 (bL nx)) ?_;rintro _ g7 ⟨rfl,kS7,x7,y7⟩;refine⟨fun _=>x7.mono (fun _ _ k=>.inl k),?_⟩;have kS7:aE g7 h.size 44 (aK nx):=kS7;have ho7:gP 3 bY g7 h1.size 128 vt2 (toks++[(kd,(i:Int),((i+L:Nat):Int))]):=ax.ext x7 ho6 (fun b hb (k:b=h.size)=>by have:=(ax.lt ho6 hb).1;omega);refine pQ ?_;refine ah ?_;exact ih (i+L,nx,vt2,toks++[(kd,(i:Int),((i+L:Nat):Int))]) ⟨⟨by show i+L<=s.length;omega,by simp;omega,hnI⟩,ak.only e06 x7 (by omega),by have:=x7.size;show h1.size<=g7.size;omega,kS7,ho7,by simpa using hcon⟩
 · obtain rfl:i=s.length:=by omega
   have hone:=Kt (h:=g) (p:=p) (b:=false) (fun g' eg'=>Co (k.aj (eg.trans eg'))) s (s.length:Nat) hs st (.inr (.inr (by omega)));rw[List.drop_length,lO] at hcon;refine ah ?_;refine xp rfl (eN rfl kS.row) ?_;refine xo rfl (bl rfl hone) ?_;rintro _ g1 ⟨rfl,f1⟩;refine ah ?_;refine xo rfl (iT) ?_;rintro _ g2 ⟨rfl,c7,f2,y2⟩;refine xo rfl (iT) ?_;rintro _ g3 ⟨rfl,c8,f3,y3⟩;refine bQ rfl (er rfl rfl ((c7.aj f3)) (dA _)) ?_;rintro _ g4 ⟨rfl,d7,x4,y4⟩;have d7:aE g4 g1.size 128 (bY (0,0,0)):=d7;have yz1:=f1.size;have yz2:=f2.size;have yz4:=x4.size;refine bQ rfl (er rfl rfl (((c8.ext x4 (show ¬g2.size=g1.size by omega)))) (bL st)) ?_;rintro _ g5 ⟨rfl,d8,x5,y5⟩;have d7:=d7.ext x5 (show ¬g1.size=g2.size by omega);have yz5:=x5.size;have eg5:ak g g5:=ak.only (ak.only ((f1.trans f2).trans f3) x4 (by omega)) x5 (by omega);have hho5:=ho.aj eg5;have kS5:=kS.aj eg5;refine ah ?_;refine xp rfl (aM rfl (d7.cell (i:=2) rfl)) ?_;refine ah ?_;refine mX rfl (by simp) ?_;have hMa:¬(h.size=h.size/\Array.size g5<=h.size):=by omega
   refine ah ?_;refine vi 4 (fun b=>Array.size g5<=b) (fun i=>Nat.blt i 5) ?_;refine aZ 0 ?_;refine cA 1 rfl (fun h' e=>eN rfl (e.rowAt (by omega) kS5.row)) ?_;refine aZ 2 ?_;refine pO 3 rfl (er rfl rfl kS5 (bL st)) ?_;rintro _ g7 ⟨rfl,kS7,x7,y7⟩;refine⟨fun _=>(lg kS5 kS7 x7).mono (fun _ _ k=>k.elim),?_⟩;have kS7:aE g7 h.size 44 (aK st):=kS7;have e7:=lg kS5 kS7 x7;refine pQ ?_;refine jQ (Kg (jd rfl kS7.row jP)) ?_;rw[<-hcon];exact⟨_,rfl,⟨_,rfl,by show bC HD g7 _ _ (toks++[]);rw[List.append_nil];exact gP.read (hho5.aj e7) (fun b hb k=>by have:=hO b k;omega)⟩,(eg.trans eg5).trans e7⟩
theorem Ee (hg:kF h) (k:oP h p) (s:By) (hs:s.length<=1000000) :
 af Tryz.prog 188 #[p,.string (bs s)] h (aX fun r h'=>(∃v,r= .tuple #[v,.agg (aK (aQ s).2).toArray]/\bC HD h' (fun _=>False) v (aQ s).1)/\ak h h'):=nZ _ (fun _ k=>k.elim) hg k s hs
theorem yH (b:UInt8):af Tryz.prog 118 #[.int .u8 (b.toNat:Nat)] h (aX fun r h'=>r= .int .u8 (qS b.toNat:Nat)/\h'=h):=by
 have hb:=b.toNat_lt;generalize b.toNat=n at *;refine cu ?_;refine ah ?_;refine bN (fun c1=>?_) (fun c1=>?_)
 · refine ah ?_;refine bE ?_;exact⟨_,rfl,congrArg (Value.int .u8) (by unfold qS;rw[if_pos (by omega)];rfl),rfl⟩
 · refine ah ?_;refine bN (fun c2=>?_) (fun c2=>?_)
   · refine ah ?_;refine bE ?_;exact⟨_,rfl,congrArg (Value.int .u8) (by unfold qS;rw[if_neg (by omega),if_pos (by omega)];rfl),rfl⟩
   · refine ah ?_;refine bN (fun c3=>?_) (fun c3=>?_)
     · refine ah ?_;refine bE ?_;exact⟨_,rfl,congrArg (Value.int .u8) (by unfold qS;rw[if_neg (by omega),if_neg (by omega),if_pos (by omega)];rfl),rfl⟩
     · refine ah ?_;refine bE ?_;exact⟨_,rfl,congrArg (Value.int .u8) (by unfold qS;rw[if_neg (by omega),if_neg (by omega),if_neg (by omega)];rfl),rfl⟩
theorem Hj (s:By) (t:Tk) (hs:s.length<=1000000) (ht : -1000000000<=t.2.2/\t.2.2<=1000000000):af Tryz.prog 117 #[.string (bs s),.agg (bY t).toArray] h (aX fun r h'=>r= .int .u8 (iY s t:Nat)/\ak h h'):=by
 have hbs:=aF s;refine cu ?_;refine ah ?_;refine xo rfl (nk) ?_;rintro _ h1 ⟨rfl,k1,e1,z1⟩;refine b7 ?_;refine fu ?_
 iterate 2 refine bZ ?_
 have k1:aE h1 h.size 128 (bY t):=k1;refine jR [(32,.bool (decide ((t.1≠7/\t.1≠8)\/t.2.1<0\/(s.length:Int)<=t.2.1\/t.2.2-1≠t.2.1)))] rfl ?_ ?_
 · refine ah ?_;refine xp rfl (aM rfl (k1.cell (i:=0) rfl)) ?_;refine ah ?_;refine gU 8 (fun d1=>?_) (fun d1=>?_)
   · have d1:=of_decide_eq_true d1;refine ah ?_;refine xp rfl (aM rfl (k1.cell (i:=0) rfl)) ?_;refine ah ?_;refine gU 13 (fun d2=>?_) (fun d2=>?_)
     · have d2:=of_decide_eq_true d2;refine ah ?_;exact bq rfl ⟨aq rfl (by rw[decide_eq_true (.inl ⟨d1,d2⟩)]),sb rfl⟩
     · have d2:=of_decide_eq_false d2;refine ah ?_;refine xp rfl (aM rfl (k1.cell (i:=1) rfl)) ?_;refine ah ?_;refine gU 18 (fun d3=>?_) (fun d3=>?_)
       · have d3:=of_decide_eq_true d3;refine ah ?_;exact bq rfl ⟨aq rfl (by rw[decide_eq_true (.inr (.inl d3))]),sb rfl⟩
       · have d3:=of_decide_eq_false d3;refine ah ?_;refine xp rfl (aM rfl (k1.cell (i:=1) rfl)) ?_;refine ah ?_;refine gU 25 (fun d4=>?_) (fun d4=>?_)
         · have d4:=of_decide_eq_true d4;refine ah ?_;exact bq rfl ⟨aq rfl (by rw[decide_eq_true (.inr (.inr (.inl (by omega))))]),sb rfl⟩
         · have d4:=of_decide_eq_false d4;refine ah ?_;refine xp rfl (aM rfl (k1.cell (i:=2) rfl)) ?_;refine ah ?_;refine xp rfl (aM rfl (k1.cell (i:=1) rfl)) ?_;refine ah ?_;exact bq rfl ⟨aq rfl (by rw[decide_eq_decide];exact⟨fun q=>.inr (.inr (.inr q)),fun q=>by rcases q with q|q|q|q;exact absurd q (fun q2=>d2 q2.2);omega;omega;exact q⟩),sb rfl⟩
   · have d1:=of_decide_eq_false d1;refine ah ?_;refine xp rfl (aM rfl (k1.cell (i:=1) rfl)) ?_;refine ah ?_;refine gU 18 (fun d3=>?_) (fun d3=>?_)
     · have d3:=of_decide_eq_true d3;refine ah ?_;exact bq rfl ⟨aq rfl (by rw[decide_eq_true (.inr (.inl d3))]),sb rfl⟩
     · have d3:=of_decide_eq_false d3;refine ah ?_;refine xp rfl (aM rfl (k1.cell (i:=1) rfl)) ?_;refine ah ?_;refine gU 25 (fun d4=>?_) (fun d4=>?_)
       · have d4:=of_decide_eq_true d4;refine ah ?_;exact bq rfl ⟨aq rfl (by rw[decide_eq_true (.inr (.inr (.inl (by omega))))]),sb rfl⟩
       · have d4:=of_decide_eq_false d4;refine ah ?_;refine xp rfl (aM rfl (k1.cell (i:=2) rfl)) ?_;refine ah ?_;refine xp rfl (aM rfl (k1.cell (i:=1) rfl)) ?_;refine ah ?_;exact bq rfl ⟨aq rfl (by rw[decide_eq_decide];exact⟨fun q=>.inr (.inr (.inr q)),fun q=>by rcases q with q|q|q|q;exact absurd q (fun q2=>d1 q2.1);omega;omega;exact q⟩),sb rfl⟩
 · refine bN (fun hc=>?_) (fun hc=>?_)
   · refine ah ?_;refine bE ?_;exact⟨_,rfl,congrArg (Value.int .u8) (by unfold iY;rw[if_pos hc];rfl),e1⟩
   · simp only[not_or,Int.not_lt,Int.not_le] at hc;obtain⟨i,hi⟩:∃i:Nat,t.2.1=(i:Nat):=⟨t.2.1.toNat,by omega⟩
     have hil:i<s.length:=by omega
     have c1':cellAt h1 ⟨h.size,0+1,none⟩=some (.int .i64 (i:Nat)):=hi▸k1.cell (i:=1) rfl;have hx:(bs s).data[i]? =some s[i]:=iq (List.getElem?_eq_getElem hil);refine ah ?_;refine xp rfl (aM rfl c1') ?_;refine xp rfl (Lp rfl rfl i rfl hx) ?_;refine ah ?_;refine bE ?_
     exact⟨_,rfl,congrArg (fun n:Nat=>Value.int .u8 (n:Nat)) (by
      unfold iY;rw[if_neg (by omega),hi,Int.toNat_natCast,List.getD_eq_getElem?_getD,List.getElem?_eq_getElem hil];rfl),e1⟩
def Lm (h:ai) (wb:Nat) (s:By) (o:List Nat):Prop:=∃v,aE h wb 131 [.string (bs s),v]/\cg cN h (wb+1) 3 v o
theorem Lm.aj {h h':ai}{wb:Nat}{s:By}{o:List Nat}(k:Lm h wb s o) (e:ak h h'):Lm h' wb s o:=by
 obtain⟨v,k1,k2⟩:=k;exact⟨v,k1.aj e,k2.aj e⟩
theorem zQ {t:Tk}(h:iY s t≠0):0<=t.2.1/\t.2.1<(s.length:Nat):=by
 unfold iY at h;split at h
 · exact absurd rfl h
 · omega
theorem CZ {o:List Nat}{t:Tk}(ho:∀x∈o,x<s.length):(∀x∈(cO s o t).1,x<s.length)/\(cO s o t).1.length<=o.length+1:=by
 unfold cO;split
 · exact⟨ho,by simp⟩
 · rename_i hb;split
   · have:=zQ hb;refine⟨fun x hx=>?_,by simp⟩
     rcases List.mem_append.1 hx with hx|hx
     · exact ho x hx
     · rw[List.mem_singleton.1 hx];omega
   · split
     · exact⟨ho,by simp⟩
     · exact⟨fun x hx=>ho x ((List.dropLast_sublist o).subset hx),by simp only[List.length_dropLast];omega⟩
theorem zP {wb:Nat}(s:By) (o:List Nat) (t:Tk) (k:Lm h wb s o) (hs:s.length<=1000000) (ht : -1000000000<=t.2.2/\t.2.2<=1000000000) (ho:∀x∈o,x<s.length) (hol:o.length<=10000000) :
 af Tryz.prog 67 #[.pointer (some ⟨wb,0,none⟩),.agg (bY t).toArray] h (aX fun r h'=>(∃i:Int,r= .tuple #[.int .i64 i,.bool (cO s o t).2])/\Lm h' wb s (cO s o t).1/\Ext (fun y=>wb<=y) h h'):=by
 obtain⟨v,kw,kv⟩:=k;have hbs:=aF s;have hwl:=kw.lt;have hob:∀b,v.ownBlock=some b->wb+1<=b/\b<h.size:=fun b hb=>ax.lt kv hb
 refine cu ?_;refine ah ?_;refine xo rfl (nk) ?_;rintro _ h1 ⟨rfl,k1,e1,z1⟩;have k1:aE h1 h.size 128 (bY t):=k1;have kw:=kw.aj e1;have kv:=kv.aj e1;have hM1:¬Array.size h1<=wb:=by omega
 have hM2:¬Array.size h1<=h.size:=by omega
 refine ah ?_;refine L8 7 7 ?_;refine aZ 0 ?_;refine aZ 1 ?_;refine aZ 2 ?_;refine cA 3 rfl (fun h' e=>aM rfl (e.cell hM1 (kw.cell (i:=0) rfl))) ?_;refine cA 4 rfl (fun h' e=>eN rfl (e.rowAt hM2 k1.row)) ?_;refine iL 5 rfl (bl rfl (Hj s t hs ht)) ?_;rintro _ h2 ⟨rfl,e2⟩;refine⟨fun _=>e2.of,?_⟩;have k1:=k1.aj e2;have kw:=kw.aj e2;have kv:=kv.aj e2;have e02:ak h h2:=e1.trans e2
 have hbr:iY s t<256:=by
  unfold iY;split
  · decide
  · exact UInt8.toNat_lt _
 refine aZ 6 ?_;refine pQ ?_;refine ah ?_;refine bN (fun c1=>?_) (fun c1=>?_)
 · have c1:iY s t=0:=by omega
   refine ah ?_;refine bE ?_;have hst:cO s o t=(o,true):=by unfold cO;rw[if_pos c1]
   rw[hst];exact⟨_,rfl,⟨_,rfl⟩,⟨v,kw,kv⟩,e02.of⟩
 · have c1:¬iY s t=0:=by omega
   refine ah ?_;refine xp rfl (aM rfl (k1.cell (i:=0) rfl)) ?_;refine ah ?_;refine bN (fun c2=>?_) (fun c2=>?_)
   · obtain⟨hf0,hf1⟩:=zQ c1;obtain⟨i,hi⟩:∃i:Nat,t.2.1=(i:Nat):=⟨t.2.1.toNat,by omega⟩
     have hst:cO s o t=(o++[i],true):=by unfold cO;rw[if_neg c1,if_pos c2,hi,Int.toNat_natCast]
     have c1':cellAt h2 ⟨h.size,0+1,none⟩=some (.int .i64 (i:Nat)):=hi▸k1.cell (i:=1) rfl;have hz2:=e2.size
     have hn1:¬(bV v.ownBlock wb\/Array.size h2<=wb):=by
      rintro(q|q)
      · have:=hob wb q.symm;omega
      · omega
     have hn2:¬(bV v.ownBlock h.size\/Array.size h2<=h.size):=by
      rintro(q|q)
      · have:=hob h.size q.symm;omega
      · omega
     rw[hst];refine ah ?_;refine vi 12 (fun y=>bV v.ownBlock y\/Array.size h2<=y) (fun i=>Nat.blt i 11) ?_;refine aZ 0 ?_;refine aZ 1 ?_;refine aZ 2 ?_;refine aZ 3 ?_;refine cA 4 rfl (fun h' e=>aM rfl (e.cell hn1 (kw.cell (i:=1) rfl))) ?_;refine aZ 5 ?_;refine cA 6 rfl (fun h' e=>aM rfl (e.cell hn2 c1')) ?_;refine iL 7 rfl (sO [_]) ?_;rintro _ h3 ⟨rfl,hh3⟩;refine⟨fun _=>by rw[hh3];exact Ext.push _ _ _,?_⟩;have e3:ak h2 h3:=by rw[hh3];exact Ext.push _ _ _
     subst hh3;refine iL 8 rfl (E1 rfl rfl kv rfl rfl) ?_;rintro v4 h4 ⟨ho4,hx4,hx4',hv4⟩;refine⟨fun _=>hx4'.mono (fun _ _ q=>.inl q),?_⟩;have kw4:=(kw.aj e3).ext hx4' (fun q=>by have:=hob wb q.symm;omega);obtain⟨na,nc,rfl,_⟩:=ax.open ho4;refine J8 9 ?_;refine aZ 10 ?_;refine pO 11 rfl (gq rfl rfl kw4) ?_;rintro _ h5 ⟨rfl,k5,x5,z5⟩;refine⟨nofun,?_⟩;refine pQ ?_;refine ah ?_;refine bE ?_;have ho4:cg cN h4 (wb+1) 3 _ (o++[i]):=cg.of ho4 rfl rfl rfl;exact⟨_,rfl,⟨_,rfl⟩,⟨_,k5,ax.ext x5 ho4 (fun b hb q=>by have:=ax.lt ho4 hb;omega)⟩,(e02.of.trans (hx4.mono (fun b hb q=>by have:=hob b q.symm;show wb<=b;omega))).trans (x5.mono (fun b hb q=>by have q:b=wb:=q;show wb<=b;omega))⟩
   · have hz2:=e2.size;have hkvr:bC ic h2 (fun _=>False) v o:=kv.read (fun _ _ q=>q);obtain⟨va,vn,vc,rfl,hsl⟩:=hkvr.open;have hvn:=hsl.len;have hvle:=hsl.le;subst hvn;refine ah ?_;refine xp rfl (aM rfl (kw.cell (i:=1) rfl)) ?_
     iterate 2 refine b7 ?_
     refine fu ?_
     iterate 2 refine bZ ?_
     rcases Nat.eq_zero_or_pos o.length with hn|hn
     · have hoe:o=[]:=List.length_eq_zero_iff.1 hn;have hst:cO s o t=(o,false):=by unfold cO;rw[if_neg c1,if_neg c2,if_pos (.inl hoe)]
       rw[hst];refine L9 20 (fun b=>Array.size h2<=b) (fun i=>Nat.blt i 20) [(57,.bool true)] rfl ?_ ?_
       · refine aZ 0 ?_;refine aZ 1 ?_;refine aZ 2 ?_;refine RD.dK (d:=40) (b':=true) rfl (by rw[hn];rfl) ?_;refine nu 3 ?_;refine nu 4 ?_;refine nu 5 ?_;refine nu 6 ?_;refine nu 7 ?_;refine nu 8 ?_;refine nu 9 ?_;refine nu 10 ?_;refine nu 11 ?_;refine nu 12 ?_;refine nu 13 ?_;refine nu 14 ?_;refine nu 15 ?_;refine nu 16 ?_;refine nu 17 ?_;refine nu 18 ?_;refine aZ 19 ?_;exact HG rfl ⟨aq rfl (rfl),sb rfl⟩
       · refine mX rfl (by decide) ?_;refine ah ?_;refine bE ?_;exact⟨_,rfl,⟨_,rfl⟩,⟨_,kw,kv⟩,e02.of⟩
     · obtain⟨m,hm⟩:∃m,o[o.length-1]? =some m:=⟨_,List.getElem?_eq_getElem (by omega)⟩
       have hml:=ho m (List.mem_of_getElem? hm);have hlast:o.getLastD 0=m:=by rw[List.getLastD_eq_getLast?,List.getLast?_eq_getElem?,hm];rfl
       have hoe:o≠[]:=fun q=>by rw[q] at hn;exact absurd hn (by decide)
       have hgm:s.getD m 0=s[m]:=by rw[List.getD_eq_getElem?_getD,List.getElem?_eq_getElem hml];rfl
       obtain⟨eb,eo,x',hea,_,hex,hec⟩:=hsl.at (i:=o.length-1) (by omega);rw[hm] at hex;cases hex;have hsx:(bs s).data[m]? =some s[m]:=iq (List.getElem?_eq_getElem hml);have hM3:¬Array.size h2<=eb:=by have:eb<h2.size:=cY hec;omega
       have hM4:¬Array.size h2<=wb:=by omega
       have hidx:((o.length:Nat):Int)-1=((o.length-1:Nat):Int):=by omega
       refine L9 20 (fun b=>Array.size h2<=b) (fun i=>Nat.blt i 20) [(57,.bool (decide (qS s[m].toNat≠iY s t)))] rfl ?_ ?_
       · refine aZ 0 ?_;refine aZ 1 ?_;refine aZ 2 ?_;refine RD.dK (d:=40) (b':=false) rfl (by rw[decide_eq_false];omega) ?_;refine aZ 3 ?_;refine aZ 4 ?_;refine aZ 5 ?_;refine cA 6 rfl (fun h' e=>aM rfl (e.cell hM4 (kw.cell (i:=0) rfl))) ?_;refine aZ 7 ?_;refine aZ 8 ?_;refine aZ 9 ?_;refine cA 10 rfl (fun h' e=>aM rfl (e.cell hM4 (kw.cell (i:=1) rfl))) ?_;refine aZ 11 ?_;refine aZ 12 ?_;refine cA 13 rfl (fun h' e=>eK rfl rfl (o.length-1) hidx hea) ?_;refine cA 14 rfl (fun h' e=>aM rfl (e.cell hM3 hec)) ?_;refine cA 15 rfl (fun h' e=>Lp rfl rfl m rfl hsx) ?_;refine aZ 17 ?_;refine iL 16 rfl (bl rfl (yH s[m])) ?_;rintro _ h2 ⟨rfl,rfl⟩;refine⟨fun _=>Ext.refl _ _,?_⟩;refine aZ 18 ?_;refine aZ 19 ?_;exact HG rfl ⟨aq rfl (by rw[decide_eq_decide];omega),sb rfl⟩
       · refine bN (fun hc=>?_) (fun hc=>?_)
         · have hst:cO s o t=(o,false):=by unfold cO;rw[if_neg c1,if_neg c2,if_pos (.inr (by rw[hlast,hgm];exact hc))]
           rw[hst];refine ah ?_;refine bE ?_;exact⟨_,rfl,⟨_,rfl⟩,⟨_,kw,kv⟩,e02.of⟩
         · have hst:cO s o t=(o.dropLast,true):=by unfold cO;rw[if_neg c1,if_neg c2,if_neg (by rw[hlast,hgm];exact fun q=>q.elim hoe hc)]
           rw[hst];refine ah ?_;refine xp rfl (aM rfl (kw.cell (i:=1) rfl)) ?_
           iterate 2 refine b7 ?_
           refine xp rfl (eK rfl rfl (o.length-1) hidx hea) ?_;refine xp rfl (aM rfl hec) ?_;refine ah ?_;refine xp rfl (aM rfl (kw.cell (i:=1) rfl)) ?_;refine ah ?_;refine xp rfl (an.cW underlying78 H.ck rfl rfl (o.length-1) hidx (by omega)) ?_;refine ah ?_;refine bQ rfl (gq rfl rfl kw) ?_;rintro _ h5 ⟨rfl,k5,x5,z5⟩;refine ah ?_;refine bE ?_
           have hdl:cg cN h2 (wb+1) 3 (.slice (bF va 0 1 vc) (o.length-1) vc) o.dropLast:=by
            obtain⟨va',vc',hveq,hw⟩:=ax.open (show ax h2 (wb+1) 3 1 (.slice va o.length vc) o.length (o.map cN) from kv);cases hveq;have ht:=hw.take (m:=o.length-1) (by omega) 1;rw[Nat.mul_one,<-List.map_take,<-List.dropLast_eq_take] at ht
            show ax h2 (wb+1) 3 1 _ o.dropLast.length (o.dropLast.map cN)
            rw[List.length_dropLast];exact ht
           exact⟨_,rfl,⟨_,rfl⟩,⟨_,k5,ax.ext x5 hdl (fun b hb q=>by have:=ax.lt hdl hb;omega)⟩,e02.of.trans (x5.mono (fun b hb q=>by have q:b=wb:=q;show wb<=b;omega))⟩
theorem FK:∀(n:Nat) (l:By) (a:Nat) (st:ew),∀t∈(cR n l a st).1,-1000000000<=t.2.2/\t.2.2<=(a+l.length:Nat)
 | 0,_,_,_,t,h=>by simp[cR] at h
 |n+1,l,a,st,t,h=>by
  rw[cR] at h;split at h
  · simp at h
  · rename_i hl;have hlen:=dH hl st.1
    rcases List.mem_cons.1 h with rfl|h
    · simp only;omega
    · have:=FK n _ _ _ t h;rw[List.length_drop] at this;omega
theorem KY (hs:s.length<=1000000):∀t∈(aQ s).1,-1000000000<=t.2.2/\t.2.2<=1000000000:=fun t h=>by
 have:=FK s.length s 0 (0,0) t h;omega
theorem AZ (n:Nat) (hn:n<=1000000):af Tryz.prog 190 #[.int .i64 (n:Nat)] h (aX fun r h'=>r= .int .i64 (2*min n 20:Nat)/\h'=h):=by
 refine cu ?_;refine bZ ?_;refine eu ?_;refine b7 ?_;refine fu ?_;refine bZ ?_;refine eu ?_
 iterate 3 refine b7 ?_
 refine xp rfl (an.LF rfl rfl ⟨by split<;>split<;>omega,by split<;>split<;>omega⟩) ?_;refine ah ?_;refine bE ?_;exact⟨_,rfl,congrArg (Value.int .i64) (by (repeat' split)<;>omega),rfl⟩
theorem CU (s:By) (l:List Tk) (a:Int) (hv:bC HD h O v l) (hs:s.length<=1000000) (hl:l.length<=1000000) (ht:∀t∈l,-1000000000<=t.2.2/\t.2.2<=1000000000) :
 af Tryz.prog 191 #[.string (bs s),v,.int .i64 a] h (aX fun r h'=>r= .int .i64 (qK s l a:Nat)/\ak h h'):=by
 obtain⟨oa,n,c,rfl,hsl⟩:=hv.open;have hn:=hsl.len;have hle:=hsl.le;have hcap:=hsl.cap;unfold maxLen at hcap;subst hn;refine cu ?_;refine ah ?_;refine xp rfl (aB (H.FJ _) rfl) ?_;refine xo rfl (nk) ?_;rintro _ h1 ⟨rfl,k1,e1,z1⟩;have hA:Lm h1 h.size s []:=⟨_,k1,cg.nil cN h1 (h.size+1) 3⟩
 refine ah ?_;refine nq (σ:=Nat×List Nat) (fun w=>[(15,.int .i64 (w.1:Nat))]) (fun w g=>Lm g h.size s w.2/\ak h g/\w.1<=l.length/\(∀x∈w.2,x<s.length)/\w.2.length<=w.1/\mG s a (l.drop w.1) w.2=mG s a l []) (fun w=>l.length-w.1) ((0,[])) ⟨hA,e1,Nat.zero_le _,by simp,Nat.le_refl _,rfl⟩ rfl ?_;rintro⟨i,o⟩ g ⟨hW,he,hi,ho,hol,hd⟩ ih
 try dsimp only
 dsimp only at hW he hi ho hol hd;have hgz:=he.size;refine ah ?_;refine bN (fun hlt=>?_) (fun hlt=>?_)
 · have hil:i<l.length:=by omega
   obtain⟨b,o',cs,ha,hno,hrow,rfl⟩:=hsl.get i l[i] (List.getElem?_eq_getElem hil);have hdr:l.drop i=l[i]::l.drop (i+1):=List.drop_eq_getElem_cons hil;rw[hdr,mG] at hd
   iterate 4 refine bZ ?_
   refine eu ?_;refine xp rfl (eK rfl rfl i rfl ha hil) ?_;refine xp rfl (eN rfl (he.rowAt (fun k=>k) hrow)) ?_;refine xo rfl (iT) ?_;rintro _ g2 ⟨rfl,k2,e2,z2⟩;refine bQ rfl (er rfl rfl k2 (dA _)) ?_;rintro _ g3 ⟨rfl,k3,x3,z3⟩;have k3:aE g3 g.size 128 (bY l[i]):=k3;have e23:ak g g3:=ak.only e2 x3 (Nat.le_refl _);have hW3:=hW.aj e23;have hz3:=e23.size;refine ah ?_;refine xp rfl (aM rfl (k3.cell (i:=2) rfl)) ?_;refine ah ?_;refine bN (fun hc=>?_) (fun hc=>?_)
   · rw[if_pos hc] at hd;have hin:=CZ (s:=s) (o:=o) (t:=l[i]) ho;refine ah ?_;refine xp rfl (eN rfl k3.row) ?_;refine xo rfl (bl rfl (zP s o l[i] hW3 hs (ht _ (List.getElem_mem hil)) ho (by omega))) ?_;rintro _ g4 ⟨⟨j,rfl⟩,hW4,x4⟩;refine ah ?_;exact ih (i+1,(cO s o l[i]).1) ⟨hW4,iH (he.trans e23) x4 (Nat.le_refl _),by show i+1<=l.length;omega,hin.1,by show (cO s o l[i]).1.length<=i+1;omega,hd⟩
   · rw[if_neg hc] at hd;refine ah ?_;exact ih (i+1,o) ⟨hW3,he.trans e23,by show i+1<=l.length;omega,ho,by show o.length<=i+1;omega,hd⟩
 · have hil:i=l.length:=by omega
   rw[hil,List.drop_length,mG] at hd;obtain⟨v,kw,kv⟩:=hW;obtain⟨va,vc,rfl,_⟩:=ax.open kv;refine ah ?_;refine xp rfl (aM rfl (kw.cell (i:=1) rfl)) ?_;refine ah ?_;refine bE ?_;exact⟨_,rfl,congrArg (fun n:Nat=>Value.int .i64 (n:Nat)) (by unfold qK;rw[<-hd]),he⟩
theorem He (s:By) (l:List Tk) (a:Int):qK s l a<=l.length:=by
 have key:∀(l:List Tk) (o:List Nat),(mG s a l o).length<=o.length+l.length:=by
  intro l
  induction l with
  |nil=>intro o;simp[mG]
  |cons t l ih =>
   intro o;rw[mG,List.length_cons]
   have h1:(cO s o t).1.length<=o.length+1:=by
    unfold cO
    repeat' split
    · simp
    · simp
    · simp
    · simp only[List.length_dropLast];omega
   split
   · have:=ih (cO s o t).1;omega
   · have:=ih o;omega
 have:=key l [];unfold qK;simpa using this
theorem D7 (s:By) (l:List Tk) (st:ew) (hv:bC HD h O v l) (hs:s.length<=1000000) (hl:l.length<=1000000) (ht:∀t∈l,-1000000000<=t.2.2/\t.2.2<=1000000000) :
 af Tryz.prog 189 #[.string (bs s),v,.agg (aK st).toArray] h (aX fun r h'=>(∃n:Int,r= .tuple #[.int .i64 (wq s l st.1),.int .i64 n])/\ak h h'):=by
 obtain⟨oa,n,c,rfl,hsl⟩:=hv.open;have hn:=hsl.len;have hle:=hsl.le;have hcap:=hsl.cap;unfold maxLen at hcap;subst hn;refine cu ?_;refine ah ?_;refine xo rfl (nk) ?_;rintro _ h0 ⟨rfl,k0,e0,z0⟩;have k0:aE h0 h.size 44 (aK st):=k0;refine ah ?_;refine xp rfl (aB (H.FJ _) rfl) ?_;refine xo rfl (nk) ?_;rintro _ h1 ⟨rfl,k1,e1,z1⟩;have hA:Lm h1 h0.size s []:=⟨_,k1,cg.nil cN h1 (h0.size+1) 3⟩
 refine ah ?_;refine nq (σ:=Nat×List Nat) (fun w=>[(18,.int .i64 (w.1:Nat))]) (fun w g=>Lm g h0.size s w.2/\ak h0 g/\w.1<=l.length/\(∀x∈w.2,x<s.length)/\w.2.length<=w.1/\wz s (l.drop w.1) w.2=wz s l []) (fun w=>l.length-w.1) ((0,[])) ⟨hA,e1,Nat.zero_le _,by simp,Nat.le_refl _,rfl⟩ rfl ?_;rintro⟨i,o⟩ g ⟨hW,he,hi,ho,hol,hd⟩ ih
 try dsimp only
 dsimp only at hW he hi ho hol hd;have hgz:=he.size;have he':=e0.trans he;refine ah ?_;refine bN (fun hlt=>?_) (fun hlt=>?_)
 · have hil:i<l.length:=by omega
   obtain⟨b,o',cs,ha,hno,hrow,rfl⟩:=hsl.get i l[i] (List.getElem?_eq_getElem hil);have hdr:l.drop i=l[i]::l.drop (i+1):=List.drop_eq_getElem_cons hil;rw[hdr,wz] at hd
   iterate 4 refine bZ ?_
   refine eu ?_;refine xp rfl (eK rfl rfl i rfl ha hil) ?_;refine xp rfl (eN rfl (he'.rowAt (fun k=>k) hrow)) ?_;refine xo rfl (iT) ?_;rintro _ g2 ⟨rfl,k2,e2,z2⟩;refine bQ rfl (er rfl rfl k2 (dA _)) ?_;rintro _ g3 ⟨rfl,k3,x3,z3⟩;have k3:aE g3 g.size 128 (bY l[i]):=k3;have e23:ak g g3:=ak.only e2 x3 (Nat.le_refl _);have hW3:=hW.aj e23;have hz3:=e23.size;have hin:=CZ (s:=s) (o:=o) (t:=l[i]) ho;refine ah ?_;refine xp rfl (eN rfl k3.row) ?_;refine xo rfl (bl rfl (zP s o l[i] hW3 hs (ht _ (List.getElem_mem hil)) ho (by omega))) ?_;rintro _ g4 ⟨⟨j,rfl⟩,hW4,x4⟩;have e04:ak h0 g4:=iH (he.trans e23) x4 (Nat.le_refl _);refine ah ?_
   rcases hb:(cO s o l[i]).2
   · rw[hb,if_neg (by simp)] at hd;refine mX rfl (by simp) ?_;obtain⟨v,kw,kv⟩:=hW4;obtain⟨va,vc,rfl,_⟩:=ax.open kv;refine ah ?_;refine nj rfl (aM rfl (kw.cell (i:=1) rfl)) ?_;refine ah ?_;refine bE ?_;exact⟨_,rfl,⟨_,by unfold wq;rw[<-hd,if_pos rfl];rfl⟩,e0.trans e04⟩
   · rw[hb,if_pos rfl] at hd;refine mQ rfl (by simp) ?_;refine ah ?_;exact ih (i+1,(cO s o l[i]).1) ⟨hW4,e04,by show i+1<=l.length;omega,hin.1,by show (cO s o l[i]).1.length<=i+1;omega,hd⟩
 · have hil:i=l.length:=by omega
   rw[hil,List.drop_length,wz] at hd;obtain⟨v,kw,kv⟩:=hW;obtain⟨va,vc,rfl,_⟩:=ax.open kv;have k0:=k0.aj he;have hL:wq s l st.1=if o≠[]\/st.1≠0 then 1 else 0:=by unfold wq;rw[<-hd,if_neg (by simp)]
   rw[hL]
   iterate 3 refine bZ ?_
   refine jR [(46,.bool (decide (o≠[]\/st.1≠0)))] rfl ?_ ?_
   · refine ah ?_;refine xp rfl (aM rfl (kw.cell (i:=1) rfl)) ?_;refine ah ?_;refine gU 42 (fun d1=>?_) (fun d1=>?_)
     · have d1:=of_decide_eq_true d1;refine ah ?_;exact bq rfl ⟨aq rfl (by rw[decide_eq_true (.inl (fun q=>by rw[q] at d1;exact absurd d1 (by simp)))]),sb rfl⟩
     · have d1:=of_decide_eq_false d1;have hoe:o=[]:=List.length_eq_zero_iff.1 (by omega);refine ah ?_;refine xp rfl (aM rfl (k0.cell (i:=0) rfl)) ?_;refine ah ?_;exact bq rfl ⟨aq rfl (by rw[decide_eq_decide];exact⟨.inr,fun q=>q.resolve_left (fun q2=>q2 hoe)⟩),sb rfl⟩
   · refine bN (fun hc=>?_) (fun hc=>?_)
     · rw[if_pos hc];refine ah ?_;refine nj rfl (aM rfl (kw.cell (i:=1) rfl)) ?_;refine ah ?_;refine bE ?_;exact⟨_,rfl,⟨_,rfl⟩,e0.trans he⟩
     · rw[if_neg hc];refine ah ?_;refine bE ?_;exact⟨_,rfl,⟨_,rfl⟩,e0.trans he⟩
theorem tW (hg:kF h):af Tryz.prog 19 #[] h (aX fun r h'=>oP h' r/\ak h h'):=by
 obtain⟨lim,h1,h2⟩:=hg.sg;exact Gz h2 h1 hg.tens hg.rules
theorem II (l:List By):∀u∈l.map (fun s=>Value.string (bs s)),u.oneCell'=true:=by
 intro u hu;obtain⟨s,_,rfl⟩:=List.mem_map.1 hu;rfl
theorem Mr (l:List Bool):∀u∈l.map Value.bool,u.oneCell'=true:=by
 intro u hu;obtain⟨s,_,rfl⟩:=List.mem_map.1 hu;rfl
theorem Mm (n:Nat):uK [32] n=List.replicate n 32:=by
 induction n with
 |zero=>rfl
 |succ n ih=>rw[uK,ih,List.replicate_succ];rfl
theorem zG:∀(n:Nat) (l:By) (a:Nat) (st:ew),(cR n l a st).1.length<=n
 | 0,_,_,_=>by simp[cR]
 |n+1,l,a,st=>by
  rw[cR];split
  · simp
  · have:=zG n (l.drop (bB l st.1)) (a+bB l st.1) (dJ l st);rw[List.length_cons];omega
theorem CK (hg:kF h){s:MS}(k:eJ O h v s) (hO:∀y,O y->y<h.size){B:Nat}(hI:MI B s) (hB:B<=10000000) (hc:fo s) :
 af Tryz.prog 156 #[v] h (aX fun r h'=>eJ O h' r (ou s)/\ak h h'):=by
 obtain⟨p,hp⟩:∃p:Nat,s.cur=(p:Nat):=⟨s.cur.toNat,by unfold fo at hc;omega⟩
 have hpl:p<=s.text.length:=by unfold fo at hc;omega
 have htx:=hI.text;have htok:=KY (s:=s.text) (by omega);have htl:(aQ s.text).1.length<=s.text.length:=zG _ _ _ _;obtain⟨xa,xn,xc,ya,yn,yc,za,zn,zc,ua,un,uc,rfl,hS⟩:=eJ.get k;refine cu ?_;refine ah ?_;refine xo rfl (nk) ?_;rintro _ h1 ⟨rfl,k1,e1,z1⟩;refine xo rfl (iT) ?_;rintro _ h2 ⟨rfl,k2,e2,z2⟩;have F:Fr O h h2 h.size h1.size s _ _ _ _:=ef hS hO (e1.trans e2) (k1.aj e2) k2 (Nat.le_refl _) (by omega) (by omega);have hM:¬Array.size h2<=h.size:=by omega
 refine fu ?_;refine bZ ?_;refine Nu 10 (fun b=>Array.size h2<=b) (fun i=>Nat.blt i 9) (fun(w:Value×Nat) (h':ai)=>bC HD h' (fun _=>False) w.1 (aQ s.text).1/\aE h' w.2 44 (aK (aQ s.text).2)/\ak h2 h') (fun(w:Value×Nat)=>[(3,w.1),(4,.pointer (some ⟨w.2,0,none⟩))]) rfl ?_ ?_
 · refine aZ 1 ?_;refine cA 2 rfl (fun h' e=>aM rfl (e.cell hM (F.blk.cell (i:=0) rfl))) ?_;refine OY 0 7 rfl rfl (bl rfl (tW (hg.aj F.ext))) (iT) ?_ ?_
   · rintro pl g1 ⟨hL,e3⟩;refine⟨fun _=>e3.of,?_⟩;refine OY 3 7 rfl rfl (bl rfl (Ee ((hg.aj F.ext).aj e3) hL s.text (by omega))) (iT) ?_ ?_
     · rintro _ g2 ⟨⟨tv,rfl,htv⟩,e4⟩;refine⟨fun _=>e4.of,?_⟩;refine aZ 4 ?_;refine aZ 5 ?_;refine aZ 6 ?_;refine iL 7 rfl (iT) ?_;rintro _ g3 ⟨rfl,kst,e5,z5⟩;refine⟨fun _=>e5.of,?_⟩;refine aZ 8 ?_;refine pO 9 rfl (er rfl rfl kst (bL _)) ?_;rintro _ g4 ⟨rfl,k6,x6,z6⟩;refine⟨nofun,?_⟩;exact HF (tv,g2.size) ⟨(htv.aj (ak.only e5 x6 (Nat.le_refl _))),k6,(e3.trans e4).trans (ak.only e5 x6 (Nat.le_refl _))⟩
     · rintro _ g2 ⟨rfl,kst,e4,z4⟩;refine⟨fun _=>e4.of,?_⟩;refine iL 3 rfl (bl rfl (nZ (fun y=>y=g1.size) (fun y q=>by have q:y=g1.size:=q;omega) (((hg.aj F.ext).aj e3).aj e4) (hL.aj e4) s.text (by omega))) ?_;rintro _ g3 ⟨⟨tv,rfl,htv⟩,e5⟩;refine⟨fun _=>e5.of,?_⟩;refine aZ 4 ?_;refine aZ 5 ?_;refine aZ 6 ?_;refine aZ 8 ?_;refine pO 9 rfl (er rfl rfl ((kst.aj e5)) (bL _)) ?_;rintro _ g4 ⟨rfl,k6,x6,z6⟩;refine⟨nofun,?_⟩;have zz3:=e3.size;have zz5:=e5.size;have x15:ak g1 g4:=ak.only (e4.trans e5) x6 (Nat.le_refl _);exact HF (tv,g1.size) ⟨htv.mv (Mv.cL x6 fun y hy q=>⟨q,fun k=>k⟩),k6,e3.trans x15⟩
   · rintro _ g1 ⟨rfl,kst,e3,z3⟩;refine⟨fun _=>e3.of,?_⟩;refine iL 0 rfl (bl rfl (tW ((hg.aj F.ext).aj e3))) ?_;rintro pl g2 ⟨hL,e4⟩;refine⟨fun _=>e4.of,?_⟩;refine iL 3 rfl (bl rfl (nZ (fun y=>y=h2.size) (fun y q=>by have q:y=h2.size:=q;have:=e4.size;omega) (((hg.aj F.ext).aj e3).aj e4) hL s.text (by omega))) ?_;rintro _ g3 ⟨⟨tv,rfl,htv⟩,e5⟩;refine⟨fun _=>e5.of,?_⟩;refine aZ 4 ?_;refine aZ 5 ?_;refine aZ 6 ?_;refine aZ 8 ?_;refine pO 9 rfl (er rfl rfl (((kst.aj e4).aj e5)) (bL _)) ?_;rintro _ g4 ⟨rfl,k6,x6,z6⟩;refine⟨nofun,?_⟩;have x15:ak h2 g4:=ak.only ((e3.trans e4).trans e5) x6 (Nat.le_refl _);exact HF (tv,h2.size) ⟨htv.mv (Mv.cL x6 fun y hy q=>⟨q,fun k=>k⟩),k6,x15⟩
 · rintro⟨tv,b⟩ h3 ⟨htv,kst,e3⟩;dsimp only at htv kst ⊢;have F:=F.aj e3;have hlk:=D7 (h:=h3) s.text (aQ s.text).1 (aQ s.text).2 htv (by omega) (by omega) htok;refine ah ?_;refine xp rfl (aM rfl (F.blk.cell (i:=0) rfl)) ?_;refine ah ?_;refine xp rfl (eN rfl kst.row) ?_;refine xo rfl (bl rfl hlk) ?_;rintro _ h4 ⟨⟨nn,rfl⟩,e4⟩;have F:=F.aj e4;have htv:=htv.aj e4;obtain⟨L,hL⟩:∃L,wq s.text (aQ s.text).1 (aQ s.text).2.1=L:=⟨_,rfl⟩
   rw[hL];refine ah ?_;refine bN (fun c1=>?_) (fun c1=>?_)
   · obtain⟨D,hD⟩:∃D,qK s.text (aQ s.text).1 (p:Nat)=D:=⟨_,rfl⟩
     have hDl:=He s.text (aQ s.text).1 (p:Nat)
     have hE:ou s= { (dN s p (10::List.replicate (2*min D 20) 32)).1 with last:=0 }:=by
      unfold ou;rw[hL,if_pos c1,hp,Int.toNat_natCast,hD]
     rw[hE];have hdc:=CU (h:=h4) s.text (aQ s.text).1 (p:Nat) htv (by omega) (by omega) htok;rw[hD] at hdc hDl;have cc1:cellAt h4 ⟨h.size,0+1,none⟩=some (.int .i64 (p:Nat)):=hp▸F.blk.cell (i:=1) rfl;have hrc:=fun {g:ai}=>zi (h:=g) [32] (2*min D 20) (by simp) (by omega)
     rw[Mm] at hrc;refine ah ?_;refine xp rfl (aM rfl (F.blk.cell (i:=0) rfl)) ?_;refine ah ?_;refine xp rfl (aM rfl cc1) ?_;refine xo rfl (bl rfl hdc) ?_;rintro _ h5 ⟨rfl,e5⟩;refine xo rfl (bl rfl (AZ D (by omega))) ?_;rintro _ h5 ⟨rfl,rfl⟩;refine xo rfl (bl rfl hrc) ?_;rintro _ h6 ⟨rfl,e6⟩;have F:=(F.aj e5).aj e6;have cc1:=(e5.trans e6).cell (fun k=>k) cc1;have hz6:(bs (List.replicate (2*min D 20) 32)).size=2*min D 20:=by rw[aF,List.length_replicate]
     have w1:(⟨#[10]⟩:ByteArray).size=1:=rfl;have hcat:(⟨#[10]⟩:ByteArray)++bs (List.replicate (2*min D 20) 32)=bs (10::List.replicate (2*min D 20) 32):=by rw[show (⟨#[10]⟩:ByteArray)=bs [10] from rfl,fK];rfl
     have hpc:=zj F.tU F.hO hI (by omega) p hpl (10::List.replicate (2*min D 20) 32) (by rw[List.length_cons,List.length_replicate];omega);refine ah ?_;refine xp rfl (eN rfl F.blk.row) ?_;refine ah ?_;refine xp rfl (aM rfl cc1) ?_
     iterate 2 refine b7 ?_
     rw[hcat];refine xo rfl (bl rfl hpc) ?_;rintro _ h7 ⟨⟨w7,rfl,kw⟩,e7⟩;obtain⟨_,_,_,_,_,_,_,_,_,_,_,_,rfl,hT⟩:=eJ.get kw;have F:=F.aj e7;refine ah ?_;refine bQ rfl (er rfl rfl F.blk ms1) ?_;rintro _ h8 ⟨rfl,k8,x8,z8⟩;refine ah ?_;have F:=F.set k8 x8 hT;generalize (dN s p (10::List.replicate (2*min D 20) 32)).1=t at *;refine bQ rfl (gq rfl rfl F.blk) ?_;rintro _ h4 ⟨rfl,k4,x4,z4⟩;have F:=F.set (t:= { t with last:=0 }) k4 x4 (F.ms.of rfl rfl rfl rfl);refine ah ?_;refine xp rfl (eN rfl F.blk.row) ?_;refine bQ rfl (er rfl rfl F.res ms1) ?_;rintro _ gz ⟨rfl,kz,xz,zz⟩;refine ah ?_;refine jQ (jd rfl kz.row jP) ?_;exact⟨_,rfl,F.out xz⟩
   · have hE:ou s=nQ { s with lines:=s.lines++[s.text],flags:=s.flags++[decide (L=2)],hist:=fQ s.hist s.text,at_:=((fQ s.hist s.text).length:Nat),draft:=[],mode:=if s.mode=0 then 0 else 1 } []:=by
      unfold ou;rw[hL,if_neg c1]
     rw[hE];have hM4:¬Array.size h4<=h.size:=by have:=F.blk.lt;omega
     have hln:=hI.linesn;have hfn:=hI.flags;obtain⟨hlz,hrow,-⟩:=bC.row F.ms.lines;have hl1:(s.lines.map fun s=>Value.string (bs s)).length=zn*1:=by rw[List.length_map];omega
     have hmk:∀{g:ai}{v:Value}{m:Nat}{l:List By},ax g h4.size 9 1 v m ((l++[s.text]).map fun s=>Value.string (bs s))->bC sx g (Ka h.size h1.size O) v (l++[s.text]):=fun k=>ax.shut k (fun b hb q=>by have:=F.hO b q;omega)
     iterate 2 refine bZ ?_
     refine Nu 9 (fun b=>Array.size h4<=b) (fun i=>Nat.blt i 8) (fun(v8:Value) (h':ai)=>bC sx h' (Ka h.size h1.size O) v8 (s.lines++[s.text])/\aE h' h.size 31 (sP { s with lines:=s.lines++[s.text] } (.slice xa xn xc) (.slice ya yn yc) v8 (.slice ua un uc))/\Ext (fun y=>y=h.size) h4 h') (fun(v8:Value)=>[(50,v8)]) rfl ?_ ?_
     · refine aZ 0 ?_;refine cA 1 rfl (fun h' e=>aM rfl (e.cell hM4 (F.blk.cell (i:=16) rfl))) ?_;refine aZ 3 ?_;refine cA 4 rfl (fun h' e=>aM rfl (e.cell hM4 (F.blk.cell (i:=0) rfl))) ?_;refine OY 2 5 rfl rfl (az.append underlying22 H.xw rfl rfl (ax.nil h4 h4.size 9 1) hl1 hrow (II s.lines) (by simp only[maxLen];omega) (by omega) (Nat.le_refl _)) (sO [_]) ?_ ?_
       · rintro v1 w1 ⟨ho1,he1,-,-⟩;refine⟨fun _=>(dc he1).of,?_⟩;rw[Nat.zero_add,List.nil_append] at ho1;have he1:=dc he1;have ho2:=ho1.ext (Ext.push (fun _=>False) w1 (.cells [Value.string (bs s.text)].toArray 9)) (fun _ _ k=>k);refine iL 5 rfl (sO [_]) ?_;rintro _ _ ⟨rfl,rfl⟩;refine⟨fun _=>by first|exact Ext.push _ _ _|assumption,?_⟩;refine iL 6 rfl (az.append underlying22 H.xw rfl rfl ho2 rfl (.inr ⟨_,_,rfl,rK _ _ _⟩) (by simp[Value.oneCell']) (by simp only[maxLen];omega) (by omega) (by have:=he1.size;simp;omega)) ?_;rintro v2 w2 ⟨ho3,he3,-,-⟩;refine⟨fun _=>he3.mono (fun i _ hi=>(ho2.lt hi.symm).1),?_⟩;have ee:ak h4 w2:=Ext.own (he1.push _) ho2 (Nat.le_refl _) he3;have hv:=hmk (by rw[List.map_append];exact ho3);obtain⟨oa2,n2,c2,rfl,-⟩:=hv.open;refine aZ 7 ?_;refine pO 8 rfl (gq rfl rfl ((F.aj ee).blk)) ?_;rintro _ w3 ⟨rfl,k3,x3,z3⟩;refine⟨nofun,?_⟩;exact HF (.slice oa2 n2 c2) ⟨hv.mv (Mv.cL x3 fun y hy q=>⟨fun k=>q (.inl k),q⟩),k3,Ext.trans (ee.mono (fun _ _ k=>k.elim)) x3⟩
       · rintro _ _ ⟨rfl,rfl⟩;refine⟨fun _=>by first|exact Ext.push _ _ _|assumption,?_⟩;refine iL 2 rfl (az.append underlying22 H.xw rfl rfl (ax.nil _ h4.size 9 1) hl1 (hrow.imp id fun⟨b,o,ha,hr⟩=>⟨b,o,ha,(Ext.push (fun _=>False) _ _).rowAt (fun k=>k) hr⟩) (II s.lines) (by simp only[maxLen];omega) (by omega) (by simp)) ?_;rintro v1 w1 ⟨ho1,he1,-,-⟩;refine⟨fun _=>(dc he1).of,?_⟩;rw[Nat.zero_add,List.nil_append] at ho1;have he1:=dc he1;have heh:ak h4 w1:=(Ext.push _ _ _).trans he1;refine iL 6 rfl (az.append underlying22 H.xw rfl rfl ho1 rfl (.inr ⟨_,_,rfl,he1.rowAt (fun k=>k) (rK _ _ _)⟩) (by simp[Value.oneCell']) (by simp only[maxLen];omega) (by omega) heh.size) ?_;rintro v2 w2 ⟨ho3,he3,-,-⟩;refine⟨fun _=>he3.mono (fun i _ hi=>(ho1.lt hi.symm).1),?_⟩;have ee:ak h4 w2:=Ext.own heh ho1 (Nat.le_refl _) he3;have hv:=hmk (by rw[List.map_append];exact ho3);obtain⟨oa2,n2,c2,rfl,-⟩:=hv.open;refine aZ 7 ?_;refine pO 8 rfl (gq rfl rfl ((F.aj ee).blk)) ?_;rintro _ w3 ⟨rfl,k3,x3,z3⟩;refine⟨nofun,?_⟩;exact HF (.slice oa2 n2 c2) ⟨hv.mv (Mv.cL x3 fun y hy q=>⟨fun k=>q (.inl k),q⟩),k3,Ext.trans (ee.mono (fun _ _ k=>k.elim)) x3⟩
     · rintro v8 h5 ⟨hv8,k8,x8⟩;obtain⟨oa8,n8,c8,rfl,-⟩:=hv8.open;have m8:=F.ms.mv (Mv.cL x8 fun y hy q=>⟨fun k=>q (.inl k),q⟩);have F:Fr O h h5 h.size h1.size { s with lines:=s.lines++[s.text] } _ _ _ _:=⟨k8,F.res.ext x8 F.ne,ak.only F.ext x8 F.hb,F.hb,F.hr,F.ne,F.old,⟨m8.ring,m8.hist,hv8,m8.flags⟩⟩
       obtain⟨hlf,hrof,-⟩:=bC.row F.ms.flags;have hlf:s.flags.length=un:=hlf;have hl2:(s.flags.map Value.bool).length=un*1:=by rw[List.length_map];omega
       refine ah ?_;refine xp rfl (aM rfl (F.blk.cell (i:=17) rfl)) ?_;refine xo rfl (az.append underlying29 H.No rfl rfl (ax.nil h5 h5.size 4 1) hl2 hrof (Mr s.flags) (by simp only[maxLen];omega) (by omega) (Nat.le_refl _)) ?_;rintro v1 w1 ⟨ho1,he1,-,-⟩;rw[Nat.zero_add,List.nil_append] at ho1;have he1:=dc he1;have ho2:=ho1.ext (Ext.push (fun _=>False) w1 (.cells [Value.bool (decide (L=2))].toArray 4)) (fun _ _ k=>k);refine ah ?_;refine xo rfl (sO [_]) ?_;rintro _ _ ⟨rfl,rfl⟩;refine xo rfl (az.append underlying29 H.No rfl rfl ho2 rfl (.inr ⟨_,_,rfl,rK _ _ _⟩) (by simp[Value.oneCell']) (by simp only[maxLen];omega) (by omega) (by have:=he1.size;simp;omega)) ?_;rintro v2 w2 ⟨ho3,he3,-,-⟩;have ee:ak h5 w2:=Ext.own (he1.push _) ho2 (Nat.le_refl _) he3;have hfl:bC Qp w2 (Ka h.size h1.size O) v2 (s.flags++[decide (L=2)]):=ax.shut (n:=un+1) (by rw[List.map_append];exact ho3) (fun b hb q=>by have:=F.hO b q;omega);have F:=F.aj ee;obtain⟨oa9,n9,c9,rfl,-⟩:=hfl.open;refine ah ?_;refine bQ rfl (gq rfl rfl F.blk) ?_;rintro _ w3 ⟨rfl,k3,x3,z3⟩;have F:=F.set (t:= { s with lines:=s.lines++[s.text],flags:=s.flags++[decide (L=2)] }) k3 x3 ⟨F.ms.ring,F.ms.hist,F.ms.lines,hfl⟩;have hhn:=hI.histn;refine ah ?_;refine xp rfl (aM rfl (F.blk.cell (i:=5) rfl)) ?_;refine ah ?_;refine xp rfl (aM rfl (F.blk.cell (i:=0) rfl)) ?_;refine xo rfl (bl rfl (Ej (s:=s.text) F.ms.hist F.hO (by show s.hist.length<=1000000;omega))) ?_;rintro _ w4 ⟨hvh,e4'⟩;obtain⟨oah,nh,ch,rfl,hsh⟩:=hvh.open;have hnh:=hsh.len;subst hnh;have F:=F.aj e4';refine ah ?_;refine bQ rfl (gq rfl rfl F.blk) ?_;rintro _ w5 ⟨rfl,k5,x5,z5⟩;have F:=F.set (t:= { s with lines:=s.lines++[s.text],flags:=s.flags++[decide (L=2)],hist:=fQ s.hist s.text }) k5 x5 ⟨F.ms.ring,hvh,F.ms.lines,F.ms.flags⟩;refine ah ?_;refine xp rfl (aM rfl (F.blk.cell (i:=5) rfl)) ?_;refine ah ?_;refine bQ rfl (gq rfl rfl F.blk) ?_;rintro _ w6 ⟨rfl,k6,x6,z6⟩;have F:=F.set (t:= { s with lines:=s.lines++[s.text],flags:=s.flags++[decide (L=2)],hist:=fQ s.hist s.text,at_:=((fQ s.hist s.text).length:Nat) }) k6 x6 (F.ms.of rfl rfl rfl rfl);refine ah ?_;refine bQ rfl (gq rfl rfl F.blk) ?_;rintro _ h4 ⟨rfl,k4,x4,z4⟩;have F:=F.set (t:= { s with lines:=s.lines++[s.text],flags:=s.flags++[decide (L=2)],hist:=fQ s.hist s.text,at_:=((fQ s.hist s.text).length:Nat),draft:=[] }) k4 x4 (F.ms.of rfl rfl rfl rfl);refine ah ?_;refine xp rfl (aM rfl (F.blk.cell (i:=2) rfl)) ?_;refine ah ?_;refine bN (fun cm=>?_) (fun cm=>?_)
       · rw[if_neg cm];refine ah ?_;refine bQ rfl (gq rfl rfl F.blk) ?_;rintro _ h4 ⟨rfl,k4,x4,z4⟩;have F:=F.set (t:= { s with lines:=s.lines++[s.text],flags:=s.flags++[decide (L=2)],hist:=fQ s.hist s.text,at_:=((fQ s.hist s.text).length:Nat),draft:=[],mode:=1 }) k4 x4 (F.ms.of rfl rfl rfl rfl);refine ah ?_;refine xp rfl (eN rfl F.blk.row) ?_;refine xo rfl (bl rfl (tQ F.tU F.hO [])) ?_;rintro v3 h3 ⟨kv,e3⟩;obtain⟨_,_,_,_,_,_,_,_,_,_,_,_,rfl,hT⟩:=eJ.get kv;have F:=F.aj e3;refine bQ rfl (er rfl rfl F.res ms1) ?_;rintro _ gz ⟨rfl,kz,xz,zz⟩;refine ah ?_;refine jQ (jd rfl kz.row jP) ?_;exact⟨_,rfl,F.tr hT xz⟩
       · have cm:s.mode=0:=Classical.not_not.1 cm;rw[if_pos cm];have hm0:{ s with lines:=s.lines++[s.text],flags:=s.flags++[decide (L=2)],hist:=fQ s.hist s.text,at_:=((fQ s.hist s.text).length:Nat),draft:=[] } = { s with lines:=s.lines++[s.text],flags:=s.flags++[decide (L=2)],hist:=fQ s.hist s.text,at_:=((fQ s.hist s.text).length:Nat),draft:=[],mode:=0 }:=by rw[<-cm]
         rw[<-hm0];refine ah ?_;refine xp rfl (eN rfl F.blk.row) ?_;refine xo rfl (bl rfl (tQ F.tU F.hO [])) ?_;rintro v3 h3 ⟨kv,e3⟩;obtain⟨_,_,_,_,_,_,_,_,_,_,_,_,rfl,hT⟩:=eJ.get kv;have F:=F.aj e3;refine bQ rfl (er rfl rfl F.res ms1) ?_;rintro _ gz ⟨rfl,kz,xz,zz⟩;refine ah ?_;refine jQ (jd rfl kz.row jP) ?_;exact⟨_,rfl,F.tr hT xz⟩
theorem D1 (hg:kF h){s:MS}(k:eJ O h v s) (hO:∀y,O y->y<h.size){B:Nat}(hI:MI B s) (hB:B<=100000000) (hc:fo s) (n:Int) :
 af Tryz.prog 155 #[v,.int .i64 n] h (aX fun r h'=>eJ O h' r (jC s n)/\ak h h'):=by
 obtain⟨p,hp⟩:∃p:Nat,s.cur=(p:Nat):=⟨s.cur.toNat,by unfold fo at hc;omega⟩
 have hpl:p<=s.text.length:=by unfold fo at hc;omega
 have htx:=hI.text;obtain⟨xa,xn,xc,ya,yn,yc,za,zn,zc,ua,un,uc,rfl,hS⟩:=eJ.get k;refine cu ?_;refine ah ?_;refine xo rfl (nk) ?_;rintro _ h1 ⟨rfl,k1,e1,z1⟩;refine xo rfl (iT) ?_;rintro _ h2 ⟨rfl,k2,e2,z2⟩;have F:Fr O h h2 h.size h1.size s _ _ _ _:=ef hS hO (e1.trans e2) (k1.aj e2) k2 (Nat.le_refl _) (by omega) (by omega);refine fu ?_
 iterate 2 refine bZ ?_
 refine jR [(10,.bool (decide (n<0\/3<n)))] rfl ?_ ?_
 · refine ah ?_;refine gU 7 (fun d1=>?_) (fun d1=>?_)
   · have d1:=of_decide_eq_true d1;refine ah ?_;exact bq rfl ⟨aq rfl (by rw[decide_eq_true (.inl d1)]),sb rfl⟩
   · have d1:=of_decide_eq_false d1;refine ah ?_;exact bq rfl ⟨aq rfl (by rw[decide_eq_decide];omega),sb rfl⟩
 · refine bN (fun hq=>?_) (fun hq=>?_)
   · have hM:jC s n=dL s:=by unfold jC;rw[if_pos hq]
     rw[hM];refine ah ?_;refine xp rfl (eN rfl F.blk.row) ?_;refine xo rfl (bl rfl (mK F.tU F.hO hI (by omega))) ?_;rintro v3 h3 ⟨kv,e3⟩;obtain⟨_,_,_,_,_,_,_,_,_,_,_,_,rfl,hT⟩:=eJ.get kv;have F:=F.aj e3;refine bQ rfl (er rfl rfl F.res ms1) ?_;rintro _ gz ⟨rfl,kz,xz,zz⟩;refine ah ?_;refine jQ (jd rfl kz.row jP) ?_;exact⟨_,rfl,F.tr hT xz⟩
   · have hMM:jC s n= { (if n=2/\s.mode=1/\aW s.text p<p then jB s 0 1 else s) with mark:=if n=3 then (if n=2/\s.mode=1/\aW s.text p<p then jB s 0 1 else s).cur else -1,mode:=n,last:=0 }:=by
      unfold jC;rw[if_neg hq,hp,Int.toNat_natCast]
     rw[hMM];have hs1:=fJ (h:=h2) s.text p hpl (by omega);have cc1:cellAt h2 ⟨h.size,0+1,none⟩=some (.int .i64 (p:Nat)):=hp▸F.blk.cell (i:=1) rfl;have hM:¬Array.size h2<=h.size:=by omega
     iterate 3 refine bZ ?_
     refine L9 17 (fun b=>Array.size h2<=b) (fun i=>Nat.blt i 17) [(29,.bool (decide (n=2/\s.mode=1/\aW s.text p<p)))] rfl ?_ ?_
     · refine aZ 0 ?_;refine aZ 1 ?_;refine aZ 2 ?_;refine Qi 15 (fun d1=>?_) (fun d1=>?_)
       · have d1:=of_decide_eq_true d1;refine aZ 3 ?_;refine cA 4 rfl (fun h' e=>aM rfl (e.cell hM (F.blk.cell (i:=2) rfl))) ?_;refine aZ 5 ?_;refine aZ 6 ?_;refine aZ 7 ?_;refine Qi 20 (fun d2=>?_) (fun d2=>?_)
         · have d2:=of_decide_eq_true d2;refine aZ 8 ?_;refine cA 9 rfl (fun h' e=>aM rfl (e.cell hM cc1)) ?_;refine aZ 10 ?_;refine cA 11 rfl (fun h' e=>aM rfl (e.cell hM (F.blk.cell (i:=0) rfl))) ?_;refine aZ 12 ?_;refine cA 13 rfl (fun h' e=>aM rfl (e.cell hM cc1)) ?_;refine iL 14 rfl (bl rfl hs1) ?_;rintro _ h2 ⟨rfl,rfl⟩;refine⟨fun _=>Ext.refl _ _,?_⟩;refine aZ 15 ?_;refine aZ 16 ?_;exact HG rfl ⟨aq rfl (by rw[decide_eq_decide];omega),sb rfl⟩
         · have d2:=of_decide_eq_false d2;refine nu 8 ?_;refine nu 9 ?_;refine nu 10 ?_;refine nu 11 ?_;refine nu 12 ?_;refine nu 13 ?_;refine nu 14 ?_;refine nu 15 ?_;refine aZ 16 ?_;exact HG rfl ⟨aq rfl (by rw[decide_eq_false (fun q=>d2 q.2.1)]),sb rfl⟩
       · have d1:=of_decide_eq_false d1;refine nu 3 ?_;refine nu 4 ?_;refine nu 5 ?_;refine aZ 6 ?_;refine aZ 7 ?_;refine nu 8 ?_;refine nu 9 ?_;refine nu 10 ?_;refine nu 11 ?_;refine nu 12 ?_;refine nu 13 ?_;refine nu 14 ?_;refine nu 15 ?_;refine aZ 16 ?_;exact HG rfl ⟨aq rfl (by rw[decide_eq_false (fun q=>d1 q.1)]),sb rfl⟩
     · refine bN (fun hq2=>?_) (fun hq2=>?_)
       · simp only[if_pos hq2];refine ah ?_;refine xp rfl (eN rfl F.blk.row) ?_;refine xo rfl (bl rfl (tV (hg.aj F.ext) F.tU F.hO (by omega) 0 1)) ?_;rintro v3 h3 ⟨kv,e3⟩;obtain⟨_,_,_,_,_,_,_,_,_,_,_,_,rfl,hT⟩:=eJ.get kv;have F:=F.aj e3;refine bQ rfl (er rfl rfl F.blk ms1) ?_;rintro _ h4 ⟨rfl,k4,x4,z4⟩;have F:=F.set k4 x4 hT;generalize jB s 0 1=T at *;refine ah ?_;refine bQ rfl (gq rfl rfl F.blk) ?_;rintro _ h4 ⟨rfl,k4,x4,z4⟩;have F:=F.set (t:= { T with mark:= -1 }) k4 x4 (F.ms.of rfl rfl rfl rfl);refine ah ?_;refine bN (fun n3=>?_) (fun n3=>?_)
         · rw[if_pos n3];refine ah ?_;refine xp rfl (aM rfl (F.blk.cell (i:=1) rfl)) ?_;refine ah ?_;refine bQ rfl (gq rfl rfl F.blk) ?_;rintro _ h5 ⟨rfl,k5,x5,z5⟩;have F:=F.set (t:= { T with mark:=(T).cur }) k5 x5 (F.ms.of rfl rfl rfl rfl);refine ah ?_;refine bQ rfl (gq rfl rfl F.blk) ?_;rintro _ h4 ⟨rfl,k4,x4,z4⟩;have F:=F.set (t:= { T with mark:=(T).cur,mode:=n }) k4 x4 (F.ms.of rfl rfl rfl rfl);refine ah ?_;refine bQ rfl (gq rfl rfl F.blk) ?_;rintro _ h4 ⟨rfl,k4,x4,z4⟩;have F:=F.set (t:= { T with mark:=(T).cur,mode:=n,last:=0 }) k4 x4 (F.ms.of rfl rfl rfl rfl);refine ah ?_;refine xp rfl (eN rfl F.blk.row) ?_;refine bQ rfl (er rfl rfl F.res ms1) ?_;rintro _ gz ⟨rfl,kz,xz,zz⟩;refine ah ?_;refine jQ (jd rfl kz.row jP) ?_;exact⟨_,rfl,F.out xz⟩
         · rw[if_neg n3];refine ah ?_;refine bQ rfl (gq rfl rfl F.blk) ?_;rintro _ h4 ⟨rfl,k4,x4,z4⟩;have F:=F.set (t:= { T with mark:= -1,mode:=n }) k4 x4 (F.ms.of rfl rfl rfl rfl);refine ah ?_;refine bQ rfl (gq rfl rfl F.blk) ?_;rintro _ h4 ⟨rfl,k4,x4,z4⟩;have F:=F.set (t:= { T with mark:= -1,mode:=n,last:=0 }) k4 x4 (F.ms.of rfl rfl rfl rfl);refine ah ?_;refine xp rfl (eN rfl F.blk.row) ?_;refine bQ rfl (er rfl rfl F.res ms1) ?_;rintro _ gz ⟨rfl,kz,xz,zz⟩;refine ah ?_;refine jQ (jd rfl kz.row jP) ?_;exact⟨_,rfl,F.out xz⟩
       · simp only[if_neg hq2];refine ah ?_;refine bQ rfl (gq rfl rfl F.blk) ?_;rintro _ h4 ⟨rfl,k4,x4,z4⟩;have F:=F.set (t:= { s with mark:= -1 }) k4 x4 (F.ms.of rfl rfl rfl rfl);refine ah ?_;refine bN (fun n3=>?_) (fun n3=>?_)
         · rw[if_pos n3];refine ah ?_;refine xp rfl (aM rfl (F.blk.cell (i:=1) rfl)) ?_;refine ah ?_;refine bQ rfl (gq rfl rfl F.blk) ?_;rintro _ h5 ⟨rfl,k5,x5,z5⟩;have F:=F.set (t:= { s with mark:=(s).cur }) k5 x5 (F.ms.of rfl rfl rfl rfl);refine ah ?_;refine bQ rfl (gq rfl rfl F.blk) ?_;rintro _ h4 ⟨rfl,k4,x4,z4⟩;have F:=F.set (t:= { s with mark:=(s).cur,mode:=n }) k4 x4 (F.ms.of rfl rfl rfl rfl);refine ah ?_;refine bQ rfl (gq rfl rfl F.blk) ?_;rintro _ h4 ⟨rfl,k4,x4,z4⟩;have F:=F.set (t:= { s with mark:=(s).cur,mode:=n,last:=0 }) k4 x4 (F.ms.of rfl rfl rfl rfl);refine ah ?_;refine xp rfl (eN rfl F.blk.row) ?_;refine bQ rfl (er rfl rfl F.res ms1) ?_;rintro _ gz ⟨rfl,kz,xz,zz⟩;refine ah ?_;refine jQ (jd rfl kz.row jP) ?_;exact⟨_,rfl,F.out xz⟩
         · rw[if_neg n3];refine ah ?_;refine bQ rfl (gq rfl rfl F.blk) ?_;rintro _ h4 ⟨rfl,k4,x4,z4⟩;have F:=F.set (t:= { s with mark:= -1,mode:=n }) k4 x4 (F.ms.of rfl rfl rfl rfl);refine ah ?_;refine bQ rfl (gq rfl rfl F.blk) ?_;rintro _ h4 ⟨rfl,k4,x4,z4⟩;have F:=F.set (t:= { s with mark:= -1,mode:=n,last:=0 }) k4 x4 (F.ms.of rfl rfl rfl rfl);refine ah ?_;refine xp rfl (eN rfl F.blk.row) ?_;refine bQ rfl (er rfl rfl F.res ms1) ?_;rintro _ gz ⟨rfl,kz,xz,zz⟩;refine ah ?_;refine jQ (jd rfl kz.row jP) ?_;exact⟨_,rfl,F.out xz⟩
end
end Go.Proofs.YtpjgdgdnbkjoiaaGreatDoor
namespace Go.Proofs.YtpjgdgdnbkjoiaaGreatDoor
open Go.Proofs.Tryz
open Go Go.Lw
set_option maxRecDepth 20000
section
variable {O:Nat->Prop}{h:ai}{v:Value}{s:MS}{B:Nat}
def jM (c:Cm):Prop:=c.kind=2\/c.kind=3\/c.kind=4\/c.kind=14\/c.kind=25
theorem AE (hg:kF h) (k:eJ O h v s) (hO:∀y,O y->y<h.size) (hI:MI B s) (hB:B<=10000000) (hc:lR s) (c:Cm) (hk:c.kind=14\/c.kind=25) :
 af Tryz.prog 105 #[v,HE c] h (aX fun r h'=>eJ O h' r (qv s c)/\ak h h'):=by
 unfold qv;obtain⟨xa,xn,xc,ya,yn,yc,za,zn,zc,ua,un,uc,rfl,hS⟩:=eJ.get k;refine af.of func105 rfl rfl ?_;refine xr func105 rfl ?_;refine xo rfl (az.iQ rfl) ?_;rintro _ h1 ⟨rfl,k1,e1,z1⟩;refine xo rfl (az.iQ rfl) ?_;rintro _ h2 ⟨rfl,k2,e2,z2⟩;refine xo rfl (az.cC H.zY) ?_;rintro _ h3 ⟨rfl,k3,e3,z3⟩;have F:Ke O h h3 h.size h2.size h1.size c s _ _ _ _:=⟨ef hS hO ((e1.trans e2).trans e3) ((k1.aj e2).aj e3) k3 (Nat.le_refl _) (by omega) (by omega),k2.aj e3,by omega⟩
 have hg3:=hg.aj F.ext;refine xd [0,1,2,3,4] rfl ?_;refine aC rfl ?_;refine xr func105 rfl ?_;refine xp rfl (aa (off:=0) underlying28 rfl rfl H.ck rfl) ?_;refine xp rfl (au H.gS rfl (F.cmd.cell (i:=0) rfl)) ?_;refine xd [0,1,2,3,4,6] rfl ?_;refine G.block rfl rfl ?_;refine b9 func105 2 [0,1,2,3,4,6,7] rfl ?_;refine dQ rfl rfl (fun q14=>?_) (fun q14=>?_)
 · rw[if_pos q14];refine xr func105 rfl ?_;refine xp rfl (an.aG H.iZ H.cn rfl F.blk.row (by first|rfl|(simp;done)|(simp;omega))) ?_;refine xo rfl (ay (vs:=[_]) func156 rfl H.N5 rfl (af.cD (CK hg3 F.tU F.hO hI hB hc.ok))) ?_;rintro v3 h3 ⟨kv,e3⟩;obtain⟨_,_,_,_,_,_,_,_,_,_,_,_,rfl,hT⟩:=eJ.get kv;have F:=F.aj e3;refine RW.fS rfl rfl rfl (az.aH H.cn rfl rfl F.res (by first|rfl|(simp;done)|(simp;omega)) (by first|decide|exact of_decide_eq_true rfl|(simp;done)|(simp;omega)) (ms1)) ?_;rintro _ gz ⟨rfl,kz,xz,zz⟩;refine xd [0,1,2,3,4,6,7] rfl ?_;refine G.qu func105 rfl (.cons (cP.nM H.iZ H.cn rfl (kz.row) (by first|rfl|(simp;done)|(simp;omega))) (.nil)) ?_;exact⟨_,rfl,F.tr hT xz⟩
 · have hk25:c.kind=25:=by omega
   rw[if_neg q14,if_neg (by omega),if_neg (by omega),if_neg (by omega),if_pos hk25];refine b9 func105 2 [0,1,2,3,4,6,7,11] rfl ?_;refine aA rfl rfl (fun hc=>absurd hc (by simp;omega)) (fun _=>?_);refine b9 func105 2 [0,1,2,3,4,6,7,11,15] rfl ?_;refine aA rfl rfl (fun hc=>absurd hc (by simp;omega)) (fun _=>?_);refine aC rfl ?_;refine b9 func105 2 [0,1,2,3,4,6,7,11,15,19] rfl ?_;refine aA rfl rfl (fun hc=>absurd hc (by simp;omega)) (fun _=>?_);refine G.eM func105 rfl ?_;refine cV 2 [0,1,2,3,4,6,7,11,15,19] rfl ?_;refine aA rfl rfl (fun hc=>absurd hc (by simp;omega)) (fun _=>?_);refine b9 func105 2 [0,1,2,3,4,6,7,11,15,19,25] rfl ?_;refine aA rfl rfl (fun _=>?_) (fun hc=>absurd hc (by simp;omega));refine xr func105 rfl ?_;refine xp rfl (an.aG H.iZ H.cn rfl F.blk.row (by first|rfl|(simp;done)|(simp;omega))) ?_;refine xp rfl (aa (off:=2) underlying28 rfl rfl H.ck rfl) ?_;refine xp rfl (au H.gS rfl (F.cmd.cell (i:=2) rfl)) ?_;refine xo rfl (ay (vs:=[_,_]) func155 rfl H.N6 rfl (af.cD (D1 hg3 F.tU F.hO hI (by omega) hc.ok c.n))) ?_;rintro v5 h5 ⟨kv,e5⟩;obtain⟨_,_,_,_,_,_,_,_,_,_,_,_,rfl,hT⟩:=eJ.get kv;have F:=F.aj e5;refine RW.fS rfl rfl rfl (az.aH H.cn rfl rfl F.res (by first|rfl|(simp;done)|(simp;omega)) (by first|decide|exact of_decide_eq_true rfl|(simp;done)|(simp;omega)) (ms1)) ?_;rintro _ gz ⟨rfl,kz,xz,zz⟩;refine xd [0,1,2,3,4,6,7,11,15,19,25] rfl ?_;refine G.qu func105 rfl (.cons (cP.nM H.iZ H.cn rfl (kz.row) (by first|rfl|(simp;done)|(simp;omega))) (.nil)) ?_;exact⟨_,rfl,F.tr hT xz⟩
theorem CN (hg:kF h) (k:eJ O h v s) (hO:∀y,O y->y<h.size) (hI:MI B s) (hB:B<=10000000) (hc:lR s) (c:Cm) (hct:c.text.length<=100000000) (hk:jM c) :
 af Tryz.prog 44 #[v,HE c] h (aX fun r h'=>eJ O h' r (lI s c)/\ak h h'):=by
 have htx:=hI.text;unfold jM at hk;unfold lI;obtain⟨xa,xn,xc,ya,yn,yc,za,zn,zc,ua,un,uc,rfl,hS⟩:=eJ.get k;refine af.of func44 rfl rfl ?_;refine xr func44 rfl ?_;refine xo rfl (az.iQ rfl) ?_;rintro _ h1 ⟨rfl,k1,e1,z1⟩;refine xo rfl (az.iQ rfl) ?_;rintro _ h2 ⟨rfl,k2,e2,z2⟩;refine xo rfl (az.cC H.zY) ?_;rintro _ h3 ⟨rfl,k3,e3,z3⟩;have F:Ke O h h3 h.size h2.size h1.size c s _ _ _ _:=⟨ef hS hO ((e1.trans e2).trans e3) ((k1.aj e2).aj e3) k3 (Nat.le_refl _) (by omega) (by omega),k2.aj e3,by omega⟩
 have hg3:=hg.aj F.ext;refine xd [0,1,2,3,4] rfl ?_;refine aC rfl ?_;refine xr func44 rfl ?_;refine xp rfl (aa (off:=0) underlying28 rfl rfl H.ck rfl) ?_;refine xp rfl (au H.gS rfl (F.cmd.cell (i:=0) rfl)) ?_;refine xd [0,1,2,3,4,7] rfl ?_;refine G.block rfl rfl ?_;refine b9 func44 2 [0,1,2,3,4,7,8] rfl ?_;refine dQ rfl rfl (fun q2=>?_) (fun q2=>?_)
 · rw[if_pos q2];refine xr func44 rfl ?_;refine xp rfl (an.aG H.iZ H.cn rfl F.blk.row (by first|rfl|(simp;done)|(simp;omega))) ?_;refine xp rfl (aa (off:=3) underlying28 rfl rfl H.lS rfl) ?_;refine xp rfl (au H.ve rfl (F.cmd.cell (i:=3) rfl)) ?_;refine xp rfl (aa (off:=2) underlying28 rfl rfl H.ck rfl) ?_;refine xp rfl (au H.gS rfl (F.cmd.cell (i:=2) rfl)) ?_;refine xo rfl (ay (vs:=[_,_,_,_]) func93 rfl H.Pk rfl (af.cD (AY F.tU F.hO hI (by omega) hc.ok c.text hct c.n 1))) ?_;rintro v5 h5 ⟨kv,e5⟩;obtain⟨_,_,_,_,_,_,_,_,_,_,_,_,rfl,hT⟩:=eJ.get kv;have F:=F.aj e5;refine RW.fS rfl rfl rfl (az.aH H.cn rfl rfl F.res (by first|rfl|(simp;done)|(simp;omega)) (by first|decide|exact of_decide_eq_true rfl|(simp;done)|(simp;omega)) (ms1)) ?_;rintro _ gz ⟨rfl,kz,xz,zz⟩;refine xd [0,1,2,3,4,7,8] rfl ?_;refine G.qu func44 rfl (.cons (cP.nM H.iZ H.cn rfl (kz.row) (by first|rfl|(simp;done)|(simp;omega))) (.nil)) ?_;exact⟨_,rfl,F.tr hT xz⟩
 · rw[if_neg q2];refine b9 func44 2 [0,1,2,3,4,7,8,16] rfl ?_;refine dQ rfl rfl (fun q3=>?_) (fun q3=>?_)
   · rw[if_pos q3];refine xr func44 rfl ?_;refine xp rfl (an.aG H.iZ H.cn rfl F.blk.row (by first|rfl|(simp;done)|(simp;omega))) ?_;refine xp rfl (aa (off:=1) underlying28 rfl rfl H.ck rfl) ?_;refine xp rfl (au H.gS rfl (F.cmd.cell (i:=1) rfl)) ?_;refine xp rfl (aa (off:=2) underlying28 rfl rfl H.ck rfl) ?_;refine xp rfl (au H.gS rfl (F.cmd.cell (i:=2) rfl)) ?_;refine xo rfl (ay (vs:=[_,_,_]) func94 rfl H.Pj rfl (af.cD (tV hg3 F.tU F.hO (by omega) c.way c.n))) ?_;rintro v5 h5 ⟨kv,e5⟩;obtain⟨_,_,_,_,_,_,_,_,_,_,_,_,rfl,hT⟩:=eJ.get kv;have F:=F.aj e5;refine RW.fS rfl rfl rfl (az.aH H.cn rfl rfl F.res (by first|rfl|(simp;done)|(simp;omega)) (by first|decide|exact of_decide_eq_true rfl|(simp;done)|(simp;omega)) (ms1)) ?_;rintro _ gz ⟨rfl,kz,xz,zz⟩;refine xd [0,1,2,3,4,7,8,16] rfl ?_;refine G.qu func44 rfl (.cons (cP.nM H.iZ H.cn rfl (kz.row) (by first|rfl|(simp;done)|(simp;omega))) (.nil)) ?_;exact⟨_,rfl,F.tr hT xz⟩
   · rw[if_neg q3];refine aC rfl ?_;refine b9 func44 2 [0,1,2,3,4,7,8,16,24] rfl ?_;refine dQ rfl rfl (fun q4=>?_) (fun q4=>?_)
     · rw[if_pos (.inl q4)];refine aR rfl ?_;refine aA rfl rfl (fun _=>?_) (fun hc=>absurd hc (by simp[q4]));refine xr func44 rfl ?_;refine xp rfl (an.aG H.iZ H.cn rfl F.blk.row (by first|rfl|(simp;done)|(simp;omega))) ?_;refine xp rfl (an.aG H.Br H.sS rfl F.cmd.row (by first|rfl|(simp;done)|(simp;omega))) ?_;refine xo rfl (ay (vs:=[_,_]) func95 rfl H.Ph rfl (af.cD (G0 hg3 F.tU F.hO hI hB hc.ok c))) ?_;rintro v3 h4 ⟨kv,e3⟩;obtain⟨_,_,_,_,_,_,_,_,_,_,_,_,rfl,hT⟩:=eJ.get kv;have F:=F.aj e3;refine RW.fS rfl rfl rfl (az.aH H.cn rfl rfl F.res (by first|rfl|(simp;done)|(simp;omega)) (by first|decide|exact of_decide_eq_true rfl|(simp;done)|(simp;omega)) (ms1)) ?_;rintro _ gz ⟨rfl,kz,xz,zz⟩;refine xd [0,1,2,3,4,7,8,16,24] rfl ?_;refine G.qu func44 rfl (.cons (cP.nM H.iZ H.cn rfl (kz.row) (by first|rfl|(simp;done)|(simp;omega))) (.nil)) ?_;exact⟨_,rfl,F.tr hT xz⟩
     · rw[if_neg (by omega),if_neg (by omega),if_neg (by omega),if_neg (by omega),if_neg (by omega),if_neg (by omega),if_neg (by omega),if_neg (by omega),if_neg (by omega),if_neg (by omega)];refine b9 func44 2 [0,1,2,3,4,7,8,16,24] rfl ?_;refine aA rfl rfl (fun hc=>absurd hc (by simp;omega)) (fun _=>?_);refine G.eM func44 rfl ?_;refine cV 2 [0,1,2,3,4,7,8,16,24] rfl ?_;refine aA rfl rfl (fun hc=>absurd hc (by simp;omega)) (fun _=>?_);refine aC rfl ?_;refine b9 func44 2 [0,1,2,3,4,7,8,16,24,31] rfl ?_;refine aA rfl rfl (fun hc=>absurd hc (by simp;omega)) (fun _=>?_);refine G.eM func44 rfl ?_;refine cV 2 [0,1,2,3,4,7,8,16,24,31] rfl ?_;refine aA rfl rfl (fun hc=>absurd hc (by simp;omega)) (fun _=>?_);refine aC rfl ?_;refine b9 func44 2 [0,1,2,3,4,7,8,16,24,31,37] rfl ?_;refine aA rfl rfl (fun hc=>absurd hc (by simp;omega)) (fun _=>?_);refine G.eM func44 rfl ?_;refine cV 2 [0,1,2,3,4,7,8,16,24,31,37] rfl ?_;refine aA rfl rfl (fun hc=>absurd hc (by simp;omega)) (fun _=>?_);refine b9 func44 2 [0,1,2,3,4,7,8,16,24,31,37,43] rfl ?_;refine aA rfl rfl (fun hc=>absurd hc (by simp;omega)) (fun _=>?_);refine b9 func44 2 [0,1,2,3,4,7,8,16,24,31,37,43,47] rfl ?_;refine aA rfl rfl (fun hc=>absurd hc (by simp;omega)) (fun _=>?_);refine b9 func44 2 [0,1,2,3,4,7,8,16,24,31,37,43,47,51] rfl ?_;refine aA rfl rfl (fun hc=>absurd hc (by simp;omega)) (fun _=>?_);refine b9 func44 2 [0,1,2,3,4,7,8,16,24,31,37,43,47,51,79] rfl ?_;refine aA rfl rfl (fun hc=>absurd hc (by simp;omega)) (fun _=>?_);refine b9 func44 2 [0,1,2,3,4,7,8,16,24,31,37,43,47,51,79,85] rfl ?_;refine aA rfl rfl (fun hc=>absurd hc (by simp;omega)) (fun _=>?_);refine aC rfl ?_;refine b9 func44 2 [0,1,2,3,4,7,8,16,24,31,37,43,47,51,79,85,91] rfl ?_;refine aA rfl rfl (fun hc=>absurd hc (by simp;omega)) (fun _=>?_);refine G.eM func44 rfl ?_;refine cV 2 [0,1,2,3,4,7,8,16,24,31,37,43,47,51,79,85,91] rfl ?_;refine aA rfl rfl (fun hc=>absurd hc (by simp;omega)) (fun _=>?_);refine aC rfl ?_;refine b9 func44 2 [0,1,2,3,4,7,8,16,24,31,37,43,47,51,79,85,91,97] rfl ?_;refine aA rfl rfl (fun hc=>absurd hc (by simp;omega)) (fun _=>?_);refine G.eM func44 rfl ?_;refine cV 2 [0,1,2,3,4,7,8,16,24,31,37,43,47,51,79,85,91,97] rfl ?_;refine aA rfl rfl (fun hc=>absurd hc (by simp;omega)) (fun _=>?_);refine aR rfl ?_;refine G.cz ?_;refine xr func44 rfl ?_;refine xp rfl (an.aG H.iZ H.cn rfl F.blk.row (by first|rfl|(simp;done)|(simp;omega))) ?_;refine xp rfl (an.aG H.Br H.sS rfl F.cmd.row (by first|rfl|(simp;done)|(simp;omega))) ?_;refine xo rfl (ay (vs:=[_,_]) func105 rfl H.Oa rfl (af.cD (AE hg3 F.tU F.hO hI hB hc c (by omega)))) ?_;rintro v3 h4 ⟨kv,e3⟩;obtain⟨_,_,_,_,_,_,_,_,_,_,_,_,rfl,hT⟩:=eJ.get kv;have F:=F.aj e3;refine RW.fS rfl rfl rfl (az.aH H.cn rfl rfl F.res (by first|rfl|(simp;done)|(simp;omega)) (by first|decide|exact of_decide_eq_true rfl|(simp;done)|(simp;omega)) (ms1)) ?_;rintro _ gz ⟨rfl,kz,xz,zz⟩;refine xd [0,1,2,3,4,7,8,16,24,31,37,43,47,51,79,85,91,97] rfl ?_;refine G.qu func44 rfl (.cons (cP.nM H.iZ H.cn rfl (kz.row) (by first|rfl|(simp;done)|(simp;omega))) (.nil)) ?_;exact⟨_,rfl,F.tr hT xz⟩
theorem Js (hI:MI B s) (hc:lR s) (c:Cm) (hk:jM c):cQ B s (lI s c):=by
 unfold jM at hk;unfold lI
 rcases hk with e|e|e|e|e
 · rw[if_pos e];exact mj hI hc.ok _ _ _
 · rw[if_neg (by omega),if_pos e];exact o6 hI _ _
 · rw[if_neg (by omega),if_neg (by omega),if_pos (.inl e)];exact Fy hI c
 · rw[if_neg (by omega),if_neg (by omega),if_neg (by omega),if_neg (by omega),if_neg (by omega),if_neg (by omega),if_neg (by omega),if_neg (by omega),if_neg (by omega),if_neg (by omega),if_neg (by omega),if_neg (by omega)];unfold qv;rw[if_pos e];exact zM hI hc.ok
 · rw[if_neg (by omega),if_neg (by omega),if_neg (by omega),if_neg (by omega),if_neg (by omega),if_neg (by omega),if_neg (by omega),if_neg (by omega),if_neg (by omega),if_neg (by omega),if_neg (by omega),if_neg (by omega)];unfold qv;rw[if_neg (by omega),if_neg (by omega),if_neg (by omega),if_neg (by omega),if_pos e];exact(rP hI _).1
theorem Bp (hg:kF h) (k:eJ O h v s) (hO:∀y,O y->y<h.size) (hI:MI B s) (hB:B<=9000000) (c:Cm) (hct:c.text.length<=100000000) (hk:jM c) (hm4:s.mode≠4) (hm2:(lI (fixC s) c).mode≠2) :
 af Tryz.prog 22 #[v,HE c] h (aX fun r h'=>eJ O h' r (dh s c)/\ak h h'):=by
 have htx:=hI.text;have hI1:MI B (fixC s):=hI.cur _;have hc1:lR (fixC s):=⟨_,rfl,mw _ _⟩
 have hmid:=Js hI1 hc1 c hk;have hk':=hk;unfold jM at hk';unfold dh;rw[if_neg (by omega),show GB (fixC s) c=lI (fixC s) c from if_neg hm4];obtain⟨xa,xn,xc,ya,yn,yc,za,zn,zc,ua,un,uc,rfl,hS⟩:=eJ.get k;refine af.of func22 rfl rfl ?_;refine xr func22 rfl ?_;refine xo rfl (az.iQ rfl) ?_;rintro _ h1 ⟨rfl,k1,e1,z1⟩;refine xo rfl (az.iQ rfl) ?_;rintro _ h2 ⟨rfl,k2,e2,z2⟩;refine xo rfl (az.cC H.zY) ?_;rintro _ h3 ⟨rfl,k3,e3,z3⟩;have F:Ke O h h3 h.size h2.size h1.size c s _ _ _ _:=⟨ef hS hO ((e1.trans e2).trans e3) ((k1.aj e2).aj e3) k3 (Nat.le_refl _) (by omega) (by omega),k2.aj e3,by omega⟩
 refine xd [0,1,2,3,4] rfl ?_;refine aC rfl ?_;refine aC rfl ?_;refine G.eF [(22,.bool false)] [(0,_),(1,_),(2,_),(3,_),(4,_)] ⟨rfl,rfl,rfl,rfl,rfl,trivial⟩ func22 rfl ?_ ?_
 · refine xp rfl (aa (off:=0) underlying28 rfl rfl H.ck rfl) ?_;refine xp rfl (au H.gS rfl (F.cmd.cell (i:=0) rfl)) ?_;refine dz 2 rfl ?_;refine RW.dK (d:=8) (b':=false) rfl (decide_eq_false (by omega)) ?_;refine xp rfl (aa (off:=0) underlying28 rfl rfl H.ck rfl) ?_;refine xp rfl (au H.gS rfl (F.cmd.cell (i:=0) rfl)) ?_;refine dz 3 rfl ?_;refine RW.dK (d:=13) (b':=false) rfl (decide_eq_false (by omega)) ?_;refine xp rfl (aa (off:=0) underlying28 rfl rfl H.ck rfl) ?_;refine xp rfl (au H.gS rfl (F.cmd.cell (i:=0) rfl)) ?_;refine dz 3 rfl ?_;refine RW.dK (d:=18) (b':=false) rfl (decide_eq_false (by omega)) ?_;refine xp rfl (aa (off:=0) underlying28 rfl rfl H.ck rfl) ?_;refine xp rfl (au H.gS rfl (F.cmd.cell (i:=0) rfl)) ?_;refine dz 2 rfl ?_;refine RW.done rfl ?_;exact⟨rfl,aq rfl (by rw[decide_eq_false_iff_not];omega),rfl,rfl,rfl,rfl,rfl,trivial⟩
 · refine aA rfl rfl (fun hc=>absurd hc (by decide)) (fun _=>?_);have hfx:=lF (h:=h3) s.text s.cur (by omega);refine aR rfl ?_;refine xr func22 rfl ?_;refine xp rfl (aa (off:=0) underlying31 rfl rfl H.lS rfl) ?_;refine xp rfl (au H.ve rfl (F.blk.cell (i:=0) rfl)) ?_;refine xp rfl (aa (off:=1) underlying31 rfl rfl H.ck rfl) ?_;refine xp rfl (au H.gS rfl (F.blk.cell (i:=1) rfl)) ?_;refine xo rfl (ay (vs:=[_,_]) func42 rfl H.Kw rfl (af.cD (hfx))) ?_;rintro _ h4 ⟨rfl,e4⟩;have F:=F.aj e4;refine xp rfl (aa (off:=1) underlying31 rfl rfl H.ck rfl) ?_;refine RW.fS rfl rfl rfl (az.aO H.ck rfl rfl F.blk (by first|decide|exact of_decide_eq_true rfl|(simp;done)|(simp;omega)) rfl) ?_;rintro _ h8 ⟨rfl,k8,x8,z8⟩;have F:=F.set (t:=fixC s) k8 x8 (F.ms.of rfl rfl rfl rfl);have hg4:=hg.aj F.ext;refine xd [0,1,2,3,4,22] rfl ?_;refine aC rfl ?_;refine xr func22 rfl ?_;refine xp rfl (aa (off:=2) underlying31 rfl rfl H.ck rfl) ?_;refine xp rfl (au H.gS rfl (F.blk.cell (i:=2) rfl)) ?_;refine cV 1 [0,1,2,3,4,22,32] rfl ?_;refine aA rfl rfl (fun hc=>absurd hc (by simp;exact hm4)) (fun _=>?_);refine G.eM func22 rfl ?_;refine xp rfl (an.aG H.iZ H.cn rfl F.blk.row (by first|rfl|(simp;done)|(simp;omega))) ?_;refine xp rfl (an.aG H.Br H.sS rfl F.cmd.row (by first|rfl|(simp;done)|(simp;omega))) ?_;refine xo rfl (ay (vs:=[_,_]) func44 rfl H.PD rfl (af.cD (CN hg4 F.tU F.hO hI1 (by omega) hc1 c hct hk))) ?_;rintro v3 h5 ⟨kv,e3⟩;obtain⟨_,_,_,_,_,_,_,_,_,_,_,_,rfl,hT⟩:=eJ.get kv;have F:=F.aj e3;refine RW.fS rfl rfl rfl (az.aH H.cn rfl rfl F.blk (by first|rfl|(simp;done)|(simp;omega)) (by first|decide|exact of_decide_eq_true rfl|(simp;done)|(simp;omega)) (ms1)) ?_;rintro _ h6 ⟨rfl,k6,x6,z6⟩;have F:=F.set k6 x6 hT;generalize lI (fixC s) c=T at *;have hIT:MI (B+20000) T:=hmid.inv;have htx:=hIT.text;obtain⟨p,hp⟩:∃p,fG T.text T.cur=p:=⟨_,rfl⟩
   have hM:CL (fixC T)= { T with cur:=(p:Nat) }:=by
    unfold CL fixC;simp only;rw[hp,if_neg (fun q=>hm2 q.1)]
   rw[hM];have hfx:=lF (h:=h6) T.text T.cur (by omega);rw[hp] at hfx;refine xd [0,1,2,3,4,22,32] rfl ?_;refine xr func22 rfl ?_;refine xp rfl (aa (off:=0) underlying31 rfl rfl H.lS rfl) ?_;refine xp rfl (au H.ve rfl (F.blk.cell (i:=0) rfl)) ?_;refine xp rfl (aa (off:=1) underlying31 rfl rfl H.ck rfl) ?_;refine xp rfl (au H.gS rfl (F.blk.cell (i:=1) rfl)) ?_;refine xo rfl (ay (vs:=[_,_]) func42 rfl H.Kw rfl (af.cD (hfx))) ?_;rintro _ h7 ⟨rfl,e7⟩;have F:=F.aj e7;refine xp rfl (aa (off:=1) underlying31 rfl rfl H.ck rfl) ?_;refine RW.fS rfl rfl rfl (az.aO H.ck rfl rfl F.blk (by first|decide|exact of_decide_eq_true rfl|(simp;done)|(simp;omega)) rfl) ?_;rintro _ h8 ⟨rfl,k8,x8,z8⟩;have F:=F.set (t:= { T with cur:=(p:Nat) }) k8 x8 (F.ms.of rfl rfl rfl rfl);have c2:cellAt h8 ⟨h.size,0+2,none⟩=some (.int .i64 T.mode):=F.blk.cell (i:=2) rfl;have hM8:¬Array.size h8<=h.size:=by have:=F.blk.lt;omega
   refine xd [0,1,2,3,4,22,32] rfl ?_;refine aC rfl ?_;refine aC rfl ?_;refine G.pq [(67,.bool false)] [(0,_),(1,_),(2,_),(3,_),(4,_),(22,_),(32,_)] ⟨rfl,rfl,rfl,rfl,rfl,rfl,rfl,trivial⟩ (fun b=>Array.size h8<=b) (fun i=>Nat.blt i 23) (sz:=23) (listed:= #[false,false,false,false,false,false,false,false,false,false,false,false,false,false,false,false,false,false,false,false,false,false,false]) func22 H.mixed rfl rfl rfl ?_ ?_
   · refine cj 0 1 (by kernel_rfl) rfl (fun h' e=>aa (off:=2) underlying31 rfl rfl H.ck rfl) ?_;refine cj 1 3 (by kernel_rfl) rfl (fun h' e=>au H.gS rfl (e.cell hM8 c2)) ?_;refine aP 2 7 (by kernel_rfl) rfl ?_;refine aP 3 15 (by kernel_rfl) rfl ?_;refine RD.dK (d:=48) (b':=false) rfl (decide_eq_false (hm2)) ?_;refine dw 4 31 (by kernel_rfl) rfl ?_;refine dw 5 63 (by kernel_rfl) rfl ?_;refine dw 6 127 (by kernel_rfl) rfl ?_;refine dw 7 255 (by kernel_rfl) rfl ?_;refine dw 8 511 (by kernel_rfl) rfl ?_;refine dw 9 1023 (by kernel_rfl) rfl ?_;refine dw 10 2047 (by kernel_rfl) rfl ?_;refine dw 11 4095 (by kernel_rfl) rfl ?_;refine aP 12 8191 (by kernel_rfl) rfl ?_;refine aP 13 16383 (by kernel_rfl) rfl ?_;refine dw 14 32767 (by kernel_rfl) rfl ?_;refine dw 15 65535 (by kernel_rfl) rfl ?_;refine dw 16 131071 (by kernel_rfl) rfl ?_;refine dw 17 262143 (by kernel_rfl) rfl ?_;refine dw 18 524287 (by kernel_rfl) rfl ?_;refine dw 19 1048575 (by kernel_rfl) rfl ?_;refine dw 20 2097151 (by kernel_rfl) rfl ?_;refine dw 21 4194303 (by kernel_rfl) rfl ?_;refine aP 22 8388607 (by kernel_rfl) rfl ?_;refine RD.done (by kernel_rfl) ?_;exact⟨rfl,aq rfl (rfl),rfl,rfl,rfl,rfl,rfl,rfl,rfl,trivial⟩
   · refine aA rfl rfl (fun hc=>absurd hc (by decide)) (fun _=>?_);refine aR rfl ?_;refine xr func22 rfl ?_;refine xp rfl (an.aG H.iZ H.cn rfl F.blk.row (by first|rfl|(simp;done)|(simp;omega))) ?_;refine RW.fS rfl rfl rfl (az.aH H.cn rfl rfl F.res (by first|rfl|(simp;done)|(simp;omega)) (by first|decide|exact of_decide_eq_true rfl|(simp;done)|(simp;omega)) (ms1)) ?_;rintro _ gz ⟨rfl,kz,xz,zz⟩;refine xd [0,1,2,3,4,22,32,67] rfl ?_;refine G.qu func22 rfl (.cons (cP.nM H.iZ H.cn rfl (kz.row) (by first|rfl|(simp;done)|(simp;omega))) (.nil)) ?_;exact⟨_,rfl,F.out xz⟩
end
end Go.Proofs.YtpjgdgdnbkjoiaaGreatDoor
namespace Go.Proofs.YtpjgdgdnbkjoiaaGreatDoor
open Go
structure Bw where
  t:By
  c:Int
  were:List (By×Int)
  gone:List (By×Int)
  o:Int
def HP (t:By) (c:Int):Bw:=⟨t,c,[],[],0⟩
def yu (u:Bw) (t:By) (c g:Int):Bw:=⟨t,c,if g<=0\/g≠u.o then (u.were++[(u.t,u.c)]).drop (u.were.length+1-100) else u.were,[],max g 0⟩
def ny (u:Bw):Option Bw:=match u.were.getLast? with
  |none=>none
  |some x=>some ⟨x.1,x.2,u.were.dropLast,u.gone++[(u.t,u.c)],0⟩
def jV (u:Bw):Option Bw:=match u.gone.getLast? with
  |none=>none
  |some x=>some ⟨x.1,x.2,u.were++[(u.t,u.c)],u.gone.dropLast,0⟩
structure Tm (H:List (By×Int)) (p:Nat) (u:Bw):Prop where
  now:H[p]? =some (u.t,u.c)
  were:u.were=H.take p
  gone:u.gone=(H.drop (p+1)).reverse
def aY:List By->By
  | []=>[]
  |s::r=>s++aY r
theorem cZ:∀(a b:List By),aY (a++b)=aY a++aY b
  | [],_=>rfl
  |s::r,b=>by simp only[List.cons_append,aY,cZ r b,List.append_assoc]
theorem qG (l:List By) (i:Nat):aY (l.take i)++aY (l.drop i)=aY l:=by rw[<-cZ,List.take_append_drop]
def je (l:List By) (s:By):List By:=if s=[] then l else l++[s]
theorem tw (l:List By) (s:By):aY (je l s)=aY l++s:=by
  unfold je;split
  · rename_i h;subst h;simp
  · rw[cZ];simp[aY]
structure Lj (l:List By) (a:Nat) (i:Nat) (s:By) (k:Nat):Prop where
  at_:l[i]? =some s
  lt:k<s.length
  sum:(aY (l.take i)).length+k=a
theorem Lj.flat {l:List By}{a i k:Nat}{s:By}(c:Lj l a i s k):aY (je (l.take i) (s.take k))=(aY l).take a/\aY (s.drop k::l.drop (i+1))=(aY l).drop a:=by
  have hl:aY l=aY (l.take i)++(s.take k++(s.drop k++aY (l.drop (i+1)))):=by
    rw[<-qG l i,<-List.append_assoc (s.take k),List.take_append_drop]
    congr 1
    obtain⟨hi,e⟩:=List.getElem?_eq_some_iff.1 c.at_;rw[List.drop_eq_getElem_cons hi,e];rfl
  have hk:=c.lt;have hlen:(aY (l.take i)++s.take k).length=a:=by rw[List.length_append,List.length_take,Nat.min_eq_left (by omega)];exact c.sum
  rw[tw];constructor
  · rw[hl,<-List.append_assoc,List.take_left' hlen]
  · rw[hl,<-List.append_assoc,List.drop_left' hlen];rfl
theorem AB {a b:By}{f t e:Nat}(h1:a.take f=b.take f) (h2:a.drop t=b.drop e) (hf:f<=e) (he:e<=b.length):a.take f++(b.drop f).take (e-f)++a.drop t=b:=by
  rw[h1,h2,List.append_assoc]
  have h3:(b.drop f).take (e-f)++b.drop e=b.drop f:=by
    have:=List.take_append_drop (e-f) (b.drop f)
    rwa [List.drop_drop,show f+(e-f)=e by omega] at this
  rw[h3,List.take_append_drop]
end Go.Proofs.YtpjgdgdnbkjoiaaGreatDoor

/- What the proof of the statement leans on (part 31). -/
import Derived.Shelf.Strings.Builder1
import Derived.Shelf.Strings.Builder2
import Derived.Shelf.Strings.OnBuilder
import Derived.Shelf.Small.Utf8
import Derived.Shelf.Small.Strs
import Derived.Shelf.Strings.BuilderF
import Derived.Shelf.Strings.BuilderK
import Derived.Shelf.Strings.Builder2Cap
import Derived.Shelf.Strconv.Atoi
import Derived.Shelf.Strconv.Itoa0
import Derived.Shelf.Strconv.Itoa1
import Derived.Shelf.LaysM
import Derived.Shelf.Strconv.Itoa2
import Derived.Shelf.Strconv.Itoa3
import Derived.Shelf.Strconv.AtoiErrFast
import Derived.Shelf.Strconv.ParseIntEmpty
import Derived.Shelf.Strconv.AtoiFail
import Derived.Shelf.Strconv.Clone
import Derived.Shelf.Strconv.SyntaxError
import Derived.Shelf.LaysC
import Derived.Shelf.Strconv.ToError
import Derived.Shelf.Strconv.Lower
import Derived.Shelf.Strconv.ParseUint10
import Derived.Shelf.Strconv.ParseUint10Empty
import Derived.Shelf.Strconv.ParseUint10Any
import Derived.Shelf.Strconv.ParseInt10
import Derived.Shelf.Strconv.AtoiLong
import Derived.Shelf.Strconv.AtoiInnerAll
import Derived.Shelf.Strconv.RangeError
import Derived.Shelf.Strconv.ToErrorRange
import Derived.Shelf.Strconv.AtoiAll
import Derived.Shelf.Strings.Search1
import Derived.Shelf.Strings.Search2
import Derived.Shelf.Strings.Search3
import Derived.Shelf.Strings.Cut
import Derived.Shelf.Strings.Shaped
import Derived.Shelf.Strings.LastIndex
import Derived.Shelf.Strings.LastIndexAll
import Derived.Shelf.Strings.Prefix
import Derived.Shelf.Unicode.Decode
import Derived.Shelf.Bits.Mul64
import Derived.Shelf.Strings.Repeat
import Derived.Shelf.Unicode.DecodeSlow
import Derived.Shelf.Unicode.DecodeAny
import Derived.Shelf.Unicode.DecodeLast
import Derived.Test.YtckomlgchbkekaaGreatDoorProg
import Derived.Test.YtckomlgchbkekaaGreatDoorQzd

namespace Go.Proofs.YtckomlgchbkekaaGreatDoor
open Go.Proofs.Tryz
open Go Go.Lw
set_option maxRecDepth 20000 set_option maxHeartbeats 4000000
def jv (s:By):Bool :=
 if s=[] then false else if Lib.firstT (s.getD 0 0).toNat%8<=s.length then true
 else if 1<s.length/\((s.getD 1 0).toNat<Lib.accLo (Lib.firstT (s.getD 0 0).toNat / 16)\/Lib.accHi (Lib.firstT (s.getD 0 0).toNat / 16)<(s.getD 1 0).toNat) then true
 else decide (2<s.length/\((s.getD 2 0).toNat<128\/191<(s.getD 2 0).toNat))
theorem Pq:∀n:Nat,n<256->IntKind.u8.wrap ((BitVec.ofInt IntKind.u8.bits (n:Int) &&& BitVec.ofInt IntKind.u8.bits 7).toNat:Int)=((n%8:Nat):Int):=by decide +kernel
theorem G9:∀c:Nat,c<256->Lib.firstT c<256/\Lib.firstT c / 16<16:=by decide +kernel
theorem K8 (x:Nat):(x:Int).fdiv (2 ^ min (Int.toNat 4) IntKind.u8.bits)=((x / 16:Nat):Int):=by
 show (x:Int).fdiv 16=_
 rw[Int.fdiv_eq_ediv_of_nonneg _ (by decide)];exact(Int.natCast_ediv x 16).symm
theorem A2 {h:ai}(hg:BM h) (s:By):aj Tryz.prog 194 #[.string (bs s)] h (aN fun r h'=>r= .bool (jv s)/\ah h h'):=by
 have hbs:=aC s;refine bf ?_;refine aa ?_;refine aQ (fun q0=>?_) (fun q0=>?_)
 · obtain rfl:s=[]:=List.length_eq_zero_iff.1 (by omega);refine aa ?_;refine aW ?_;exact⟨_,rfl,rfl,av _ _⟩
 · obtain⟨c,tl,rfl⟩:=List.exists_cons_of_ne_nil (l:=s) (by rintro rfl;exact q0 rfl);have hc:=hg.utf.1 c.toNat c.toNat_lt;obtain⟨f1,f2⟩:=G9 c.toNat c.toNat_lt;unfold jv;rw[if_neg (by simp),List.getD_cons_zero];generalize hx:Lib.firstT c.toNat=x at *;refine aa ?_;refine xp rfl (oK rfl rfl 0 rfl (cQ (l:=c::tl) rfl)) ?_;refine xp rfl (Ds rfl rfl c.toNat rfl c.toNat_lt) ?_;refine xp rfl (aA rfl (by rw[Nat.mul_one,Nat.zero_add];exact hc)) ?_;refine aU ?_;refine bJ ?_
   iterate 2 refine aI ?_
   refine bU ?_
   iterate 2 refine aU ?_
   refine xp rfl (an.tS rfl rfl) ?_;refine aa ?_;rw[Pq x f1,wrap_i64 ⟨by omega,by omega⟩];have hacc:=hg.utf.2 (x / 16) f2;generalize hlo:Lib.accLo (x / 16)=lo at *;generalize hhi:Lib.accHi (x / 16)=hi at *;refine aQ (fun q1=>?_) (fun q1=>?_)
   · rw[if_pos (by omega)];refine aa ?_;refine aW ?_;exact⟨_,rfl,rfl,av _ _⟩
   · rw[if_neg (by omega)]
     have hrow:Lw.rowAt h 10 (0+x / 16*2) [.int .u8 (lo:Nat),.int .u8 (hi:Nat)]:=fun j v hv=>by
      match j,hv with
      | 0,hv=>cases hv;rw[Nat.zero_add,Nat.mul_comm];exact hacc.1
      | 1,hv=>cases hv;rw[Nat.zero_add,Nat.mul_comm];exact hacc.2
     iterate 2 refine aI ?_
     refine bU ?_;refine aU ?_;refine xp rfl (zq rfl rfl (by omega)) ?_;refine xp rfl (Ds rfl rfl (x / 16) (K8 x) f2) ?_;refine xp rfl (bI rfl hrow) ?_;refine xo rfl (cC) ?_;rintro _ h1 ⟨rfl,k1,e1,z1⟩;refine aY rfl (bM rfl rfl k1) ?_;rintro _ h2 ⟨rfl,k2,x2,z2⟩;have k2:az h2 h.size 379 [.int .u8 (lo:Nat),.int .u8 (hi:Nat)]:=k2;have e2:ah h h2:=ah.only e1 x2 (Nat.le_refl _);refine bJ ?_
     iterate 2 refine aI ?_
     refine G.eB [(38,.bool (decide (1<(c::tl).length/\(((c::tl).getD 1 0).toNat<lo\/hi<((c::tl).getD 1 0).toNat))))] [(0,_),(2,_),(3,_),(4,_),(5,_),(9,_),(18,_)] ⟨rfl,rfl,rfl,rfl,rfl,rfl,rfl,trivial⟩ func194 H.mixed rfl (by kernel_rfl) ?_ ?_
     · iterate 3 refine mU ?_
       refine Ic 25 (fun g1=>?_) (fun g1=>?_)
       · have g1:=of_decide_eq_true g1;obtain⟨d,tl2,rfl⟩:=List.exists_cons_of_ne_nil (l:=tl) (by rintro rfl;simp only[List.length_cons,List.length_nil] at hbs;omega);have hd:(c::d::tl2).getD 1 0=d:=rfl;rw[hd];refine aa ?_;refine bP rfl (oK rfl rfl 1 rfl (cQ (l:=c::d::tl2) rfl)) ?_;refine aa ?_;refine bP rfl (aA rfl (k2.cell (i:=0) rfl)) ?_;refine aa ?_;refine Ic 31 (fun g2=>?_) (fun g2=>?_)
         · have g2:=of_decide_eq_true g2;refine aa ?_;exact jq rfl ⟨ak rfl (by rw[decide_eq_true];exact⟨by simp,by omega⟩),sb rfl⟩
         · have g2:=of_decide_eq_false g2;refine aa ?_;refine bP rfl (aA rfl (k2.cell (i:=1) rfl)) ?_;refine aa ?_;refine bP rfl (oK rfl rfl 1 rfl (cQ (l:=c::d::tl2) rfl)) ?_;refine aa ?_;exact jq rfl ⟨ak rfl (by rw[decide_eq_decide];simp only[List.length_cons];omega),sb rfl⟩
       · have g1:=of_decide_eq_false g1;refine aa ?_;exact jq rfl ⟨ak rfl (by rw[decide_eq_false (by omega)]),sb rfl⟩
     · refine aQ (fun q2=>?_) (fun q2=>?_)
       · rw[if_pos q2];refine aa ?_;refine aW ?_;exact⟨_,rfl,rfl,e2⟩
       · rw[if_neg q2];refine aI ?_;refine dM [(50,.bool (decide (2<(c::tl).length/\(((c::tl).getD 2 0).toNat<128\/191<((c::tl).getD 2 0).toNat))))] rfl ?_ ?_
         · refine aa ?_;refine dx 41 (fun g1=>?_) (fun g1=>?_)
           · have g1:=of_decide_eq_true g1;obtain⟨d,tl2,rfl⟩:=List.exists_cons_of_ne_nil (l:=tl) (by rintro rfl;simp only[List.length_cons,List.length_nil] at hbs;omega);obtain⟨e,tl3,rfl⟩:=List.exists_cons_of_ne_nil (l:=tl2) (by rintro rfl;simp only[List.length_cons,List.length_nil] at hbs;omega);have hd:(c::d::e::tl3).getD 2 0=e:=rfl;rw[hd];refine aa ?_;refine xp rfl (oK rfl rfl 2 rfl (cQ (l:=c::d::e::tl3) rfl)) ?_;refine aa ?_;refine dx 45 (fun g2=>?_) (fun g2=>?_)
             · have g2:=of_decide_eq_true g2;refine aa ?_;exact aL rfl ⟨ak rfl (by rw[decide_eq_true];exact⟨by simp,by omega⟩),sb rfl⟩
             · have g2:=of_decide_eq_false g2;refine aa ?_;refine xp rfl (oK rfl rfl 2 rfl (cQ (l:=c::d::e::tl3) rfl)) ?_;refine aa ?_;exact aL rfl ⟨ak rfl (by rw[decide_eq_decide];simp only[List.length_cons];omega),sb rfl⟩
           · have g1:=of_decide_eq_false g1;refine aa ?_;exact aL rfl ⟨ak rfl (by rw[decide_eq_false (by omega)]),sb rfl⟩
         · refine aQ (fun q3=>?_) (fun q3=>?_)
           · rw[decide_eq_true q3];refine aa ?_;refine aW ?_;exact⟨_,rfl,rfl,e2⟩
           · rw[decide_eq_false q3];refine aa ?_;refine aW ?_;exact⟨_,rfl,rfl,e2⟩
theorem tW {h:ai}(hg:BM h) (s:By):aj Tryz.prog 133 #[.string (bs s)] h (aN fun r h'=>r= .bool (decide (s≠[]) && !jv s)/\ah h h'):=by
 have hbs:=aC s;refine bf ?_
 rcases Decidable.em (s=[]) with rfl|hs
 skip
 · refine aI ?_;refine bU ?_;refine aU ?_;refine bJ ?_
   iterate 2 refine aI ?_
   refine dM [(8,.bool true)] rfl ?_ ?_
   · refine aa ?_;refine RW.aO (d:=5) (b':=true) rfl (rfl) ?_;refine aa ?_;exact aL rfl ⟨ak rfl (rfl),sb rfl⟩
   · refine fH rfl (by decide) ?_;refine aa ?_;refine aW ?_;exact⟨_,rfl,rfl,av _ _⟩
 · rw[decide_eq_true hs,Bool.true_and];refine aI ?_;refine bU ?_;refine aU ?_;refine bJ ?_
   iterate 2 refine aI ?_
   refine BS (fun(z:Unit) (h':ai)=>ah h h') (fun(z:Unit)=>[(8,.bool (jv s))]) rfl ?_ ?_
   · refine aa ?_;refine RW.aO (d:=5) (b':=false) rfl ((by simp only[decide_eq_false_iff_not];intro q;exact hs (by have:=congrArg ByteArray.size q;rw[hbs] at this;exact List.length_eq_zero_iff.1 this))) ?_;refine aa ?_;refine xo rfl (aG rfl (A2 hg s)) ?_;rintro _ h1 ⟨rfl,e1⟩;refine aa ?_;exact ef () e1 ⟨ak rfl (rfl),sb rfl⟩
   · rintro-h1 e1;refine oL (fun q=>?_) (fun q=>?_)
     · rw[q];refine aa ?_;refine aW ?_;exact⟨_,rfl,rfl,e1⟩
     · rw[q];refine aa ?_;refine aW ?_;exact⟨_,rfl,rfl,e1⟩
end Go.Proofs.YtckomlgchbkekaaGreatDoor
namespace Go.Proofs
open Go.Shelf
def Tryz.AR:Go.Shelf.Ren:=⟨fun| 143=>296| 219=>125| 217=>124| 225=>181| 224=>182| 267=>183| 266=>180| 314=>249|n=>n,fun| 9=>9| 3=>3| 4=>4| 5=>5| 46=>280| 146=>369| 51=>289|n=>n,fun| 1=>1|n=>n⟩
theorem Tryz.IW:Go.Proofs.Lays.n143 Tryz.prog Tryz.AR:= {
  mixed:=by kernel_rfl
  f143:=Tryz.func296.trans (congrArg some (by kernel_rfl))
  f217:=Tryz.func124.trans (congrArg some (by kernel_rfl))
  f219:=Tryz.func125.trans (congrArg some (by kernel_rfl))
  f224:=Tryz.func182.trans (congrArg some (by kernel_rfl))
  f225:=Tryz.func181.trans (congrArg some (by kernel_rfl))
  f266:=Tryz.func180.trans (congrArg some (by kernel_rfl))
  f267:=Tryz.func183.trans (congrArg some (by kernel_rfl))
  f314:=Tryz.func249.trans (congrArg some (by kernel_rfl))
  t3:=underlying3
  a3:=Tryz.isAgg3
  z3:=Tryz.sizeOf3
  v3:=Tryz.zeroValue3
  t4:=underlying4
  a4:=Tryz.isAgg4
  z4:=Tryz.sizeOf4
  v4:=Tryz.zeroValue4
  t5:=underlying5
  a5:=Tryz.isAgg5
  z5:=Tryz.sizeOf5
  v5:=Tryz.zeroValue5
  t9:=underlying9
  a9:=Tryz.isAgg9
  z9:=Tryz.sizeOf9
  v9:=Tryz.zeroValue9
  t46:=underlying280
  a46:=Tryz.isAgg280
  z46:=Tryz.sizeOf280
  v46:=Tryz.zeroValue280
  t51:=underlying289
  a51:=Tryz.isAgg289
  z51:=Tryz.sizeOf289
  v51:=Tryz.zeroValue289
  t146:=underlying369
  a146:=Tryz.isAgg369
  z146:=Tryz.sizeOf369
  v146:=Tryz.zeroValue369
  g1:=by kernel_rfl }
open Go.RowKit Go.Lib in
theorem Tryz.strings_Index_one (s:ByteArray) (c:UInt8) (w:World) :
    Calls Tryz.prog 296 #[.string s,.string ⟨#[c]⟩] w fun e w'=>e= .returned (.int .i64 (Lib.indexByte s.data.toList c))/\w'=w:=Any.strings_Index_one Tryz.IW s c w
end Go.Proofs
namespace Go.Proofs.YtckomlgchbkekaaGreatDoor
open Go.Proofs.Tryz
open Go Go.Lw
set_option maxRecDepth 20000 set_option maxHeartbeats 4000000
section
variable {h:ai}
theorem yg (s:ByteArray) (c:UInt8):aj Tryz.prog 296 #[.string s,.string ⟨#[c]⟩] h (aN fun r h'=>r= .int .i64 (Lib.indexByte s.data.toList c)/\h'=h) :=
 aj.DM fun w=>Tryz.strings_Index_one s c w
theorem rG (s:ByteArray):aj Tryz.prog 196 #[.string s,.string ⟨#[59]⟩] h (aN fun r h'=>r= .func (.func 295) #[] #[.pointer (some ⟨h.size+1,0,none⟩),.pointer (some ⟨h.size,0,none⟩),.pointer (some ⟨h.size+2,0,none⟩)]/\az h' h.size 9 [.string s]/\az h' (h.size+1) 9 [.string ⟨#[59]⟩]/\az h' (h.size+2) 3 [.int .i64 0]/\ah h h'/\h'.size=h.size+3):=by
 have inner:aj Tryz.prog 256 #[.string s,.string ⟨#[59]⟩,.int .i64 0] h (aN fun r h'=>r= .func (.func 295) #[] #[.pointer (some ⟨h.size+1,0,none⟩),.pointer (some ⟨h.size,0,none⟩),.pointer (some ⟨h.size+2,0,none⟩)]/\az h' h.size 9 [.string s]/\az h' (h.size+1) 9 [.string ⟨#[59]⟩]/\az h' (h.size+2) 3 [.int .i64 0]/\ah h h'/\h'.size=h.size+3):=by
  refine bf ?_;refine aa ?_;refine xo rfl (cM) ?_;rintro _ h1 ⟨rfl,k1,e1,z1⟩;refine xo rfl (cM) ?_;rintro _ h2 ⟨rfl,k2,e2,z2⟩;refine xo rfl (cM) ?_;rintro _ h3 ⟨rfl,k3,e3,z3⟩;have k1:az h3 h.size 9 [.string s]:=(k1.af e2).af e3;have k2:az h3 h1.size 9 [.string ⟨#[59]⟩]:=k2.af e3;have k3:az h3 h2.size 3 [.int .i64 0]:=k3;refine aa ?_;refine xp rfl (an.makeFunc (vs:=[_,_,_]) rfl) ?_;refine aa ?_;refine aW ?_;rw[z1] at k2;rw[z2,z1] at k3;exact⟨_,rfl,by rw[z2,z1];rfl,k1,k2,k3,(e1.trans e2).trans e3,by omega⟩
 refine bf ?_;refine aa ?_;refine xo rfl (aG rfl inner) ?_;rintro _ h1 ⟨rfl,q⟩;refine aa ?_;refine aW ?_;exact⟨_,rfl,rfl,q⟩
def ny (s:By):Bool:=decide (s≠[]) && !jv s
def J1 (s:By):Bool:=decide (ij s≠65533\/1<cA s)
def eZ (s:By):Bool:=J1 s && decide (cA s=s.length)
abbrev FK:Ac:=(5,0,[],0)
def jc (b:UInt8):By×List Ac :=
 if b.toNat=27 then ([27],[]) else if b.toNat<32\/b.toNat=127 then ([],[(2,b.toNat,[],0)]) else if b.toNat<128 then ([],[(1,b.toNat,[],0)]) else if ny [b]=true then ([b],[]) else ([],[FK])
def eo:By->Nat->Option (List Int)
 | [],n=>some [(n:Int)]
 |c::t,n=>if c.toNat=59 then (eo t 0).map (fun l=>(n:Int)::l) else if 48<=c.toNat/\c.toNat<=57 then eo t (min (10*n+(c.toNat-48)) 9999) else none
def rW (s:By):Option (List Int):=if s=[] then some [] else (eo s 0).bind fun l=>if l.length<=16 then some l else none
def Ag (u:By) (b:UInt8):By×List Ac :=
 if b.toNat=27 then ([27],[FK]) else if b.toNat=24\/b.toNat=26 then ([],[FK]) else if b.toNat<32 then (u,[(2,b.toNat,[],0)])
 else if u.length=1 then if b.toNat=91 then (u++[b],[]) else if 48<=b.toNat/\b.toNat<127 then ([],[(4,0,[],b.toNat)]) else ([],[FK])
 else if b.toNat<64 then (u++[b],[]) else if b.toNat<127 then match rW (u.drop 2) with|some l=>([],[(3,0,l,b.toNat)])|none=>([],[FK]) else ([],[FK])
def rQ (u:By) (b:UInt8):By×List Ac :=
 if eZ (u++[b])=true then ([],[(1,ij (u++[b]),[],0)]) else if ny (u++[b])=true then (u++[b],[]) else ((jc b).1,FK::(jc b).2)
def gP (u:By) (b:UInt8):By×List Ac:=if u=[] then jc b else if (u.getD 0 0).toNat=27 then Ag u b else rQ u b
def nW (u:By):Nat:=if u=[] then 0 else if (u.getD 0 0).toNat=27 then (if u.length=1 then 2 else 3) else 1
def oI (u:By):By:=if u=[] then [] else if (u.getD 0 0).toNat=27 then u.drop 2 else u
def vw (u:By):Prop:=((u.getD 0 0).toNat=27->u.length=1\/(u.getD 1 0).toNat=91)
theorem xQ:∀(s:By) (n:Nat) (l:List Int),n<=9999->eo s n=some l->∀x∈l,0<=x/\x<=9999
 | [],n,l,hn,h=>by cases h;intro x hx;rw[List.mem_singleton] at hx;omega
 |c::t,n,l,hn,h=>by
  unfold eo at h;split at h
  · obtain⟨l',h1,rfl⟩:=Option.map_eq_some_iff.1 h;have:=xQ t 0 l' (by omega) h1;intro x hx
    rcases List.mem_cons.1 hx with rfl|hx
    · omega
    · exact this x hx
  · split at h
    · exact xQ t _ l (by omega) h
    · cases h
theorem Gy {s:By}{l:List Int}(h:rW s=some l):l.length<=16/\∀x∈l,0<=x/\x<=9999:=by
 unfold rW at h;split at h
 · cases h;exact⟨by decide,fun _ h=>by cases h⟩
 · obtain⟨l',h1,h2⟩:=Option.bind_eq_some_iff.1 h;split at h2
   · cases h2;exact⟨by assumption,xQ _ _ _ (by decide) h1⟩
   · cases h2
theorem Ff (hg:BM h) (s:By) (hne:s≠[]):aj Tryz.prog 135 #[.string (bs s),.int .i64 0] h (aN fun r h'=>r= .tuple #[.int .i32 (ij s:Nat),.int .i64 (cA s:Nat),.bool (J1 s)]/\ah h h'):=by
 have hbs:=aC s;have hln:=List.length_pos_iff.2 hne;refine bf ?_;refine aI ?_;refine bU ?_
 iterate 3 refine aU ?_
 refine bJ ?_
 iterate 2 refine aI ?_
 refine dM [(14,.bool false)] rfl ?_ ?_
 · refine aa ?_;refine RW.aO (d:=9) (b':=false) rfl ((by simp)) ?_;refine aa ?_;exact aL rfl ⟨ak rfl (by rw[decide_eq_false (by omega)]),sb rfl⟩
 · refine bV rfl (by decide) ?_;refine aa ?_;refine xp rfl (an.dB underlying9 rfl rfl 0 rfl (by omega)) ?_;rw[show (bs s).extract 0 (bs s).size=bs s from iX s 0];refine xo rfl (aG rfl (tI hg s hne)) ?_;rintro _ h1 ⟨rfl,e1⟩;unfold J1;generalize cA s=m at *;generalize ij s=x at *
   iterate 5 refine aU ?_
   refine bJ ?_;refine aI ?_;refine dM [(4,.int .i32 (x:Nat)),(5,.int .i64 (m:Nat)),(6,.bool (decide (x≠65533\/1<m)))] rfl ?_ ?_
   · refine aa ?_;refine dx 26 (fun hc=>?_) (fun hc=>?_)
     · have hc':=of_decide_eq_true hc;refine aa ?_;exact aL rfl ⟨rfl,rfl,ak rfl (by rw[decide_eq_true];omega),sb rfl⟩
     · have hc':=of_decide_eq_false hc;refine aa ?_;exact aL rfl ⟨rfl,rfl,ak rfl (by rw[decide_eq_decide];omega),sb rfl⟩
   · refine aW ?_;exact⟨_,rfl,rfl,e1⟩
end
end Go.Proofs.YtckomlgchbkekaaGreatDoor
namespace Go.Proofs.YtckomlgchbkekaaGreatDoor
open Go Go.Lw
set_option maxRecDepth 20000
section
variable {a b x y k:Nat}
abbrev nr (l:By):Nat×Nat:=Lib.decodeN l.length (l.getD 0 0).toNat (l.getD 1 0).toNat (l.getD 2 0).toNat (l.getD 3 0).toNat
theorem kO {l:By}{n r0:Nat}(hlead:bC (l.getD 0 0).toNat=(n,r0)) (h1:0<n->n<=l.length->fj (jt l)=l.take n->nr l=(jt l,n)/\(jt l≠65533\/1<n))
 (h2:¬(0<n/\n<=l.length/\fj (jt l)=l.take n)->nr l=(65533,1)):MW l=ij l/\LG l=J1 l:=by
 unfold MW LG J1 ij cA;rw[hlead];dsimp only
 by_cases hc:0<n/\n<=l.length/\fj (jt l)=l.take n
 · obtain⟨d1,d2⟩:=h1 hc.1 hc.2.1 hc.2.2;have d1:Lib.decodeN l.length (l.getD 0 0).toNat (l.getD 1 0).toNat (l.getD 2 0).toNat (l.getD 3 0).toNat=(jt l,n):=d1;rw[if_pos hc,decide_eq_true hc,d1,decide_eq_true d2];exact⟨rfl,rfl⟩
 · have d1:Lib.decodeN l.length (l.getD 0 0).toNat (l.getD 1 0).toNat (l.getD 2 0).toNat (l.getD 3 0).toNat=(65533,1):=h2 hc;rw[if_neg hc,decide_eq_false hc,d1];exact⟨rfl,rfl⟩
theorem Lg (ha:192<=a/\a<224) (hb:b<256) (hk:2<=k):Lib.decodeN k a b x y=if 128<=(a-192)*64+b%64/\b=128+b%64 then ((a-192)*64+b%64,2) else (65533,1):=by
 unfold Lib.decodeN
 repeat' split
 all_goals first|rfl|(exfalso;omega)|(congr 1;omega)
theorem CT (ha:224<=a/\a<240) (hb:b<256) (hx:x<256) (hk:3<=k):Lib.decodeN k a b x y=if (2048<=((a-224)*64+b%64)*64+x%64/\¬(55296<=((a-224)*64+b%64)*64+x%64/\((a-224)*64+b%64)*64+x%64<=57343))/\b=128+b%64/\x=128+x%64 then (((a-224)*64+b%64)*64+x%64,3) else (65533,1):=by
 unfold Lib.decodeN
 repeat' split
 all_goals first|rfl|(exfalso;omega)|(congr 1;omega)
theorem tH (ha:240<=a/\a<248) (hb:b<256) (hx:x<256) (hy:y<256) (hk:4<=k):Lib.decodeN k a b x y=if (65536<=(((a-240)*64+b%64)*64+x%64)*64+y%64/\(((a-240)*64+b%64)*64+x%64)*64+y%64<=1114111)/\b=128+b%64/\x=128+x%64/\y=128+y%64 then ((((a-240)*64+b%64)*64+x%64)*64+y%64,4) else (65533,1):=by
 unfold Lib.decodeN
 repeat' split
 all_goals first|rfl|(exfalso;omega)|(congr 1;omega)
theorem iA (h:192<=a) (hk:k<2\/224<=a/\k<3\/240<=a/\k<4):Lib.decodeN k a b x y=(65533,1):=by
 unfold Lib.decodeN
 repeat' split
 all_goals first|rfl|(exfalso;omega)
theorem Bg (h:128<=a/\a<192\/248<=a) (ha:a<256):Lib.decodeN k a b x y=(65533,1):=by
 unfold Lib.decodeN
 repeat' split
 all_goals first|rfl|(exfalso;omega)
theorem sr {l:By}(h:l≠[]):MW l=ij l/\LG l=J1 l:=by
 obtain⟨a,t,rfl⟩:=List.exists_cons_of_ne_nil h;have ha:=a.toNat_lt
 rcases Nat.lt_or_ge a.toNat 128 with h1|h1
 · have hl:bC a.toNat=(1,a.toNat):=by unfold bC;rw[if_pos h1]
   have e1:jt (a::t)=a.toNat:=by unfold jt;rw[List.getD_cons_zero,hl];rfl
   have hd:nr (a::t)=(a.toNat,1):=by
    show Lib.decodeN _ a.toNat _ _ _=_
    unfold Lib.decodeN;rw[if_pos h1]
   exact kO (l:=a::t) hl (fun _ _ _=>⟨by rw[e1];exact hd,.inl (by omega)⟩) (fun hn=>absurd ⟨by decide,by simp,by rw[e1];exact MO.2 ⟨h1,rfl⟩⟩ hn)
 rcases Nat.lt_or_ge a.toNat 192 with h2|h2
 · have hl:bC a.toNat=(0,0):=by unfold bC;rw[if_neg (by omega),if_neg (by omega),if_neg (by omega),if_neg (by omega)]
   exact kO (l:=a::t) hl (fun q=>absurd q (by decide)) fun _=>Bg (a:=a.toNat) (.inl ⟨h1,h2⟩) ha
 rcases Nat.lt_or_ge a.toNat 224 with h3|h3
 · have hl:bC a.toNat=(2,a.toNat-192):=by unfold bC;rw[if_neg (by omega),if_pos (by omega)]
   match t with
   | []=>exact kO (l:=[a]) hl (fun _ q=>absurd q (by simp)) fun _=>iA (a:=a.toNat) h2 (.inl (by simp))
   |b::t =>
    have hb:=b.toNat_lt;have e1:jt (a::b::t)=(a.toNat-192)*64+b.toNat%64:=by unfold jt;rw[List.getD_cons_zero,hl];rfl
    have hd:nr (a::b::t)=_:=Lg (a:=a.toNat) (b:=b.toNat) ⟨h2,h3⟩ hb (by simp);refine kO (l:=a::b::t) hl (fun _ _ q=>?_) (fun q=>?_)
    · rw[e1] at q ⊢;have q:=KQ.1 q;rw[hd,if_pos (by omega)];exact⟨rfl,.inr (by decide)⟩
    · rw[hd,if_neg];intro z;exact q ⟨by decide,by simp,by rw[e1];exact KQ.2 (by omega)⟩
 rcases Nat.lt_or_ge a.toNat 240 with h4|h4
 · have hl:bC a.toNat=(3,a.toNat-224):=by unfold bC;rw[if_neg (by omega),if_neg (by omega),if_pos (by omega)]
   match t with
   | []=>exact kO (l:=[a]) hl (fun _ q=>absurd q (by simp)) fun _=>iA (a:=a.toNat) h2 (.inl (by simp))
   | [b]=>exact kO (l:=[a,b]) hl (fun _ q=>absurd q (by simp)) fun _=>iA (a:=a.toNat) h2 (.inr (.inl ⟨h3,by simp⟩))
   |b::c::t =>
    have hb:=b.toNat_lt;have hc:=c.toNat_lt;have e1:jt (a::b::c::t)=((a.toNat-224)*64+b.toNat%64)*64+c.toNat%64:=by unfold jt;rw[List.getD_cons_zero,hl];rfl
    have hd:nr (a::b::c::t)=_:=CT (a:=a.toNat) (b:=b.toNat) (x:=c.toNat) ⟨h3,h4⟩ hb hc (by simp);refine kO (l:=a::b::c::t) hl (fun _ _ q=>?_) (fun q=>?_)
    · rw[e1] at q ⊢;have q:=KP.1 q;rw[hd,if_pos (by omega)];exact⟨rfl,.inr (by decide)⟩
    · rw[hd,if_neg];intro z;exact q ⟨by decide,by simp,by rw[e1];exact KP.2 (by omega)⟩
 rcases Nat.lt_or_ge a.toNat 248 with h5|h5
 · have hl:bC a.toNat=(4,a.toNat-240):=by unfold bC;rw[if_neg (by omega),if_neg (by omega),if_neg (by omega),if_pos (by omega)]
   match t with
   | []=>exact kO (l:=[a]) hl (fun _ q=>absurd q (by simp)) fun _=>iA (a:=a.toNat) h2 (.inl (by simp))
   | [b]=>exact kO (l:=[a,b]) hl (fun _ q=>absurd q (by simp)) fun _=>iA (a:=a.toNat) h2 (.inr (.inl ⟨h3,by simp⟩))
   | [b,c]=>exact kO (l:=[a,b,c]) hl (fun _ q=>absurd q (by simp)) fun _=>iA (a:=a.toNat) h2 (.inr (.inr ⟨h4,by simp⟩))
   |b::c::d::t =>
    have hb:=b.toNat_lt;have hc:=c.toNat_lt;have hd':=d.toNat_lt;have e1:jt (a::b::c::d::t)=(((a.toNat-240)*64+b.toNat%64)*64+c.toNat%64)*64+d.toNat%64:=by unfold jt;rw[List.getD_cons_zero,hl];rfl
    have hd:nr (a::b::c::d::t)=_:=tH (a:=a.toNat) (b:=b.toNat) (x:=c.toNat) (y:=d.toNat) ⟨h4,h5⟩ hb hc hd' (by simp);refine kO (l:=a::b::c::d::t) hl (fun _ _ q=>?_) (fun q=>?_)
    · rw[e1] at q ⊢;have q:=KO.1 q;rw[hd,if_pos (by omega)];exact⟨rfl,.inr (by decide)⟩
    · rw[hd,if_neg];intro z;exact q ⟨by decide,by simp,by rw[e1];exact KO.2 (by omega)⟩
 · have hl:bC a.toNat=(0,0):=by unfold bC;rw[if_neg (by omega),if_neg (by omega),if_neg (by omega),if_neg (by omega)]
   exact kO (l:=a::t) hl (fun q=>absurd q (by decide)) fun _=>Bg (a:=a.toNat) (.inr h5) ha
def Iv (s:By):Bool:=LG s && decide (AE s=s.length)
theorem FQ {s:By}(h:s≠[]):Iv s=eZ s:=by
 unfold Iv eZ;rw[(sr h).2,vT h]
def gV (s:By):Nat:=if 240<=(s.getD 0 0).toNat then 4 else if 224<=(s.getD 0 0).toNat then 3 else 2
def tX (s:By):Bool :=
 if s=[]\/(s.getD 0 0).toNat<194\/244<(s.getD 0 0).toNat then false else if gV s<=s.length then false
 else Iv (s++List.replicate (gV s-s.length) 128) ||Iv (s++List.replicate (gV s-s.length) 191) ||decide (2<gV s/\s.length=1)
theorem vD {s:By}(h:s≠[]):Iv s=decide ((nr s).2=s.length/\((nr s).1≠65533\/1<(nr s).2)):=by
 rw[FQ h,eZ,J1,ij,cA,Bool.eq_iff_iff];simp only[Bool.and_eq_true,decide_eq_true_eq];exact And.comm
theorem Pp:∀c:Nat,c<256->ny [UInt8.ofNat c]=tX [UInt8.ofNat c]:=by decide +kernel
theorem Od:∀a:Nat,a<5->Lib.firstT (240+a)%8=4/\Lib.accLo (Lib.firstT (240+a) / 16)=(if a=0 then 144 else 128)/\Lib.accHi (Lib.firstT (240+a) / 16)=(if a=4 then 143 else 191):=by decide +kernel
theorem Po {a b c:UInt8}(ha:240<=a.toNat/\a.toNat<=244):ny [a,b,c]=tX [a,b,c]:=by
 have hb:=b.toNat_lt;have hc:=c.toNat_lt;obtain⟨f1,f2,f3⟩:=Od (a.toNat-240) (by omega);rw[show 240+(a.toNat-240)=a.toNat by omega] at f1 f2 f3;have hl:gV [a,b,c]=4:=if_pos (by exact ha.1);have e1:nr ([a,b,c]++List.replicate (4 - [a,b,c].length) 128)=Lib.decodeN 4 a.toNat b.toNat c.toNat 128:=rfl;have e2:nr ([a,b,c]++List.replicate (4 - [a,b,c].length) 191)=Lib.decodeN 4 a.toNat b.toNat c.toNat 191:=rfl;have d1:=tH (a:=a.toNat) (b:=b.toNat) (x:=c.toNat) (y:=128) (k:=4) ⟨ha.1,by omega⟩ hb hc (by decide) (Nat.le_refl _);have d2:=tH (a:=a.toNat) (b:=b.toNat) (x:=c.toNat) (y:=191) (k:=4) ⟨ha.1,by omega⟩ hb hc (by decide) (Nat.le_refl _);unfold ny tX;rw[hl,vD (by simp),vD (by simp),e1,e2,d1,d2,if_neg (show ¬([a,b,c]=[]\/([a,b,c].getD 0 0).toNat<194\/244<([a,b,c].getD 0 0).toNat) by show ¬(_\/a.toNat<194\/244<a.toNat);simp;omega),if_neg (show ¬4<=[a,b,c].length by simp)]
 have hf:jv [a,b,c]=decide (b.toNat<(if a.toNat-240=0 then 144 else 128)\/(if a.toNat-240=4 then 143 else 191)<b.toNat\/c.toNat<128\/191<c.toNat):=by
  unfold jv;rw[if_neg (by simp)]
  show (if Lib.firstT a.toNat%8<=3 then true else if 1<3/\(b.toNat<Lib.accLo (Lib.firstT a.toNat / 16)\/Lib.accHi (Lib.firstT a.toNat / 16)<b.toNat) then true else decide (2<3/\(c.toNat<128\/191<c.toNat)))=_
  simp only[f1,f2,f3];generalize (if a.toNat-240=0 then 144 else 128)=lo;generalize (if a.toNat-240=4 then 143 else 191)=hi;rw[if_neg (by decide),Bool.eq_iff_iff,decide_eq_true_iff];split
  · rename_i q;exact⟨fun _=>q.2.elim .inl fun q=>.inr (.inl q),fun _=>rfl⟩
  · rename_i q
    show decide (2<3/\(c.toNat<128\/191<c.toNat))=true↔_
    refine Iff.trans decide_eq_true_iff ?_;exact⟨fun z=>.inr (.inr z.2),fun z=>z.elim (fun z=>absurd ⟨by decide,.inl z⟩ q) fun z=>z.elim (fun z=>absurd ⟨by decide,.inr z⟩ q) fun z=>⟨by decide,z⟩⟩
 rw[hf,Bool.eq_iff_iff];have hlen1:([a,b,c]++List.replicate (4 - [a,b,c].length) (128:UInt8)).length=4:=rfl;have hlen2:([a,b,c]++List.replicate (4 - [a,b,c].length) (191:UInt8)).length=4:=rfl;rw[hlen1,hlen2];simp only[Bool.or_eq_true,Bool.and_eq_true,Bool.not_eq_true',decide_eq_true_eq,decide_eq_false_iff_not,List.length_cons,List.length_nil];have h0:([a,b,c]≠[])=True:=by simp
 rw[h0];generalize a.toNat=A at *;generalize b.toNat=B at *;generalize c.toNat=C at *;clear f1 f2 f3 d1 d2 e1 e2 hf hl hlen1 hlen2 h0;have hlo:(if A-240=0 then 144 else 128)=if A=240 then 144 else 128:=by split<;>split<;>omega
 have hhi:(if A-240=4 then 143 else 191)=if A=244 then 143 else 191:=by split<;>split<;>omega
 rw[hlo,hhi];rw[true_and]
 by_cases h1:A=240
 · rw[if_pos h1,if_neg (by omega)];clear hlo hhi;split<;>split<;>dsimp only<;>constructor<;>first|omega|(rename_i q1 q2;intro z;exfalso;exact q1 ⟨⟨by omega,by omega⟩,by omega,by omega,trivial⟩)|(intro _;exact .inl (.inl ⟨rfl,.inr (by decide)⟩))|(intro _;exact .inl (.inr ⟨rfl,.inr (by decide)⟩))
 · by_cases h2:A=244
   · rw[if_neg h1,if_pos h2];clear hlo hhi;split<;>split<;>dsimp only<;>constructor<;>first|omega|(rename_i q1 q2;intro z;exfalso;exact q1 ⟨⟨by omega,by omega⟩,by omega,by omega,trivial⟩)|(intro _;exact .inl (.inl ⟨rfl,.inr (by decide)⟩))|(intro _;exact .inl (.inr ⟨rfl,.inr (by decide)⟩))
   · rw[if_neg h1,if_neg h2];clear hlo hhi;split<;>split<;>dsimp only<;>constructor<;>first|omega|(rename_i q1 q2;intro z;exfalso;exact q1 ⟨⟨by omega,by omega⟩,by omega,by omega,trivial⟩)|(intro _;exact .inl (.inl ⟨rfl,.inr (by decide)⟩))|(intro _;exact .inl (.inr ⟨rfl,.inr (by decide)⟩))
theorem PC:∀a:Nat,a<16->Lib.firstT (224+a)%8=3/\Lib.accLo (Lib.firstT (224+a) / 16)=(if a=0 then 160 else 128)/\Lib.accHi (Lib.firstT (224+a) / 16)=(if a=13 then 159 else 191):=by decide +kernel
theorem J9 {a b:UInt8}{lo hi:Nat}(f1:Lib.firstT a.toNat%8=k) (hk:2<k) (f2:Lib.accLo (Lib.firstT a.toNat / 16)=lo) (f3:Lib.accHi (Lib.firstT a.toNat / 16)=hi):jv [a,b]=decide (b.toNat<lo\/hi<b.toNat):=by
 unfold jv;rw[if_neg (by simp)]
 show (if Lib.firstT a.toNat%8<=2 then true else if 1<2/\(b.toNat<Lib.accLo (Lib.firstT a.toNat / 16)\/Lib.accHi (Lib.firstT a.toNat / 16)<b.toNat) then true else decide (2<2/\((0:UInt8).toNat<128\/191<(0:UInt8).toNat)))=_
 simp only[f1,f2,f3];rw[if_neg (by omega),Bool.eq_iff_iff,decide_eq_true_iff];split
 · rename_i q;exact⟨fun _=>q.2,fun _=>rfl⟩
 · rename_i q;exact⟨fun z=>by simp at z,fun z=>absurd ⟨by decide,z⟩ q⟩
theorem NH {a b:UInt8}(ha:224<=a.toNat/\a.toNat<240):ny [a,b]=tX [a,b]:=by
 have hb:=b.toNat_lt;obtain⟨f1,f2,f3⟩:=PC (a.toNat-224) (by omega);rw[show 224+(a.toNat-224)=a.toNat by omega] at f1 f2 f3
 have hl:gV [a,b]=3:=by
  show (if 240<=a.toNat then 4 else if 224<=a.toNat then 3 else 2)=3
  rw[if_neg (by omega),if_pos ha.1]
 have e1:nr ([a,b]++List.replicate (3 - [a,b].length) 128)=Lib.decodeN 3 a.toNat b.toNat 128 0:=rfl;have e2:nr ([a,b]++List.replicate (3 - [a,b].length) 191)=Lib.decodeN 3 a.toNat b.toNat 191 0:=rfl;have d1:=CT (a:=a.toNat) (b:=b.toNat) (x:=128) (y:=0) (k:=3) ha hb (by decide) (Nat.le_refl _);have d2:=CT (a:=a.toNat) (b:=b.toNat) (x:=191) (y:=0) (k:=3) ha hb (by decide) (Nat.le_refl _);have hf:=J9 (b:=b) f1 (by decide) f2 f3;unfold ny tX;rw[hl,vD (by simp),vD (by simp),e1,e2,d1,d2,if_neg (show ¬([a,b]=[]\/([a,b].getD 0 0).toNat<194\/244<([a,b].getD 0 0).toNat) by show ¬(_\/a.toNat<194\/244<a.toNat);simp;omega),if_neg (show ¬3<=[a,b].length by simp)];rw[hf,Bool.eq_iff_iff];have hlen1:([a,b]++List.replicate (3 - [a,b].length) (128:UInt8)).length=3:=rfl;have hlen2:([a,b]++List.replicate (3 - [a,b].length) (191:UInt8)).length=3:=rfl;rw[hlen1,hlen2];simp only[Bool.or_eq_true,Bool.and_eq_true,Bool.not_eq_true',decide_eq_true_eq,decide_eq_false_iff_not,List.length_cons,List.length_nil];have h0:([a,b]≠[])=True:=by simp
 rw[h0,true_and];generalize a.toNat=A at *;generalize b.toNat=B at *;clear f1 f2 f3 d1 d2 e1 e2 hf hl hlen1 hlen2 h0;have hlo:(if A-224=0 then 160 else 128)=if A=224 then 160 else 128:=by split<;>split<;>omega
 have hhi:(if A-224=13 then 159 else 191)=if A=237 then 159 else 191:=by split<;>split<;>omega
 rw[hlo,hhi]
 by_cases h1:A=224
 · rw[if_pos h1,if_neg (by omega)];clear hlo hhi;split<;>split<;>dsimp only<;>constructor<;>first|omega|(rename_i q1 q2;intro z;exfalso;exact q1 ⟨⟨by omega,by omega⟩,by omega,trivial⟩)|(rename_i q1 q2;intro z;exfalso;exact q2 ⟨⟨by omega,by omega⟩,by omega,trivial⟩)|(intro _;exact .inl (.inl ⟨rfl,.inr (by decide)⟩))|(intro _;exact .inl (.inr ⟨rfl,.inr (by decide)⟩))
 · by_cases h2:A=237
   · rw[if_neg h1,if_pos h2];clear hlo hhi;split<;>split<;>dsimp only<;>constructor<;>first|omega|(rename_i q1 q2;intro z;exfalso;exact q1 ⟨⟨by omega,by omega⟩,by omega,trivial⟩)|(rename_i q1 q2;intro z;exfalso;exact q2 ⟨⟨by omega,by omega⟩,by omega,trivial⟩)|(intro _;exact .inl (.inl ⟨rfl,.inr (by decide)⟩))|(intro _;exact .inl (.inr ⟨rfl,.inr (by decide)⟩))
   · rw[if_neg h1,if_neg h2];clear hlo hhi;split<;>split<;>dsimp only<;>constructor<;>first|omega|(rename_i q1 q2;intro z;exfalso;exact q1 ⟨⟨by omega,by omega⟩,by omega,trivial⟩)|(rename_i q1 q2;intro z;exfalso;exact q2 ⟨⟨by omega,by omega⟩,by omega,trivial⟩)|(intro _;exact .inl (.inl ⟨rfl,.inr (by decide)⟩))|(intro _;exact .inl (.inr ⟨rfl,.inr (by decide)⟩))
theorem NG {a b:UInt8}(ha:240<=a.toNat/\a.toNat<=244):ny [a,b]=tX [a,b]:=by
 have hb:=b.toNat_lt;obtain⟨f1,f2,f3⟩:=Od (a.toNat-240) (by omega);rw[show 240+(a.toNat-240)=a.toNat by omega] at f1 f2 f3;have hl:gV [a,b]=4:=if_pos (by exact ha.1);have e1:nr ([a,b]++List.replicate (4 - [a,b].length) 128)=Lib.decodeN 4 a.toNat b.toNat 128 128:=rfl;have e2:nr ([a,b]++List.replicate (4 - [a,b].length) 191)=Lib.decodeN 4 a.toNat b.toNat 191 191:=rfl;have d1:=tH (a:=a.toNat) (b:=b.toNat) (x:=128) (y:=128) (k:=4) ⟨ha.1,by omega⟩ hb (by decide) (by decide) (Nat.le_refl _);have d2:=tH (a:=a.toNat) (b:=b.toNat) (x:=191) (y:=191) (k:=4) ⟨ha.1,by omega⟩ hb (by decide) (by decide) (Nat.le_refl _);have hf:=J9 (b:=b) f1 (by decide) f2 f3;unfold ny tX;rw[hl,vD (by simp),vD (by simp),e1,e2,d1,d2,if_neg (show ¬([a,b]=[]\/([a,b].getD 0 0).toNat<194\/244<([a,b].getD 0 0).toNat) by show ¬(_\/a.toNat<194\/244<a.toNat);simp;omega),if_neg (show ¬4<=[a,b].length by simp)];rw[hf,Bool.eq_iff_iff];have hlen1:([a,b]++List.replicate (4 - [a,b].length) (128:UInt8)).length=4:=rfl;have hlen2:([a,b]++List.replicate (4 - [a,b].length) (191:UInt8)).length=4:=rfl;rw[hlen1,hlen2];simp only[Bool.or_eq_true,Bool.and_eq_true,Bool.not_eq_true',decide_eq_true_eq,decide_eq_false_iff_not,List.length_cons,List.length_nil];have h0:([a,b]≠[])=True:=by simp
 rw[h0,true_and];generalize a.toNat=A at *;generalize b.toNat=B at *;clear f1 f2 f3 d1 d2 e1 e2 hf hl hlen1 hlen2 h0;have hlo:(if A-240=0 then 144 else 128)=if A=240 then 144 else 128:=by split<;>split<;>omega
 have hhi:(if A-240=4 then 143 else 191)=if A=244 then 143 else 191:=by split<;>split<;>omega
 rw[hlo,hhi]
 by_cases h1:A=240
 · rw[if_pos h1,if_neg (by omega)];clear hlo hhi;split<;>split<;>dsimp only<;>constructor<;>first|omega|(rename_i q1 q2;intro z;exfalso;exact q1 ⟨⟨by omega,by omega⟩,by omega,trivial,trivial⟩)|(rename_i q1 q2;intro z;exfalso;exact q2 ⟨⟨by omega,by omega⟩,by omega,trivial,trivial⟩)|(intro _;exact .inl (.inl ⟨rfl,.inr (by decide)⟩))|(intro _;exact .inl (.inr ⟨rfl,.inr (by decide)⟩))
 · by_cases h2:A=244
   · rw[if_neg h1,if_pos h2];clear hlo hhi;split<;>split<;>dsimp only<;>constructor<;>first|omega|(rename_i q1 q2;intro z;exfalso;exact q1 ⟨⟨by omega,by omega⟩,by omega,trivial,trivial⟩)|(rename_i q1 q2;intro z;exfalso;exact q2 ⟨⟨by omega,by omega⟩,by omega,trivial,trivial⟩)|(intro _;exact .inl (.inl ⟨rfl,.inr (by decide)⟩))|(intro _;exact .inl (.inr ⟨rfl,.inr (by decide)⟩))
   · rw[if_neg h1,if_neg h2];clear hlo hhi;split<;>split<;>dsimp only<;>constructor<;>first|omega|(rename_i q1 q2;intro z;exfalso;exact q1 ⟨⟨by omega,by omega⟩,by omega,trivial,trivial⟩)|(rename_i q1 q2;intro z;exfalso;exact q2 ⟨⟨by omega,by omega⟩,by omega,trivial,trivial⟩)|(intro _;exact .inl (.inl ⟨rfl,.inr (by decide)⟩))|(intro _;exact .inl (.inr ⟨rfl,.inr (by decide)⟩))
theorem O7:∀c:Nat,c<256->Lib.firstT c%8=if c<128 then 0 else if c<194\/244<c then 1 else if 240<=c then 4 else if 224<=c then 3 else 2:=by decide +kernel
theorem wk {a:UInt8}{t:By}(h:Lib.firstT a.toNat%8<=(a::t).length):jv (a::t)=true:=by
 unfold jv;rw[if_neg (by simp)];exact if_pos (by exact h)
theorem Jd (s:By):tX s=ny s:=by
 cases s with
 |nil=>rfl
 |cons a t =>
  have ha:=a.toNat_lt;have hf:=O7 a.toNat ha;have hD:gV (a::t)=if 240<=a.toNat then 4 else if 224<=a.toNat then 3 else 2:=rfl
  by_cases h1:a.toNat<194\/244<a.toNat
  · have hle:Lib.firstT a.toNat%8<=(a::t).length:=by
     rw[hf,List.length_cons]
     (repeat' split)<;>omega
    unfold tX ny;rw[if_pos (.inr (by exact h1)),wk hle];simp
  · have hf2:Lib.firstT a.toNat%8=gV (a::t):=by rw[hf,if_neg (by omega),if_neg h1,hD]
    by_cases h2:gV (a::t)<=(a::t).length
    · unfold tX ny;rw[if_neg (by simp only[List.getD_cons_zero];simp;omega),if_pos h2,wk (by rw[hf2];exact h2)];simp
    · have h3:gV (a::t)<=4/\(2<gV (a::t)->224<=a.toNat)/\(3<gV (a::t)->240<=a.toNat):=by rw[hD];split;omega;split<;>omega
      match t,h2,h3 with
      | [],_,_ =>
       have:=Pp a.toNat ha;rw[show UInt8.ofNat a.toNat=a by simp] at this;exact this.symm
      | [b],h2,h3 =>
       have h2:¬gV [a,b]<=2:=h2
       by_cases h4:240<=a.toNat
       · exact(NG ⟨h4,by omega⟩).symm
       · exact(NH ⟨h3.2.1 (by omega),by omega⟩).symm
      | [b,c],h2,h3 =>
       have h2:¬gV [a,b,c]<=3:=h2;exact(Po ⟨h3.2.2 (by omega),by omega⟩).symm
      |b::c::d::t,h2,h3=>exact absurd (by simp only[List.length_cons];omega) h2
end
end Go.Proofs.YtckomlgchbkekaaGreatDoor
namespace Go.Proofs.YtckomlgchbkekaaGreatDoor
open Go.Proofs.Tryz
open Go Go.Lw
set_option maxRecDepth 20000 set_option maxHeartbeats 4000000
section
variable {kk r f:Int}{p v:Value}{b:Nat}{h:ai}{O:Nat->Prop}
def gM (h:ai) (L:Nat) (v:Value) (l:List Ac):Prop:=∃(oa:Option Addr) (n c:Nat),v= .slice oa n c/\l.length=n/\n<=2 /\
 ∀i x,l[i]? =some x->∃(b:Nat) (p:Value),oa=some ⟨b,0,none⟩/\L<=b/\Lw.rowAt h b (0+i*4) (jo x.1 x.2.1 p x.2.2.2)/\p.oneCell'=true/\aR Bc h (fun y=>y<L) p x.2.2.1
theorem Ox (hp:p.oneCell'=true):∀v∈jo kk r p f,v.oneCell'=true:=fun v hv=>by simp[jo] at hv;rcases hv with rfl|rfl|rfl|rfl<;>first|rfl|exact hp
section
variable {h h':ai}{L:Nat}{v:Value}{l:List Ac}
theorem gM.ext {M:Nat->Prop}(k:gM h L v l) (x:Ext M h h') (hm:∀b,M b->b<L):gM h' L v l:=by
 obtain⟨oa,n,c,e,h1,h2,h3⟩:=k;refine⟨oa,n,c,e,h1,h2,fun i y hy=>?_⟩;obtain⟨b,p,k1,k2,k3,k4,k5⟩:=h3 i y hy;exact⟨b,p,k1,k2,x.rowAt (fun m=>by have:=hm b m;omega) k3,k4,k5.mv (Mv.dI x fun b _ ho=>⟨fun m=>ho (hm b m),ho⟩)⟩
theorem gM.low {L':Nat}(k:gM h L v l) (hl:L'<=L):gM h L' v l:=by
 obtain⟨oa,n,c,e,h1,h2,h3⟩:=k;refine⟨oa,n,c,e,h1,h2,fun i x hx=>?_⟩;obtain⟨b,p,k1,k2,k3,k4,k5⟩:=h3 i x hx;exact⟨b,p,k1,by omega,k3,k4,k5.mv (Mv.dI (av (fun _=>False) h) fun b _ ho=>⟨fun q=>q,by omega⟩)⟩
theorem gM.nil:gM h L (.slice none 0 0) []:=⟨none,0,0,rfl,rfl,by decide,fun i x hx=>by simp at hx⟩
theorem gM.one {ps:List Int}(k:az h b 119 (jo kk r p f)) (hL:L<=b) (h1:p.oneCell'=true) (hp:aR Bc h (fun y=>y<L) p ps):gM h L (.slice (some ⟨b,0,none⟩) 1 1) [(kk,r,ps,f)] :=
 ⟨_,1,1,rfl,rfl,by decide,fun i x hx=>by
  match i,hx with
  | 0,hx=>cases hx;exact⟨b,p,rfl,hL,k.row,h1,hp⟩⟩
theorem ey:aj Tryz.prog 134 #[] h (aN fun r h'=>r= .agg (jo 5 0 (.slice none 0 0) 0).toArray/\ah h h'):=by
 refine bf ?_;refine aa ?_;refine xo rfl (cC) ?_;rintro _ h1 ⟨rfl,k1,e1,z1⟩;refine aa ?_;refine xp rfl (au (H.Jl _) rfl) ?_;refine aY rfl (bM rfl rfl k1) ?_;rintro _ h2 ⟨rfl,k2,x2,z2⟩;refine aa ?_;have k2:az h2 h.size 119 (jo 5 0 (.slice none 0 0) 0):=k2;refine fG (fT rfl k2.row fF) ?_;exact⟨_,rfl,rfl,ah.only e1 x2 (Nat.le_refl _)⟩
end
theorem oo (hg:BM h) (b:UInt8):aj Tryz.prog 81 #[.int .u8 b.toNat] h (aN fun r h'=>(∃v,r= .tuple #[.agg (lf (nW (jc b).1) (oI (jc b).1)).toArray,v]/\gM h' h.size v (jc b).2)/\ah h h'):=by
 have hb:=b.toNat_lt;unfold jc;refine bf ?_;refine aa ?_;refine xo rfl (cC) ?_;rintro _ h1 ⟨rfl,k1,e1,z1⟩;refine aa ?_;refine xo rfl (kI [_]) ?_;rintro _ h2 ⟨rfl,hh2⟩;refine xp rfl (Ie rfl (show aR .byte h2 (fun _=>False) _ [b] by rw[hh2];exact Bq h1 b 5)) ?_;have e2:ah h1 h2:=by rw[hh2];exact Ext.push _ _ _
 have k1:az h2 h.size 111 (lf 0 []):=k1.af e2;refine aa ?_;have hz:=e1.size;have hz2:=e2.size;refine aQ (fun q27=>?_) (fun q27=>?_)
 · have q27:b.toNat=27:=by omega
   rw[if_pos q27];refine aa ?_;refine xp rfl (au (H.zl _) rfl) ?_;refine aY rfl (bM rfl rfl k1) ?_;rintro _ h3 ⟨rfl,k3,x3,z3⟩;refine aa ?_;refine fG (fT rfl k3.row (kZ fF)) ?_;exact⟨_,rfl,⟨_,rfl,gM.nil⟩,ah.only (e1.trans e2) x3 (Nat.le_refl _)⟩
 · rw[if_neg (by omega)];refine aa ?_;refine aQ (fun q32=>?_) (fun q32=>?_)
   · rw[if_pos (.inl (by omega))];refine aa ?_;refine fH rfl (by simp[q32]) ?_;refine aa ?_;refine xp rfl (au (H.gw ) rfl) ?_;refine aU ?_;refine xp rfl (ur rfl (ry _ (by omega))) ?_;refine xp rfl (au (H.jB _ _) rfl) ?_;refine xo rfl (mz) ?_;rintro _ h4 ⟨rfl,hh4⟩;have e4:ah h2 h4:=by rw[hh4];exact Ext.push _ _ _
     have k4:az h4 h2.size 119 (jo 2 b.toNat (.slice none 0 0) 0):=by rw[hh4];exact cl _ _ _
     refine aY rfl (bM rfl rfl ((k1.af e4))) ?_;rintro _ h3 ⟨rfl,k3,x3,z3⟩;refine aa ?_;refine fG (fT rfl k3.row (kZ fF)) ?_;exact⟨_,rfl,⟨_,rfl,gM.one (k4.ext x3 (by omega)) (by omega) rfl (aR.nil _ _ _)⟩,ah.only ((e1.trans e2).trans e4) x3 (Nat.le_refl _)⟩
   · refine aa ?_;refine aQ (fun q127=>?_) (fun q127=>?_)
     · rw[if_pos (.inr (by omega))];refine aa ?_;refine xp rfl (au (H.gw ) rfl) ?_;refine aU ?_;refine xp rfl (ur rfl (ry _ (by omega))) ?_;refine xp rfl (au (H.jB _ _) rfl) ?_;refine xo rfl (mz) ?_;rintro _ h4 ⟨rfl,hh4⟩;have e4:ah h2 h4:=by rw[hh4];exact Ext.push _ _ _
       have k4:az h4 h2.size 119 (jo 2 b.toNat (.slice none 0 0) 0):=by rw[hh4];exact cl _ _ _
       refine aY rfl (bM rfl rfl ((k1.af e4))) ?_;rintro _ h3 ⟨rfl,k3,x3,z3⟩;refine aa ?_;refine fG (fT rfl k3.row (kZ fF)) ?_;exact⟨_,rfl,⟨_,rfl,gM.one (k4.ext x3 (by omega)) (by omega) rfl (aR.nil _ _ _)⟩,ah.only ((e1.trans e2).trans e4) x3 (Nat.le_refl _)⟩
     · rw[if_neg (by omega)];refine aa ?_;refine aQ (fun q128=>?_) (fun q128=>?_)
       · rw[if_pos (by omega)];refine aa ?_;refine xp rfl (au (H.gw ) rfl) ?_;refine aU ?_;refine xp rfl (ur rfl (ry _ (by omega))) ?_;refine xp rfl (au (H.jB _ _) rfl) ?_;refine xo rfl (mz) ?_;rintro _ h4 ⟨rfl,hh4⟩;have e4:ah h2 h4:=by rw[hh4];exact Ext.push _ _ _
         have k4:az h4 h2.size 119 (jo 1 b.toNat (.slice none 0 0) 0):=by rw[hh4];exact cl _ _ _
         refine aY rfl (bM rfl rfl ((k1.af e4))) ?_;rintro _ h3 ⟨rfl,k3,x3,z3⟩;refine aa ?_;refine fG (fT rfl k3.row (kZ fF)) ?_;exact⟨_,rfl,⟨_,rfl,gM.one (k4.ext x3 (by omega)) (by omega) rfl (aR.nil _ _ _)⟩,ah.only ((e1.trans e2).trans e4) x3 (Nat.le_refl _)⟩
       · rw[if_neg (by omega)];refine aa ?_;refine xo rfl (aG rfl (tW ((hg.af e1).af e2) [b])) ?_;rintro _ h5 ⟨rfl,e5⟩;rw[show (decide ([b]≠[]) && !jv [b])=ny [b] from rfl];refine aa ?_;refine oL (fun qb=>?_) (fun qb=>?_)
         · rw[if_pos qb];refine aa ?_;refine xp rfl (au (H.pE _ _) rfl) ?_;refine aY rfl (bM rfl rfl ((k1.af e5))) ?_;rintro _ h3 ⟨rfl,k3,x3,z3⟩;refine aa ?_;have hA:lf (nW [b]) (oI [b])=lf 1 [b]:=by simp[nW,oI,show ¬b.toNat=27 by omega]
           rw[hA];refine fG (fT rfl k3.row (kZ fF)) ?_;exact⟨_,rfl,⟨_,rfl,gM.nil⟩,ah.only ((e1.trans e2).trans e5) x3 (Nat.le_refl _)⟩
         · rw[if_neg (by rw[qb];decide)];refine aa ?_;refine xp rfl (au (H.gw ) rfl) ?_;refine xo rfl (aG rfl ey) ?_;rintro _ h6 ⟨rfl,e6⟩;refine xo rfl (mz) ?_;rintro _ h4 ⟨rfl,hh4⟩;have hz5:=e5.size;have hz6:=e6.size;have e4:ah h6 h4:=by rw[hh4];exact Ext.push _ _ _
           have k4:az h4 h6.size 119 (jo 5 0 (.slice none 0 0) 0):=by rw[hh4];exact cl _ _ _
           refine aY rfl (bM rfl rfl ((((k1.af e5).af e6).af e4))) ?_;rintro _ h3 ⟨rfl,k3,x3,z3⟩;refine aa ?_;refine fG (fT rfl k3.row (kZ fF)) ?_;exact⟨_,rfl,⟨_,rfl,gM.one (k4.ext x3 (by omega)) (by omega) rfl (aR.nil _ _ _)⟩,ah.only ((((e1.trans e2).trans e5).trans e6).trans e4) x3 (Nat.le_refl _)⟩
theorem DT (b:UInt8):(jc b).2.length<=1:=by
 unfold jc
 repeat' split
 all_goals simp
theorem DL {T:TypeId}{base:Nat}{cs:List Value}(k:az h b T cs) (hl:cs.length=4) (hb:base<=b):ay h base T 4 (.slice (some ⟨b,0,none⟩) 1 1) 1 cs :=
 ⟨hl,.inr ⟨b,1,cs.toArray,rfl,hb,k,Nat.le_refl _,by decide,by simpa using hl,by rw[List.take_of_length_le (by simp[hl])]⟩⟩
theorem Ea {T:TypeId}{base n:Nat}{cs:List Value}(k:ay h base T 4 v n cs) (hn:0<n):∃b c,v= .slice (some ⟨b,0,none⟩) n c/\base<=b/\Lw.rowAt h b 0 cs:=by
 obtain⟨oa,c,rfl,o⟩:=ay.open k;obtain⟨b,cur,rfl,hb,-⟩:=o.blk hn
 rcases o.row with q|⟨_,_,e,hr⟩
 · omega
 · cases e;exact⟨b,c,rfl,hb,hr⟩
theorem gM.more {L:Nat}{l:List Ac}(k:gM h L v l) (hl:l.length<=1):∃(oa:Option Addr) (m c:Nat) (news:List Value),v= .slice oa m c/\m<=1/\news.length=m*4/\(m=0\/∃b o,oa=some ⟨b,o,none⟩/\Lw.rowAt h b o news)/\(∀u∈news,u.oneCell'=true) /\
 ∀{h':ai}{b' c':Nat},ah h h'->L<=b'->Lw.rowAt h' b' 0 (jo 5 0 (.slice none 0 0) 0++news)->gM h' L (.slice (some ⟨b',0,none⟩) (1+m) c') (FK::l):=by
 obtain⟨oa,n,c,rfl,h1,h2,h3⟩:=k;have hz:∀{h':ai}{b':Nat}{news:List Value},Lw.rowAt h' b' 0 (jo 5 0 (.slice none 0 0) 0++news)->Lw.rowAt h' b' (0+0*4) (jo 5 0 (.slice none 0 0) 0):=fun hr j v hv=>hr j v (by rw[List.getElem?_append_left];exact hv;exact(List.getElem?_eq_some_iff.1 hv).1)
 match l,hl,h1,h3 with
 | [],_,h1,_ =>
  refine⟨oa,n,c,[],rfl,by rw[<-h1];exact Nat.zero_le _,by rw[<-h1];rfl,.inl h1.symm,fun u hu=>by (cases hu),fun e hb hr=>⟨_,_,_,rfl,by rw[<-h1];rfl,by omega,fun i x hx=>?_⟩⟩
  match i,hx with
  | 0,hx=>cases hx;exact⟨_,.slice none 0 0,rfl,hb,hz hr,rfl,aR.nil _ _ _⟩
 | [x],_,h1,h3 =>
  obtain⟨b,p,rfl,k2,k3,k4,k5⟩:=h3 0 x rfl;have h1:1=n:=h1;refine⟨_,n,c,jo x.1 x.2.1 p x.2.2.2,rfl,by omega,by rw[<-h1];rfl,.inr ⟨_,_,rfl,k3⟩,Ox k4,fun e hb hr=>⟨_,_,_,rfl,by rw[<-h1];rfl,by omega,fun i y hy=>?_⟩⟩
  match i,hy with
  | 0,hy=>cases hy;exact⟨_,.slice none 0 0,rfl,hb,hz hr,rfl,aR.nil _ _ _⟩
  | 1,hy =>
   cases hy;refine⟨_,p,rfl,hb,fun j v hv=>?_,k4,k5.af e⟩;have hj:4+j-(jo 5 0 (.slice none 0 0) 0).length=j:=by show 4+j-4=j;omega
   have:=hr (4+j) v (by rw[List.getElem?_append_right (by show 4<=4+j;omega),hj];exact hv)
   rwa [show 0+(4+j)=0+1*4+j by omega] at this
theorem Ah (hg:BM h) (u:By) (b:UInt8) (hu:u.length<=100000) (h0:u≠[]) (h27:(u.getD 0 0).toNat≠27):aj Tryz.prog 82 #[.agg (lf 1 u).toArray,.int .u8 b.toNat] h (aN fun r h'=>(∃v,r= .tuple #[.agg (lf (nW (rQ u b).1) (oI (rQ u b).1)).toArray,v]/\gM h' h.size v (rQ u b).2)/\ah h h'):=by
 have hb:=b.toNat_lt;have hbs:=aC u;have hbs2:=aC (u++[b]);unfold rQ;generalize hs:u++[b]=s at *;have hs0:s≠[]:=by rw[<-hs];simp
 refine bf ?_;refine aa ?_;refine xo rfl (cM) ?_;rintro _ h1 ⟨rfl,k1,e1,z1⟩;refine xo rfl (cC) ?_;rintro _ h2 ⟨rfl,k2,e2,z2⟩;have k1:az h2 h.size 111 (lf 1 u):=k1.af e2;have k2:az h2 h1.size 111 (lf 0 []):=k2;refine aa ?_;refine xp rfl (aA rfl (k1.cell (i:=1) rfl)) ?_;refine aa ?_;refine xo rfl (kI [_]) ?_;rintro _ h4 ⟨rfl,hh4⟩;refine xp rfl (Ie rfl (show aR .byte h4 (fun _=>False) _ [b] by rw[hh4];exact Bq h2 b 5)) ?_;refine xp rfl (an.bL rfl rfl (by rw[hbs];show u.length+1<=_;omega)) ?_;have e4:ah h2 h4:=by rw[hh4];exact Ext.push _ _ _
 have e04:=(e1.trans e2).trans e4;have hz2:=e04.size;rw[show bs u++(⟨#[b]⟩:ByteArray)=bs s by rw[<-hs];rfl];refine aa ?_;refine xo rfl (aG rfl (Ff (hg.af e04) s hs0)) ?_;rintro _ h5 ⟨rfl,e5⟩
 iterate 7 refine aU ?_
 refine bJ ?_;refine aI ?_;refine dM [(30,.bool (eZ s))] rfl ?_ ?_
 · refine aa ?_;refine dx 25 (fun g1=>?_) (fun g1=>?_)
   · refine aa ?_;exact aL rfl ⟨ak rfl (by rw[eZ,g1,Bool.true_and,decide_eq_decide];omega),sb rfl⟩
   · refine aa ?_;exact aL rfl ⟨ak rfl (by rw[eZ,g1];rfl),sb rfl⟩
 · have e05:=e04.trans e5;have hz5:=e05.size;have k25:=(k2.af e4).af e5;have hz1:=e1.size;refine oL (fun q1=>?_) (fun q1=>?_)
   · rw[if_pos q1];refine aa ?_;refine xp rfl (au (H.gw ) rfl) ?_;refine aa ?_;refine xp rfl (au (H.jB _ _) rfl) ?_;refine xo rfl (mz) ?_;rintro _ h6 ⟨rfl,hh6⟩;have e6:ah h5 h6:=by rw[hh6];exact Ext.push _ _ _
     have k6:az h6 h5.size 119 (jo 1 (ij s:Nat) (.slice none 0 0) 0):=by rw[hh6];exact cl _ _ _
     refine aY rfl (bM rfl rfl ((k25.af e6))) ?_;rintro _ h7 ⟨rfl,k7,x7,z7⟩;refine aa ?_;refine fG (fT rfl k7.row (kZ fF)) ?_;have l2:=k25.lt;exact⟨_,rfl,⟨_,rfl,gM.one (k6.ext x7 (by omega)) (by omega) rfl (aR.nil _ _ _)⟩,ah.only (e05.trans e6) x7 (by omega)⟩
   · rw[if_neg (by rw[q1];decide)];refine aa ?_;refine xo rfl (aG rfl (tW (hg.af e05) s)) ?_;rintro _ h6 ⟨rfl,e6⟩;rw[show (decide (s≠[]) && !jv s)=ny s from rfl];refine aa ?_;refine oL (fun q2=>?_) (fun q2=>?_)
     · rw[if_pos q2]
       have hA:lf (nW s) (oI s)=lf 1 s:=by
        have hs27:¬(s.getD 0 0).toNat=27:=by
         obtain⟨c,tl,rfl⟩:=List.exists_cons_of_ne_nil h0;rw[<-hs];exact h27
        rw[nW,oI,if_neg hs0,if_neg hs27,if_neg hs0,if_neg hs27]
       rw[hA];refine aa ?_;refine xp rfl (au (H.pE _ _) rfl) ?_;refine aY rfl (bM rfl rfl ((k25.af e6))) ?_;rintro _ h7 ⟨rfl,k7,x7,z7⟩;refine aa ?_;refine fG (fT rfl k7.row (kZ fF)) ?_;exact⟨_,rfl,⟨_,rfl,gM.nil⟩,ah.only (e05.trans e6) x7 (by omega)⟩
     · rw[if_neg (by rw[q2];decide)];have e06:=e05.trans e6;refine aa ?_;refine xo rfl (aG rfl (oo (hg.af e06) b)) ?_;rintro _ h7 ⟨⟨v,rfl,ka⟩,e7⟩;refine aa ?_;refine xo rfl (cC) ?_;rintro _ h8 ⟨rfl,k8,e8,z8⟩;refine aY rfl (bM rfl rfl k8 ((Ij _ _))) ?_;rintro _ h9 ⟨rfl,k9,x9,z9⟩;have e79:ah h7 h9:=ah.only e8 x9 (Nat.le_refl _);have k9:az h9 h7.size 111 (lf (nW (jc b).1) (oI (jc b).1)):=k9;have hz6:=e06.size;have hz7:=e7.size;have hz9:=e79.size;have ka9:=ka.ext e79 (fun _ q=>q.elim);obtain⟨oa,m,c,news,rfl,hm1,hnl,hnr,hn1,hmore⟩:=ka9.more (DT b);have hM:¬Array.size h9<=h7.size:=by have:=k9.lt;omega
       refine aa ?_;refine ic 7 5 ?_;refine aS 0 rfl (fun h' e=>bI rfl (e.rowAt hM k9.row)) ?_;refine ax 3 ?_;refine ct 1 rfl (aG rfl ey) ?_;rintro _ g1 ⟨rfl,f1⟩;refine⟨fun _=>f1.of,?_⟩;refine ct 2 rfl (mz) ?_;rintro _ g2 ⟨rfl,hg2⟩;refine⟨fun _=>(by rw[hg2];exact Ext.push _ _ _),?_⟩;have f2:ah g1 g2:=by rw[hg2];exact Ext.push _ _ _
       have kx:az g2 g1.size 119 (jo 5 0 (.slice none 0 0) 0):=by rw[hg2];exact cl _ _ _
       have f02:=f1.trans f2;have hzg:=f1.size;have hnr2:m=0\/∃b o,oa=some ⟨b,o,none⟩/\Lw.rowAt g2 b o news:=hnr.imp id fun⟨b,o,q1,q2⟩=>⟨b,o,q1,f02.rowAt (fun q=>q) q2⟩
       have hown:=DL (base:=h9.size) kx rfl hzg;refine ct 4 rfl (bR underlying114 H.Km rfl rfl hown hnl hnr2 hn1 (by simp only[maxLen];omega) (by omega) (by have:=f2.size;omega)) ?_;rintro v3 g3 ⟨ho3,x3,-,-⟩;refine⟨fun _=>(x3.mono fun b _ q=>by cases q;exact hzg),?_⟩;have f3:ah h9 g3:=(f02.mono fun _ _ q=>q.elim:Ext (fun b=>b=g1.size) h9 g2).trans (x3.mono fun b _ q=>by cases q;rfl) |> fun x=>⟨x.size,fun b hb' _=>x.block b hb' (by omega)⟩
       obtain⟨b3,c3,rfl,hb3,kr3⟩:=Ea ho3 (by omega);have k23:az g3 h1.size 111 (lf 0 []):=(((k25.af e6).af e7).af e79).af f3;refine eK 5 rfl (bM rfl rfl k23 ((Ij _ _))) ?_;rintro _ g4 ⟨rfl,k4,x4,z4⟩;refine⟨nofun,?_⟩;refine ax 6 ?_;refine dP ?_;refine fG (fT rfl k4.row (kZ fF)) ?_;have l2:=k2.lt;have l3:=k25.lt;have l4:=e6.size;exact⟨_,rfl,⟨_,rfl,((hmore f3 (by omega) kr3).ext x4 (fun b q=>by omega)).low (by omega)⟩,ah.only (((e06.trans e7).trans e79).trans f3) x4 hz1⟩
abbrev pn (n j:Nat):Int:=if j=0 then 1 else (n:Nat)
theorem Gk {L:Nat}{r:Loop}{J J':ai->Prop}{g g':ai}(q:wE L r J g) (x:Ext (fun c=>c=b) g g') (hb:b<L) (hj:J' g'):wE L r J' g' :=
 ⟨q.lp.ext x (by omega),(x.block L (by have:=q.lp.lt;omega) (by omega)).trans q.df,hj⟩
section
variable {h0 h:ai}{bb g:Nat}{xs:List Nat}
theorem Bz (hW:jH h0) (e0:ah h0 h) (hb:h0.size<=bb) (k:mT h bb [] (-1)) (kS:qI h0 g xs) (hp:Pr xs){i r:Nat}(hi:i<19) (hr:xs[i]? =some r) (hl:(Lib.itoa ((i:Nat)+1)).length<=100) (row col:Int) :
 aj Tryz.prog 162 #[.pointer (some ⟨bb,0,none⟩),.agg (cy 4 20 (xl g) row col).toArray,.int .i64 (i:Nat)] h (aN fun _ h'=>mT h' bb (kP 0 (i:Nat)++[UInt8.ofNat r]) ((i:Nat)+1)/\Ext (kJ 5 bb h) h h'):=by
 obtain⟨p0,p1⟩:=hp r (List.mem_of_getElem? hr);have hq0:IntKind.i64.wrap (Int.tdiv (i:Int) 20)=0:=by rw[Int.tdiv_eq_zero_of_lt (by omega) (by omega)];decide
 have hr0:Int.tmod (i:Int) 20=i:=Int.tmod_eq_of_lt (by omega) (by omega);have hr1:Int.tmod ((i:Int)+1) 20=i+1:=Int.tmod_eq_of_lt (by omega) (by omega)
 have hml:(kP 0 (i:Nat)).length<=300:=by
  have:(Lib.itoa (0+1)).length=1:=by decide +kernel
  simp only[kP,List.length_append,this,List.length_cons,List.length_nil];omega
 have hbl:bb<h.size:=by obtain⟨_,_,hk,_⟩:=k;exact hk.lt
 refine bf ?_;refine aa ?_;refine xo rfl (cM) ?_;rintro _ h1 ⟨rfl,k4,e1,z1⟩;have k4:az h1 h.size 41 (cy 4 20 (xl g) row col):=k4;obtain⟨r',hr',hrow⟩:=((kS.af e0).af e1).at (i:=i) (by omega);obtain rfl:r'=r:=by rw[hr] at hr';exact(Option.some.inj hr').symm
 refine aa ?_;refine xp rfl (aA rfl (k4.cell (i:=2) rfl)) ?_;refine aU ?_;refine xp rfl (bT rfl rfl i rfl rfl) ?_;refine xp rfl (bI rfl hrow) ?_;refine xo rfl (cC) ?_;rintro _ h2 ⟨rfl,k6,e2,z2⟩;refine aY rfl (bM rfl rfl k6 ((LK r'))) ?_;rintro _ h3 ⟨rfl,k7,x3,z3⟩;have e13:ah h1 h3:=ah.only e2 x3 (Nat.le_refl _);have e03:ah h h3:=e1.trans e13;have k7:az h3 h1.size 58 (kC r'):=k7;have k43:=k4.af e13;have k3:=k.af e03;obtain⟨p,v,kb,hp',hv⟩:=id k3;refine aa ?_;refine xp rfl (aA rfl (kb.cell (i:=2) rfl)) ?_;refine aa ?_;refine fH rfl (by first|(simp;done)|(simp;omega)) ?_;have hz3:=e03.size;have hM4:¬Array.size h3<=h.size:=by have:=k43.lt;omega
 refine ic 13 12 ?_;refine ax 0 ?_;refine ax 1 ?_;refine ax 2 ?_;refine ax 3 ?_;refine ax 4 ?_;refine aS 5 rfl (fun h' e=>aA rfl (e.cell hM4 (k43.cell (i:=1) rfl))) ?_;refine aS 6 rfl (fun h' e=>dh rfl rfl (by decide)) ?_;refine ax 7 ?_;refine BO 8 ?_;refine Ip 9 rfl (aA rfl (k43.cell (i:=1) rfl)) ?_;refine Ip 10 rfl (cI rfl rfl (by decide)) ?_;rw[hq0,hr0];refine ct 11 rfl (aG rfl (sA (hW.af (e0.trans e03)).lx.tens (a:=0) (b:=(i:Nat)) (by omega) (by omega) (by decide +kernel) hl)) ?_;rintro _ h4 ⟨rfl,e4⟩;refine⟨fun _=>e4.of,?_⟩;refine ct 12 rfl (aG rfl (tR _ (k3.af e4) (by rw[List.length_nil];omega))) ?_;rintro _ h5 ⟨k5,x5⟩;refine⟨nofun,?_⟩;rw[List.nil_append] at k5;have k45:=kJ.keep x5 (k43.af e4) (by omega) (by decide);have k75:=kJ.keep x5 (k7.af e4) (by omega) (by decide);have x05:Ext (kJ 5 bb h) h h5:=kJ.trans (ah.of (e03.trans e4)) x5;obtain⟨p5,v5,kb5,hp5,hv5⟩:=id k5
 have hst:Lw.rowAt h5 bb (0+3) uA:=fun j v hv=>by
  match j,hv with
  | 0,hv=>cases hv;exact kb5.cell (i:=3) rfl
  | 1,hv=>cases hv;exact kb5.cell (i:=4) rfl
  | 2,hv=>cases hv;exact kb5.cell (i:=5) rfl
  | 3,hv=>cases hv;exact kb5.cell (i:=6) rfl
 have hsc:Lw.rowAt h5 h1.size (0+2) uA:=fun j v hv=>by
  match j,hv with
  | 0,hv=>cases hv;exact k75.cell (i:=2) rfl
  | 1,hv=>cases hv;exact k75.cell (i:=3) rfl
  | 2,hv=>cases hv;exact k75.cell (i:=4) rfl
  | 3,hv=>cases hv;exact k75.cell (i:=5) rfl
 refine dP ?_;refine aa ?_;refine bP rfl (bI rfl hst) ?_;refine aa ?_;refine bP rfl (bI rfl hsc) ?_;refine bP rfl (an.nh oq qL yp rfl rfl MB) ?_;refine aa ?_;refine bV rfl (by decide) ?_;have hM7:¬Array.size h5<=h1.size:=by have:=k75.lt;omega
 have hen:=Lc r' p1;refine aa ?_;refine ic 7 6 ?_;refine ax 0 ?_;refine ax 1 ?_;refine ax 2 ?_;refine BO 3 ?_;refine Ip 4 rfl (aA rfl (k75.cell (i:=0) rfl)) ?_;refine ct 5 rfl (aG rfl (CX (r':Nat) (by omega) (by omega))) ?_;rintro _ h6 ⟨rfl,hh6⟩;refine⟨fun _=>by rw[hh6];exact av _ _,?_⟩;subst hh6;rw[hen];refine ct 6 rfl (aG rfl (tR _ k5 (by show _+1<=_;omega))) ?_;rintro _ h7 ⟨k8,x7⟩;refine⟨nofun,?_⟩;have k77:=kJ.keep x7 k75 (by omega) (by decide);have k47:=kJ.keep x7 k45 (by omega) (by decide);obtain⟨p7,v7,kb7,hp7,hv7⟩:=k8;refine dP ?_;refine aa ?_;refine xp rfl (aA rfl (k77.cell (i:=1) rfl)) ?_;refine aU ?_;refine xp rfl (an.dZ rfl rfl ⟨by split<;>omega,by split<;>omega⟩) ?_;refine aa ?_;refine aY rfl (b7 rfl rfl kb7) ?_;rintro _ h8 ⟨rfl,kb8,x8,z8⟩;have kb8:az h8 bb 259 (Br p7 v7 ((i:Nat)+1)):=kb8;have k48:=k47.ext x8 (by omega);refine aa ?_;refine bP rfl (aA rfl (kb8.cell (i:=2) rfl)) ?_;refine aa ?_;refine bP rfl (aA rfl (k48.cell (i:=1) rfl)) ?_;refine bP rfl (cI rfl rfl (by decide)) ?_;rw[hr1];refine aa ?_;refine bV rfl (by simp;omega) ?_;refine aa ?_;refine gE ?_;exact⟨_,rfl,⟨p7,v7,kb8,hp7,ay.ext x8 hv7 (fun b hb q=>by have:=ay.lt hv7 hb;omega)⟩,kJ.trans (kJ.trans x05 x7) (x8.mono fun b _ q=>.inl q)⟩
end
def rX (i r c:Nat):By:=kP 0 (i:Nat)++[UInt8.ofNat r]++kP 0 (c:Nat)
theorem Ay (hW:jH h){ga gb:Nat}{xs ys:List Nat}(ka:qI h ga xs) (kb:qI h gb ys) (pa:Pr xs) (pb:Pr ys){i0 r:Nat}(hi0:i0<19) (hr:ys[i0]? =some r) (hne:xs[i0]? ≠some r) (hsame:∀j,j≠i0->xs[j]? =ys[j]?)
 {ca cb:Nat}(hc:ca≠cb) (hca:ca<20) (hcb:cb<20) (l1:(Lib.itoa ((i0:Nat)+1)).length<=100) (l2:(Lib.itoa ((cb:Nat)+1)).length<=100) :
 aj Tryz.prog 111 #[.agg (cy 4 20 (xl ga) 0 (ca:Nat)).toArray,.agg (cy 4 20 (xl gb) 0 (cb:Nat)).toArray] h (aN fun q h'=>q= .string (bs (rX i0 r cb))/\ah h h'):=by
 have hl0:(Lib.itoa (0+1)).length=1:=by decide +kernel
 have hm1:(kP 0 (i0:Nat)).length<=300:=by simp only[kP,List.length_append,hl0,List.length_cons,List.length_nil];omega
 have hm2:(kP 0 (cb:Nat)).length<=300:=by simp only[kP,List.length_append,hl0,List.length_cons,List.length_nil];omega
 refine bf ?_;refine aa ?_;refine xo rfl (cM) ?_;rintro _ h1 ⟨rfl,k2,e1,z1⟩;refine xo rfl (cM) ?_;rintro _ h2 ⟨rfl,k3,e2,z2⟩;have k2:az h2 h.size 41 (cy 4 20 (xl ga) 0 (ca:Nat)):=k2.af e2;have k3:az h2 h1.size 41 (cy 4 20 (xl gb) 0 (cb:Nat)):=k3;have e02:=e1.trans e2;refine aU ?_;refine bJ ?_
 iterate 2 refine aI ?_
 refine BS (fun(_u:Unit) (h':ai)=>ah h2 h') (fun(_u:Unit)=>[(20,.bool false)]) rfl ?_ ?_
 · refine xp rfl (bI rfl k2.row) ?_;refine xo rfl (aG rfl (pO (hW.af e02) (Nat.le_refl _) (ka.af e02).rZ pa (by omega) (by omega))) ?_;rintro _ g1 ⟨rfl,f1⟩;refine aa ?_;refine RW.aO (d:=11) (b':=false) rfl (by decide) ?_;refine xp rfl (bI rfl (k3.af f1).row) ?_;refine xo rfl (aG rfl (pO ((hW.af e02).af f1) (Nat.le_refl _) ((kb.af e02).af f1).rZ pb (by omega) (by omega))) ?_;rintro _ g2 ⟨rfl,f2⟩;refine aa ?_;refine RW.aO (d:=16) (b':=false) rfl (by decide) ?_;refine xp rfl (bI rfl (k2.af (f1.trans f2)).row) ?_;refine xp rfl (bI rfl (k3.af (f1.trans f2)).row) ?_;refine xo rfl (aG rfl (IA (by omega) rfl rfl)) ?_;rintro _ g3 ⟨rfl,f3⟩;refine aa ?_;exact ef () ((f1.trans f2).trans f3) ⟨ak rfl (rfl),sb rfl⟩
 · rintro _ h3 e3;refine bV rfl (by decide) ?_;have k23:=k2.af e3;have k33:=k3.af e3;have e03:=e02.trans e3
   iterate 3 refine aI ?_
   refine dM [(32,.bool false)] rfl ?_ ?_
   · refine aa ?_;refine xp rfl (aA rfl (k23.cell (i:=0) rfl)) ?_;refine aa ?_;refine xp rfl (aA rfl (k33.cell (i:=0) rfl)) ?_;refine aa ?_;refine RW.aO (d:=26) (b':=false) rfl (by simp) ?_;refine aa ?_;refine xp rfl (aA rfl (k23.cell (i:=1) rfl)) ?_;refine aa ?_;refine xp rfl (aA rfl (k33.cell (i:=1) rfl)) ?_;refine aa ?_;exact aL rfl ⟨ak rfl (by simp),sb rfl⟩
   · refine bV rfl (by decide) ?_;refine aa ?_;refine xp rfl (au (H.Jg _) rfl) ?_;refine xo rfl (cM) ?_;rintro _ h4 ⟨rfl,k5,e4,z4⟩;have k5:az h4 h3.size 259 (Br (.pointer none) (.slice none 0 0) (-1)):=k5;have e04:=e03.trans e4;have hz03:=e03.size;have hz13:=e3.size;have hL1:(kP 0 (i0:Nat)++[UInt8.ofNat r]).length<=301:=by rw[List.length_append];show _+1<=_;omega
     refine aa ?_;refine zB (σ:=Nat) (fun i=>[(2,.pointer (some ⟨h.size,0,none⟩)),(3,.pointer (some ⟨h1.size,0,none⟩)),(4,.string ⟨#[]⟩),(5,.pointer (some ⟨h3.size,0,none⟩)),(6,.int .i64 (i:Nat))]) (fun i g=>i<=80/\mT g h3.size (if i<=i0 then [] else kP 0 (i0:Nat)++[UInt8.ofNat r]) (if i<=i0 then -1 else (i0:Nat)+1)/\Ext (kJ 5 h3.size h4) h4 g) (fun i=>80-i) (0) ⟨Nat.zero_le _,by rw[if_pos (Nat.zero_le _),if_pos (Nat.zero_le _)];exact⟨_,_,k5,.inl rfl,bF.nil _ _ _ _⟩,av _ _⟩ ?_;rintro i g ⟨hi,kB,xg⟩ ih;have e3g:ah h3 g:=kJ.lx e4 (Nat.le_refl _) xg;have e0g:=e03.trans e3g;have k2g:=k23.af e3g;have k3g:=k33.af e3g;refine aa ?_;refine xp rfl (aA rfl (k3g.cell (i:=2) rfl)) ?_;refine aa ?_;refine aQ (fun hlt=>?_) (fun hlt=>?_)
     · have hi80:i<80:=by omega
       obtain⟨x,hx,hrx⟩:=(ka.af e0g).at hi80;obtain⟨y,hy,hry⟩:=(kb.af e0g).at hi80
       have hxy:x=y↔¬i=i0:=by
        constructor
        · rintro rfl rfl;rw[hr] at hy;cases hy;exact hne hx
        · intro q;have:=hsame i q;rw[hx,hy] at this;exact Option.some.inj this
       refine aa ?_;refine xp rfl (aA rfl (k3g.cell (i:=2) rfl)) ?_;refine aU ?_;refine xp rfl (bT rfl rfl i rfl rfl) ?_;refine aa ?_;refine xp rfl (aA rfl (hry 1 _ rfl)) ?_
       iterate 2 refine aU ?_
       refine bJ ?_
       iterate 2 refine aI ?_
       refine G.eB [(96,.bool (decide (¬i=i0)))] [(2,_),(3,_),(4,_),(5,_),(6,_),(7,_),(48,_)] ⟨rfl,rfl,rfl,rfl,rfl,rfl,rfl,trivial⟩ func111 H.mixed rfl (by kernel_rfl) ?_ ?_
       · refine mU ?_;refine bP rfl (aA rfl (k3g.cell (i:=2) rfl)) ?_;refine mU ?_;refine bP rfl (bT rfl rfl i rfl rfl) ?_;refine aa ?_;refine bP rfl (aA rfl (hry 1 _ rfl)) ?_;refine aa ?_;refine RQ.aO (d:=65) (b':=false) rfl (by decide) ?_;refine aa ?_;refine bP rfl (aA rfl (k2g.cell (i:=2) rfl)) ?_;refine mU ?_;refine bP rfl (bT rfl rfl i rfl rfl) ?_;refine bP rfl (bI rfl hrx) ?_;refine aa ?_;refine bP rfl (aA rfl (k3g.cell (i:=2) rfl)) ?_;refine mU ?_;refine bP rfl (bT rfl rfl i rfl rfl) ?_;refine bP rfl (bI rfl hry) ?_;refine bP rfl (an.yy tA wZ yq rfl rfl (Pm x y)) ?_;refine aa ?_;refine Ic 77 (fun hq=>?_) (fun hq=>?_)
         · have hq:=of_decide_eq_true hq;refine aa ?_;refine RQ.aO (d:=79) (b':=false) rfl (by decide) ?_;refine aa ?_;exact jq rfl ⟨ak rfl (by rw[decide_eq_true (hxy.1 hq)];rfl),sb rfl⟩
         · have hq:=of_decide_eq_false hq;refine aa ?_;exact jq rfl ⟨ak rfl ((decide_eq_false (fun q=>hq (hxy.2 q))).symm),sb rfl⟩
       · refine aQ (fun hni=>?_) (fun hni=>?_)
         · have e1:i+1<=i0↔i<=i0:=⟨fun q=>by omega,fun q=>by omega⟩
           refine aa ?_;exact ih (i+1) ⟨hi80,by simp only[e1];exact kB,xg⟩
         · obtain rfl:i=i0:=Classical.byContradiction hni;rw[if_pos (Nat.le_refl _),if_pos (Nat.le_refl _)] at kB;refine aa ?_;refine xp rfl (bI rfl k3g.row) ?_;refine aa ?_;refine xo rfl (aG rfl (Bz (hW.af e03) e3g (Nat.le_refl _) kB (kb.af e03) pb hi0 hr l1 0 (cb:Nat))) ?_;rintro _ g2 ⟨k2B,x2⟩;refine aa ?_;exact ih (i+1) ⟨hi80,by rw[if_neg (by omega),if_neg (by omega)];exact k2B,kJ.trans xg x2⟩ (by omega)
     · obtain rfl:i=80:=by omega
       rw[if_neg (by omega),if_neg (by omega)] at kB;obtain⟨p5,v5,kb5,hp5,hv5⟩:=id kB
       have hst:Lw.rowAt g h3.size (0+3) uA:=fun j v hv=>by
        match j,hv with
        | 0,hv=>cases hv;exact kb5.cell (i:=3) rfl
        | 1,hv=>cases hv;exact kb5.cell (i:=4) rfl
        | 2,hv=>cases hv;exact kb5.cell (i:=5) rfl
        | 3,hv=>cases hv;exact kb5.cell (i:=6) rfl
       refine aa ?_;refine xp rfl (bI rfl hst) ?_;refine xp rfl (au (H.qu ) rfl) ?_;refine xp rfl (an.nh oq qL yp rfl rfl MB) ?_;refine aa ?_;refine bV rfl (by decide) ?_
       iterate 3 refine aI ?_
       refine dM [(131,.bool true)] rfl ?_ ?_
       · refine aa ?_;refine xo rfl (aG rfl (Lh kB)) ?_;rintro _ g' ⟨rfl,hg'⟩;subst hg';refine aa ?_;refine RW.aO (d:=118) (b':=true) rfl (by rw[List.length_append];first|(simp;done)|(simp;omega)) ?_;refine aa ?_;exact aL rfl ⟨ak rfl (by simp),sb rfl⟩
       · refine fH rfl (by decide) ?_;have hM:¬Array.size g<=h1.size:=by have:=k3g.lt;omega
         refine ic 9 8 ?_;refine ax 0 ?_;refine ax 1 ?_;refine ax 2 ?_;refine ax 3 ?_;refine aS 4 rfl (fun h' e=>aA rfl (e.old (k3g.cell (i:=3) rfl))) ?_;refine BO 5 ?_;refine Ip 6 rfl (aA rfl (k3g.cell (i:=4) rfl)) ?_;refine ct 7 rfl (aG rfl (sA (hW.af e0g).lx.tens (a:=0) (b:=(cb:Nat)) (by omega) (by omega) (by decide +kernel) l2)) ?_;rintro _ g2 ⟨rfl,f2⟩;refine⟨fun _=>f2.of,?_⟩;refine ct 8 rfl (aG rfl (tR _ (kB.af f2) (by omega))) ?_;rintro _ g3 ⟨k3B,x3⟩;refine⟨nofun,?_⟩;have x43:Ext (kJ 5 h3.size h4) h4 g3:=kJ.trans (kJ.trans xg (ah.of f2)) x3;refine dP ?_;refine aa ?_;refine xo rfl (aG rfl (Fl k3B (by rw[List.length_append];omega))) ?_;rintro _ g4 ⟨rfl,x4⟩;refine aa ?_;refine aW ?_;exact⟨_,rfl,rfl,e03.trans (gC (kJ.lx e4 (Nat.le_refl _) x43) x4 (Nat.le_refl _))⟩
theorem Ox (hp:p.oneCell'=true):∀v∈jo kk r p f,v.oneCell'=true:=fun v hv=>by simp[jo] at hv;rcases hv with rfl|rfl|rfl|rfl<;>first|rfl|exact hp
section
variable {h0 h h':ai}{tb g:Nat}
end
abbrev Ev:=Int×By×Int×Int
def jy (e:Ev):List Value:=[.int .i64 e.1,.string (bs e.2.1),.int .i64 e.2.2.1,.int .i64 e.2.2.2]
theorem Ke (e:Ev):∀v∈jy e,v.oneCell'=true:=fun v hv=>by simp[jy] at hv;rcases hv with rfl|rfl|rfl|rfl<;>rfl
abbrev mu:fS Ev:=.record 4 (by decide) jy (fun _=>rfl) Ke
def pN:Ev:=(3,[],0,0)
theorem Nb {t:TypeId}(hf:∃f0 f1 f2 f3:Field,(Tryz.prog.fieldsOf t).toList=[f0,f1,f2,f3]/\(f0.name≠ "_" /\f0.type=3/\f0.offset=0)/\(f1.name≠ "_" /\f1.type=9/\f1.offset=1)/\(f2.name≠ "_" /\f2.type=3/\f2.offset=2)/\(f3.name≠ "_" /\f3.type=3/\f3.offset=3))
 (x y:Ev) (w:World):(Op.eqFields 9999 (jy x).toArray (jy y).toArray (Tryz.prog.fieldsOf t).toList).run Tryz.prog w= .ok (decide (x=y)) w:=by
 have hi:aJ Tryz.prog 3=some false:=by kernel_rfl
 have hs:aJ Tryz.prog 9=some false:=by kernel_rfl
 obtain⟨f0,f1,f2,f3,e,⟨n0,t0,o0⟩,⟨n1,t1,o1⟩,⟨n2,t2,o2⟩,⟨n3,t3,o3⟩⟩:=hf;rw[e];have h3:=bN (P:=Tryz.prog) (d:=9999) (xs:=(jy x).toArray) (ys:=(jy y).toArray) (fs:=[]) (w:=w) n3 (by rw[t3];exact hi) (u:=.int .i64 x.2.2.2) (v:=.int .i64 y.2.2.2) (by rw[o3];rfl) (by rw[o3];rfl) (by rw[t3];exact run_equalIn_int w 9998 _ _ _ _ _ underlying3) rfl;have h2:=bN n2 (by rw[t2];exact hi) (u:=.int .i64 x.2.2.1) (v:=.int .i64 y.2.2.1) (by rw[o2];rfl) (by rw[o2];rfl) (by rw[t2];exact run_equalIn_int w 9998 _ _ _ _ _ underlying3) h3;have h1:=bN n1 (by rw[t1];exact hs) (u:=.string (bs x.2.1)) (v:=.string (bs y.2.1)) (by rw[o1];rfl) (by rw[o1];rfl) (by rw[t1];exact run_equalIn_string w 9998 _ _ _ underlying9) h2;have h0:=bN n0 (by rw[t0];exact hi) (u:=.int .i64 x.1) (v:=.int .i64 y.1) (by rw[o0];rfl) (by rw[o0];rfl) (by rw[t0];exact run_equalIn_int w 9998 _ _ _ _ _ underlying3) h1;rw[h0]
 congr 1
 obtain⟨a,b,c,d⟩:=x;obtain⟨a',b',c',d'⟩:=y;rw[Bool.eq_iff_iff];simp[bs]
theorem Kb (x y:Ev) (w:World):(Op.eqFields 9999 (jy x).toArray (jy y).toArray (Tryz.prog.fieldsOf 49).toList).run Tryz.prog w= .ok (decide (x=y)) w :=
 Nb ⟨_,_,_,_,rfl,⟨by decide,rfl,rfl⟩,⟨by decide,rfl,rfl⟩,⟨by decide,rfl,rfl⟩,⟨by decide,rfl,rfl⟩⟩ x y w
theorem A6:Tryz.prog.underlying 49=some (.struct (Tryz.prog.fieldsOf 49)):=by kernel_rfl
theorem DA:Tryz.prog.stoodInHeld 49=false:=by kernel_rfl
theorem DR:Tryz.prog.eqGuardType Tryz.prog.depth 49=false:=by kernel_rfl
theorem pS (a b:Int):aj Tryz.prog 25 #[.int .i64 a,.int .i64 b] h (aN fun r h'=>r= .bool (fL a b)/\h'=h):=by
 unfold fL;refine bf ?_;refine aI ?_;refine bU ?_;refine aU ?_;refine bJ ?_;refine aI ?_;refine dM [(4,.bool (decide (2<=a/\a<=100/\8<=b/\b<=200)))] rfl ?_ ?_
 · refine aa ?_;refine dx 7 (fun g1=>?_) (fun g1=>?_)
   · have h1:=of_decide_eq_true g1;refine aa ?_;refine dx 11 (fun g2=>?_) (fun g2=>?_)
     · have h2:=of_decide_eq_true g2;refine aa ?_;refine dx 15 (fun g3=>?_) (fun g3=>?_)
       · have h3:=of_decide_eq_true g3;refine aa ?_;exact aL rfl ⟨ak rfl (by exact decide_eq_decide.2 (by omega)),sb rfl⟩
       · refine aa ?_;exact aL rfl ⟨ak rfl (by have:=of_decide_eq_false g3;exact(decide_eq_false (by omega)).symm),sb rfl⟩
     · refine aa ?_;exact aL rfl ⟨ak rfl (by have:=of_decide_eq_false g2;exact(decide_eq_false (by omega)).symm),sb rfl⟩
   · refine aa ?_;exact aL rfl ⟨ak rfl (by have:=of_decide_eq_false g1;exact(decide_eq_false (by omega)).symm),sb rfl⟩
 · refine aW ?_;exact⟨_,rfl,rfl,rfl⟩
def fM (e:Ev):Bool:=if e.1=1 then decide (e.2.1≠[]) && decide (e.2.2.1=0) && decide (e.2.2.2=0) else if e.1=2 then decide (e.2.1=[]) && fL e.2.2.1 e.2.2.2 else decide (e=pN)
theorem lV (s:By):(bs s=(⟨#[]⟩:ByteArray))↔s=[]:=by simp[bs]
theorem Ct (e:Ev):aj Tryz.prog 28 #[.agg (jy e).toArray] h (aN fun r h'=>r= .bool (fM e)/\ah h h'):=by
 unfold fM;refine bf ?_;refine aa ?_;refine xo rfl (cM) ?_;rintro _ h1 ⟨rfl,k1,e1,z1⟩;have k1:az h1 h.size 49 (jy e):=k1;refine aa ?_;refine xp rfl (aA rfl (k1.cell (i:=0) rfl)) ?_;refine aa ?_;refine aQ (fun q1=>?_) (fun q1=>?_)
 · rw[if_pos q1];refine aI ?_;refine dM [(2,.bool (decide (e.2.1≠[]) && decide (e.2.2.1=0) && decide (e.2.2.2=0)))] rfl ?_ ?_
   · refine aa ?_;refine xp rfl (aA rfl (k1.cell (i:=1) rfl)) ?_;refine aa ?_;refine dx 10 (fun g1=>?_) (fun g1=>?_)
     · have g1:=of_decide_eq_true g1;refine aa ?_;refine xp rfl (aA rfl (k1.cell (i:=2) rfl)) ?_;refine aa ?_;refine dx 15 (fun g2=>?_) (fun g2=>?_)
       · have g2:=of_decide_eq_true g2;refine aa ?_;refine xp rfl (aA rfl (k1.cell (i:=3) rfl)) ?_;refine aa ?_;exact aL rfl ⟨ak rfl (by rw[decide_eq_true (show e.2.1≠[] from fun q=>g1 ((lV _).2 q)),decide_eq_true g2];rfl),sb rfl⟩
       · have g2:=of_decide_eq_false g2;refine aa ?_;exact aL rfl ⟨ak rfl (by rw[decide_eq_false g2];simp),sb rfl⟩
     · have g1:=of_decide_eq_false g1;refine aa ?_;exact aL rfl ⟨ak rfl (by rw[decide_eq_false (show ¬e.2.1≠[] from fun q=>g1 fun q2=>q ((lV _).1 q2))];rfl),sb rfl⟩
   · refine aW ?_;exact⟨_,rfl,rfl,e1⟩
 · rw[if_neg q1];refine aa ?_;refine aQ (fun q2=>?_) (fun q2=>?_)
   · rw[if_pos q2];refine aI ?_;refine BS (fun(_u:Unit) (h':ai)=>h'=h1) (fun(_u:Unit)=>[(2,.bool (decide (e.2.1=[]) && fL e.2.2.1 e.2.2.2))]) rfl ?_ ?_
     · refine aa ?_;refine xp rfl (aA rfl (k1.cell (i:=1) rfl)) ?_;refine aa ?_;refine dx 25 (fun g1=>?_) (fun g1=>?_)
       · have g1:=of_decide_eq_true g1;refine aa ?_;refine xp rfl (aA rfl (k1.cell (i:=2) rfl)) ?_;refine aa ?_;refine xp rfl (aA rfl (k1.cell (i:=3) rfl)) ?_;refine xo rfl (aG rfl (pS _ _)) ?_;rintro _ h2 ⟨rfl,hh2⟩;refine aa ?_;subst hh2;exact ef () rfl ⟨ak rfl (by rw[decide_eq_true ((lV _).1 g1)];rfl),sb rfl⟩
       · have g1:=of_decide_eq_false g1;refine aa ?_;exact ef () rfl ⟨ak rfl (by rw[decide_eq_false (fun q=>g1 ((lV _).2 q))];rfl),sb rfl⟩
     · rintro _ h2 hh2;subst hh2;refine aW ?_;exact⟨_,rfl,rfl,e1⟩
   · rw[if_neg q2];refine aa ?_;refine xp rfl (bI rfl k1.row) ?_;refine xp rfl (au (H.HJ _) rfl) ?_;refine xp rfl (an.yy A6 DA DR rfl rfl (Kb e pN)) ?_;refine aa ?_;refine aW ?_;exact⟨_,rfl,rfl,e1⟩
theorem C1 (e:Ev):aj Tryz.prog 27 #[.agg (jy e).toArray] h (aN fun r h'=>r= .bool (!fM e)/\ah h h'):=by
 refine bf ?_;refine aa ?_;refine xo rfl (cM) ?_;rintro _ h1 ⟨rfl,k1,e1,z1⟩;have k1:az h1 h.size 49 (jy e):=k1;refine aa ?_;refine xp rfl (bI rfl k1.row) ?_;refine xo rfl (aG rfl (Ct e)) ?_;rintro _ h2 ⟨rfl,e2⟩;refine aa ?_;refine aW ?_;exact⟨_,rfl,rfl,e1.trans e2⟩
theorem yK {xs:List Ev}(hv:aR mu h O v xs):aj Tryz.prog 51 #[v,.func (.func 27) #[] #[]] h (aN fun r h'=>(∃i:Int,r= .int .i64 i/\decide (0<=i)= !xs.all fM)/\ah h h'):=by
 obtain⟨va,vn,vc,rfl,hvs⟩:=id hv.open;have hvl:xs.length=vn:=hvs.len;subst hvl;have hvm:=hvs.cap;have hvc:=hvs.le;simp only[maxLen] at hvm;refine bf ?_;refine aa ?_;refine eR (σ:=Nat) (fun i=>[(8,.int .i64 (i:Nat))]) (fun i h'=>ah h h'/\i<=xs.length/\(xs.take i).all fM=true) (fun i=>xs.length-i) (0) ⟨av _ _,Nat.zero_le _,rfl⟩ rfl ?_;rintro i g ⟨eg,hi,hin⟩ ih;refine aa ?_;refine aQ (fun hlt=>?_) (fun hlt=>?_)
 · have hil:i<xs.length:=by omega
   obtain⟨b,o,x,ha,_,hx,hrow⟩:=(hvs.mv (Mv.af eg)).fC hil
   iterate 4 refine aI ?_
   refine bU ?_
   iterate 2 refine aU ?_
   refine bJ ?_;refine aI ?_;refine bU ?_
   iterate 3 refine aU ?_
   refine xp rfl (bT rfl rfl i rfl ha) ?_;refine xp rfl (bI rfl hrow) ?_;refine xo rfl (aH.Kr (vs:=[_]) rfl ⟨_,func27,rfl,by kernel_rfl⟩ rfl (aj.jF ((C1 x)))) ?_;rintro _ g1 ⟨rfl,e1⟩;refine aa ?_;refine oL (fun hb=>?_) (fun hb=>?_)
   · refine aa ?_;refine aW ?_;refine⟨_,rfl,⟨_,rfl,?_⟩,eg.trans e1⟩
     have:xs.all fM=false:=by
      rw[List.all_eq_false];exact⟨x,List.mem_of_getElem? hx,by simpa using hb⟩
     rw[this,decide_eq_true (by omega)];rfl
   · refine aa ?_;exact ih (i+1) ⟨eg.trans e1,hil,by rw[List.take_add_one,hx];simp[hin];simpa using hb⟩
 · obtain rfl:i=xs.length:=by omega
   rw[List.take_length] at hin;refine aa ?_;refine aW ?_;exact⟨_,rfl,⟨_,rfl,by rw[hin];decide⟩,eg⟩
theorem C7 {xs:List Ev}(hv:aR mu h O v xs):aj Tryz.prog 26 #[v,.func (.func 27) #[] #[]] h (aN fun r h'=>r= .bool (!xs.all fM)/\ah h h'):=by
 refine bf ?_;refine aa ?_;refine xo rfl (aG rfl (yK hv)) ?_;rintro _ h2 ⟨⟨i,rfl,hi⟩,e2⟩;refine aa ?_;refine aW ?_;exact⟨_,rfl,congrArg Value.bool hi,e2⟩
def gL (rows cols:Int) (v:Value):List Value:=[.int .i64 rows,.int .i64 cols,v]
def iM (rows cols:Int) (xs:List Ev):Bool:=fL rows cols && xs.all fM
theorem iu {xs:List Ev}(hv:aR mu h O v xs) (rows cols:Int):aj Tryz.prog 9 #[.agg (gL rows cols v).toArray] h (aN fun r h'=>r= .int .i64 (if iM rows cols xs then 0 else 2)/\ah h h'):=by
 obtain⟨va,vn,vc,rfl,hvs⟩:=id hv.open;unfold iM;refine bf ?_;refine aa ?_;refine xo rfl (cM) ?_;rintro _ h1 ⟨rfl,k1,e1,z1⟩;have k1:az h1 h.size 24 (gL rows cols (.slice va vn vc)):=k1;refine aU ?_;refine bJ ?_
 iterate 2 refine aI ?_
 refine BS (fun(_u:Unit) (h':ai)=>ah h1 h') (fun(_u:Unit)=>[(13,.bool (!(fL rows cols && xs.all fM)))]) rfl ?_ ?_
 · refine aa ?_;refine xp rfl (aA rfl (k1.cell (i:=0) rfl)) ?_;refine aa ?_;refine xp rfl (aA rfl (k1.cell (i:=1) rfl)) ?_;refine xo rfl (aG rfl (pS rows cols)) ?_;rintro _ h2 ⟨rfl,hh2⟩;subst hh2
   rcases Bool.eq_false_or_eq_true (fL rows cols) with hm|hm
   · rw[hm];refine aa ?_;refine RW.aO (d:=9) (b':=false) rfl (rfl) ?_;refine aa ?_;refine xp rfl (aA rfl (k1.cell (i:=2) rfl)) ?_;refine xo rfl (aG rfl (C7 (hv.af e1))) ?_;rintro _ h3 ⟨rfl,e3⟩;refine aa ?_;exact ef () e3 ⟨ak rfl (by simp),sb rfl⟩
   · rw[hm];refine aa ?_;refine RW.aO (d:=9) (b':=true) rfl (rfl) ?_;refine aa ?_;exact ef () (av _ _) ⟨ak rfl (by simp),sb rfl⟩
 · rintro _ h2 e2;refine oL (fun hb=>?_) (fun hb=>?_)
   · have hb:(fL rows cols && xs.all fM)=false:=by rw[Bool.not_eq_true'] at hb;exact hb
     rw[hb];refine aa ?_;refine aW ?_;exact⟨_,rfl,rfl,e1.trans e2⟩
   · have hb:(fL rows cols && xs.all fM)=true:=by rw[Bool.not_eq_false'] at hb;exact hb
     rw[hb];refine aa ?_;refine aW ?_;exact⟨_,rfl,rfl,e1.trans e2⟩
abbrev LR:By:=[48,49,50,51,52,53,54,55,56,57,97,98,99,100,101,102]
abbrev EX (n:Nat):UInt8:=LR.getD n 0
def CD (x:UInt8):By:=[EX (x.toNat / 16),EX (x.toNat%16)]
def ew (e:Ev):By:=if e.1=1 then [111,117,116,32]++e.2.1.flatMap CD++[10] else if e.1=2 then [115,105,122,101,32]++Lib.itoa e.2.2.1++[32]++Lib.itoa e.2.2.2++[10] else [119,97,105,116,10]
theorem AW:∀n:Nat,n<=200->(Lib.itoa (n:Nat)).length<=3:=by decide +kernel
theorem eV {a:Int}(h:0<=a/\a<=200):(Lib.itoa a).length<=3:=by
 obtain⟨n,rfl⟩:∃n:Nat,a=n:=⟨a.toNat,by omega⟩
 exact AW n (by omega)
theorem H9 {n:Nat}(hn:n<16):LR[n]? =some (EX n):=by
 unfold EX;rw[List.getD_eq_getElem?_getD,List.getElem?_eq_getElem (show n<LR.length from hn)];rfl
theorem oh (l:By):(l.flatMap CD).length=l.length*2:=by
 induction l with
 |nil=>rfl
 |cons x r ih=>rw[List.flatMap_cons,List.length_append,ih,List.length_cons];show 2+_=_;omega
theorem AL (a:Int) (s:By) (b c:Int) (h1:¬a=1) (h2:¬a=2):aj Tryz.prog 21 #[.agg (jy (a,s,b,c)).toArray] h (aN fun r h'=>r= .string (bs (ew (a,s,b,c)))/\ah h h'):=by
 unfold ew;rw[if_neg h1,if_neg h2];refine bf ?_;refine aa ?_;refine xo rfl (cM) ?_;rintro _ g1 ⟨rfl,k1,e1,z1⟩;have k1:az g1 h.size 49 (jy (a,s,b,c)):=k1;refine aa ?_;refine xp rfl (aA rfl (k1.cell (i:=0) rfl)) ?_;refine aa ?_;refine bV rfl (by simpa using h1) ?_;refine aa ?_;refine bV rfl (by simpa using h2) ?_;refine aa ?_;refine aW ?_;exact⟨_,rfl,rfl,e1⟩
theorem AM (hT:kY h) (s:By){b c:Int}(hb:0<=b/\b<=200) (hc:0<=c/\c<=200):aj Tryz.prog 21 #[.agg (jy (2,s,b,c)).toArray] h (aN fun r h'=>r= .string (bs (ew (2,s,b,c)))/\ah h h'):=by
 have s1:=aC (Lib.itoa b);have s2:=aC (Lib.itoa c);have n1:=eV hb;have n2:=eV hc;have s3:(⟨#[115,105,122,101,32]⟩:ByteArray)=bs [115,105,122,101,32]:=rfl;have s4:(⟨#[32]⟩:ByteArray)=bs [32]:=rfl;have s5:(⟨#[10]⟩:ByteArray)=bs [10]:=rfl;unfold ew;rw[if_neg (show ¬(2:Int)=1 by decide),if_pos rfl];refine bf ?_;refine aa ?_;refine xo rfl (cM) ?_;rintro _ g1 ⟨rfl,k1,e1,z1⟩;have k1:az g1 h.size 49 (jy (2,s,b,c)):=k1;refine aa ?_;refine xp rfl (aA rfl (k1.cell (i:=0) rfl)) ?_;refine aa ?_;refine bV rfl (by simp) ?_;refine aa ?_;refine fH rfl (by simp) ?_;have hM:¬Array.size g1<=h.size:=by omega
 refine aa ?_;refine ic 11 11 ?_;refine ax 0 ?_;refine aS 1 rfl (fun h' e=>aA rfl (e.cell hM (k1.cell (i:=2) rfl))) ?_;refine ax 5 ?_;refine aS 6 rfl (fun h' e=>aA rfl (e.cell hM (k1.cell (i:=3) rfl))) ?_;refine ct 2 rfl (aG rfl (fq (hT.af e1) b (by omega))) ?_;rintro _ g2 ⟨rfl,e2⟩;refine⟨fun _=>e2.of,?_⟩;refine aS 3 rfl (fun h' e=>an.bL rfl rfl (by rw[s1];show 5+_<=_;omega)) ?_;refine aS 4 rfl (fun h' e=>an.bL rfl rfl (by rw[ByteArray.size_append,s1];show 5+_+1<=_;omega)) ?_;refine ct 7 rfl (aG rfl (fq ((hT.af e1).af e2) c (by omega))) ?_;rintro _ g3 ⟨rfl,e3⟩;refine⟨fun _=>e3.of,?_⟩;refine aS 8 rfl (fun h' e=>an.bL rfl rfl (by rw[ByteArray.size_append,ByteArray.size_append,s1,s2];show 5+_+1+_<=_;omega)) ?_;refine aS 9 rfl (fun h' e=>an.bL rfl rfl (by rw[ByteArray.size_append,ByteArray.size_append,ByteArray.size_append,s1,s2];show 5+_+1+_+1<=_;omega)) ?_;refine ax 10 ?_;refine dP ?_;refine aW ?_;exact⟨_,rfl,congrArg Value.string (by rw[s3,s4,s5,bg,bg,bg,bg]),(e1.trans e2).trans e3⟩
theorem ND (h:ai) (a b:UInt8) (t:TypeId):aR .byte (h.push (.cells #[.int .u8 a.toNat,.int .u8 b.toNat] t)) (fun _=>False) (.slice (some ⟨h.size,0,none⟩) 2 2) [a,b] :=
 ⟨_,2,2,rfl,rfl,Nat.le_refl _,by decide,fun i x hx=>by
  match i,hx with
  | 0,hx=>cases hx;exact⟨h.size,0,_,rfl,fun q=>q,fun j v hv=>fJ h [.int .u8 a.toNat,.int .u8 b.toNat] t j v (by match j,hv with| 0,hv=>exact hv),rfl⟩
  | 1,hx=>cases hx;exact⟨h.size,0,[.int .u8 b.toNat],rfl,fun q=>q,fun j v hv=>by
   match j,hv with
   | 0,hv=>cases hv;exact fJ h [.int .u8 a.toNat,.int .u8 b.toNat] t 1 _ rfl,rfl⟩⟩
theorem Mc:∀n:Nat,n<256->IntKind.u8.wrap (Int.tdiv (n:Nat) 16)=((n / 16:Nat):Int)/\Int.tmod (n:Nat) 16=((n%16:Nat):Int):=by decide +kernel
theorem AN (s:By) (hs:s.length<=1000) (b c:Int):aj Tryz.prog 21 #[.agg (jy (1,s,b,c)).toArray] h (aN fun r h'=>r= .string (bs (ew (1,s,b,c)))/\ah h h'):=by
 have hbs:=aC s;unfold ew;rw[if_pos rfl];refine bf ?_;refine aa ?_;refine xo rfl (cM) ?_;rintro _ g1 ⟨rfl,k1,e1,z1⟩;have k1:az g1 h.size 49 (jy (1,s,b,c)):=k1;refine aa ?_;refine xp rfl (aA rfl (k1.cell (i:=0) rfl)) ?_;refine aa ?_;refine fH rfl (by simp) ?_;refine aa ?_;refine xo rfl (cC) ?_;rintro _ g2 ⟨rfl,kb,e2,z2⟩;have kb:az g2 g1.size 63 [.pointer none,.slice none 0 0]:=kb;have hwc:=cO (h:=g2) ⟨#[111,117,116,32]⟩ (nF kb) (by decide);refine aa ?_;refine xo rfl (aG rfl hwc) ?_;rintro _ g3 ⟨rfl,hb3,x3⟩;have k13:=(k1.af e2).ext x3 (by omega);refine aa ?_;refine xp rfl (aA rfl (k13.cell (i:=1) rfl)) ?_;refine aa ?_;refine zB (σ:=Nat) (fun i=>[(1,.pointer (some ⟨h.size,0,none⟩)),(3,.pointer (some ⟨g1.size,0,none⟩)),(12,.int .i64 ((bs s).size:Nat)),(13,.int .i64 (i:Nat))]) (fun i g'=>i<=s.length/\iL g' g1.size 63 5 ([111,117,116,32]++(s.take i).flatMap CD)/\Ext (fun b=>g1.size<=b) g1 g') (fun i=>s.length-i) (0) ⟨Nat.zero_le _,hb3,(e2.mono fun _ _ q=>q.elim).trans (x3.mono fun b _ q=>q)⟩ ?_;rintro i g4 ⟨hi,hb4,x4⟩ ih;have k14:=k1.ext x4 (by omega);refine aI ?_;refine bU ?_;refine aU ?_;refine bJ ?_;refine aI ?_;refine aQ (fun hlt=>?_) (fun hlt=>?_)
 · have hil:i<s.length:=by omega
   obtain⟨x,hx⟩:∃x,s[i]? =some x:=⟨_,List.getElem?_eq_getElem hil⟩
   have hxl:=x.toNat_lt;obtain⟨w1,w2⟩:=Mc x.toNat hxl;have hM:¬Array.size g4<=h.size:=by have:=k14.lt;omega
   have hll:((s.take i).flatMap CD).length<=2000:=by rw[oh,List.length_take];omega
   refine aa ?_;refine uq 15 (fun _=>False) (fun i=>Nat.blt i 14) ?_;refine ax 2 ?_;refine ax 8 ?_;refine RD.bq 0 (listed':= #[true,false,true,false,false,false,false,false,true,false,false,false,false,false,false]) rfl (by kernel_rfl) (by kernel_rfl) (by kernel_rfl) rfl rfl rfl (fun _=>aM (off:=1) underlying49 rfl rfl H.BP rfl) rfl ?_;refine aS 1 rfl (fun h' e=>aA rfl (e.cell (fun q=>q) (k14.cell (i:=1) rfl))) ?_;refine aS 3 rfl (fun h' e=>oK rfl rfl i rfl (cQ hx)) ?_;refine aS 4 rfl (fun h' e=>dh rfl rfl (by decide)) ?_;refine aS 5 rfl (fun h' e=>oK rfl rfl (x.toNat / 16) w1 (cQ (l:=LR) (H9 (by omega)))) ?_;refine RD.bq 6 (listed':= #[true,true,true,true,true,true,true,false,true,false,false,false,false,false,false]) rfl (by kernel_rfl) (by kernel_rfl) (by kernel_rfl) rfl rfl rfl (fun _=>aM (off:=1) underlying49 rfl rfl H.BP rfl) rfl ?_;refine Ip 7 rfl (aA rfl (k14.cell (i:=1) rfl)) ?_;refine RD.bq 9 (listed':= #[true,true,true,true,true,true,true,true,true,true,false,false,false,false,false]) rfl (by kernel_rfl) (by kernel_rfl) (by kernel_rfl) rfl rfl rfl (fun _=>an.sU underlying9 rfl rfl i rfl (cQ hx)) rfl ?_;refine RD.bq 10 (listed':= #[true,true,true,true,true,true,true,true,true,true,true,false,false,false,false]) rfl (by kernel_rfl) (by kernel_rfl) (by kernel_rfl) rfl rfl rfl (fun _=>cI rfl rfl (by decide)) rfl ?_;refine RD.bq 11 (listed':= #[true,true,true,true,true,true,true,true,true,true,true,true,false,false,false]) rfl (by kernel_rfl) (by kernel_rfl) (by kernel_rfl) rfl rfl rfl (fun _=>an.sU underlying9 rfl rfl (x.toNat%16) w2 (cQ (l:=LR) (H9 (by omega)))) rfl ?_;refine ct 12 rfl (kI [_,_]) ?_;rintro _ g5 ⟨rfl,hg5⟩;refine⟨fun _=>by rw[hg5];exact Ext.push _ _ _,?_⟩;refine aS 13 rfl (fun h' e=>Ie rfl ((show aR .byte g5 (fun _=>False) (.slice (some ⟨g4.size,0,none⟩) 2 2) (CD x) by rw[hg5];exact ND g4 _ _ 5).af e)) ?_;have e5:ah g4 g5:=by rw[hg5];exact Ext.push _ _ _
   have hwd:=cO (h:=g5) (bs (CD x)) (iL.af hb4 e5) (by rw[List.length_append,aC];show 4+_+2<=_;omega);refine ct 14 rfl (aG rfl hwd) ?_;rintro _ g6 ⟨rfl,hb6,x6⟩;refine⟨nofun,?_⟩;refine dP ?_;refine aI ?_;refine bU ?_
   iterate 2 refine aU ?_
   refine bJ ?_;exact ih (i+1) ⟨hil,by rw[List.take_add_one,hx,List.flatMap_append,<-List.append_assoc];exact hb6,(x4.trans (e5.mono fun _ _ q=>q.elim)).trans (x6.mono fun b _ q=>q)⟩ (by omega)
 · obtain rfl:i=s.length:=by omega
   rw[List.take_length] at hb4;have hll:(s.flatMap CD).length<=2000:=by rw[oh];omega
   have bl:=jh hb4 (by rw[List.length_append];show 4+_<=_;omega);refine aa ?_;refine xo rfl (aG rfl bl) ?_;rintro _ g5 ⟨rfl,x5⟩;refine xp rfl (an.bL rfl rfl (by show (bs _).size+1<=_;rw[aC,List.length_append];show 4+_+1<=_;omega)) ?_;refine aa ?_;refine aW ?_;exact⟨_,rfl,congrArg Value.string (by rw[show (⟨#[10]⟩:ByteArray)=bs [10] from rfl];exact bg _ _),gC (gC e1 x4 (by omega)) x5 (by omega)⟩
theorem Bl (hT:kY h) (e:Ev) (hm:fM e=true) (hl:e.2.1.length<=1000):aj Tryz.prog 21 #[.agg (jy e).toArray] h (aN fun r h'=>r= .string (bs (ew e))/\ah h h'):=by
 obtain⟨a,s,b,c⟩:=e
 by_cases h1:a=1
 · subst h1;exact AN s hl b c
 · by_cases h2:a=2
   · subst h2;have hm:(decide (s=[]) && fL b c)=true:=hm;rw[Bool.and_eq_true] at hm;have:=of_decide_eq_true hm.2;exact AM hT s (by omega) (by omega)
   · exact AL a s b c h1 h2
def gN (rows cols:Int) (xs:List Ev):By:=[99,97,115,116,32]++Lib.itoa rows++[32]++Lib.itoa cols++[10]++xs.flatMap ew
theorem o6 (e:Ev) (hm:fM e=true) (hl:e.2.1.length<=1000):(ew e).length<=2010:=by
 obtain⟨a,s,b,c⟩:=e;unfold ew;split
 · rw[List.length_append,List.length_append,oh];have hl:s.length<=1000:=hl
   show 4+s.length*2+1<=2010
   omega
 · split
   · rename_i h1 h2;have h2:a=2:=h2;subst h2;have hm:(decide (s=[]) && fL b c)=true:=hm;rw[Bool.and_eq_true] at hm;have hq:=of_decide_eq_true hm.2;have n1:=eV (a:=b) (by omega);have n2:=eV (a:=c) (by omega);rw[List.length_append,List.length_append,List.length_append,List.length_append]
     show 5+(Lib.itoa b).length+1+(Lib.itoa c).length+1<=2010
     omega
   · decide
theorem nw {xs:List Ev}(hm:xs.all fM=true) (hl:∀e∈xs,e.2.1.length<=1000):(xs.flatMap ew).length<=xs.length*2010:=by
 induction xs with
 |nil=>exact Nat.le_refl _
 |cons e r ih =>
  rw[List.all_cons,Bool.and_eq_true] at hm;have h1:=o6 e hm.1 (hl e (List.mem_cons_self ..));have h2:=ih hm.2 fun x hx=>hl x (List.mem_cons_of_mem _ hx)
  rw[List.flatMap_cons,List.length_append,List.length_cons];omega
theorem DP {xs:List Ev}(hv:aR mu h O v xs){rows cols:Int}(hc:iM rows cols xs=false):aj Tryz.prog 7 #[.agg (gL rows cols v).toArray] h (aN fun r h'=>r= .tuple #[.string ⟨#[]⟩,.int .i64 2]/\ah h h'):=by
 obtain⟨va,vn,vc,rfl,hvs⟩:=id hv.open;refine bf ?_;refine aa ?_;refine xo rfl (cM) ?_;rintro _ h1 ⟨rfl,k1,e1,z1⟩;have k1:az h1 h.size 24 (gL rows cols (.slice va vn vc)):=k1;refine aa ?_;refine xp rfl (bI rfl k1.row) ?_;refine xo rfl (aG rfl (iu (hv.af e1) rows cols)) ?_;rintro _ h2 ⟨rfl,e2⟩;rw[hc];refine aa ?_;refine fH rfl (by decide) ?_;refine aa ?_;refine aW ?_;exact⟨_,rfl,rfl,e1.trans e2⟩
theorem sM (hT:kY h){xs:List Ev}(hv:aR mu h O v xs){rows cols:Int}(hc:iM rows cols xs=true) (hl:∀e∈xs,e.2.1.length<=1000) (hn:xs.length<=1000):aj Tryz.prog 7 #[.agg (gL rows cols v).toArray] h (aN fun r h'=>r= .tuple #[.string (bs (gN rows cols xs)),.int .i64 0]/\ah h h'):=by
 obtain⟨va,vn,vc,rfl,hvs⟩:=id hv.open;have hvl:xs.length=vn:=hvs.len;subst hvl;have hch:=hc;unfold iM at hch;rw[Bool.and_eq_true] at hch;obtain⟨hm,hall⟩:=hch;have hm:=of_decide_eq_true hm;have n1:=eV (a:=rows) (by omega);have n2:=eV (a:=cols) (by omega);have s1:=aC (Lib.itoa rows);have s2:=aC (Lib.itoa cols);have s3:(⟨#[99,97,115,116,32]⟩:ByteArray)=bs [99,97,115,116,32]:=rfl;have s4:(⟨#[32]⟩:ByteArray)=bs [32]:=rfl;have s5:(⟨#[10]⟩:ByteArray)=bs [10]:=rfl;have hlen:=nw hall hl;refine bf ?_;refine aa ?_;refine xo rfl (cM) ?_;rintro _ h1 ⟨rfl,k1,e1,z1⟩;have k1:az h1 h.size 24 (gL rows cols (.slice va xs.length vc)):=k1;refine aa ?_;refine xp rfl (bI rfl k1.row) ?_;refine xo rfl (aG rfl (iu (hv.af e1) rows cols)) ?_;rintro _ h2 ⟨rfl,e2⟩;rw[hc];refine aa ?_;refine bV rfl (by decide) ?_;refine aa ?_;refine xo rfl (cC) ?_;rintro _ g1 ⟨rfl,kb,e3,z3⟩;have kb:az g1 h2.size 63 [.pointer none,.slice none 0 0]:=kb;have k1g:=(k1.af e2).af e3;have e13:=(e1.trans e2).trans e3;have hM:¬Array.size h2<=h.size:=by have:=e2.size;omega
 have hst:((((((⟨#[99,97,115,116,32]⟩:ByteArray)++bs (Lib.itoa rows))++⟨#[32]⟩)++bs (Lib.itoa cols))++⟨#[10]⟩):ByteArray)=bs (gN rows cols []):=by
  rw[s3,s4,s5,bg,bg,bg,bg];unfold gN;rw[List.flatMap_nil,List.append_nil]
 have hp0:(gN rows cols []).length<=20:=by
  unfold gN;simp only[List.length_append,List.length_cons,List.length_nil,List.flatMap_nil];omega
 refine aa ?_;refine uq 11 (fun b=>Array.size h2<=b) (fun i=>Nat.blt i 11) ?_;refine ax 0 ?_;refine aS 1 rfl (fun h' e=>aA rfl (e.cell hM (k1g.cell (i:=0) rfl))) ?_;refine ax 5 ?_;refine aS 6 rfl (fun h' e=>aA rfl (e.cell hM (k1g.cell (i:=1) rfl))) ?_;refine ct 2 rfl (aG rfl (fq (hT.af e13) rows (by omega))) ?_;rintro _ g2 ⟨rfl,e4⟩;refine⟨fun _=>e4.of,?_⟩;refine aS 3 rfl (fun h' e=>an.bL rfl rfl (by rw[s1];show 5+_<=_;omega)) ?_;refine aS 4 rfl (fun h' e=>an.bL rfl rfl (by rw[ByteArray.size_append,s1];show 5+_+1<=_;omega)) ?_;refine ct 7 rfl (aG rfl (fq ((hT.af e13).af e4) cols (by omega))) ?_;rintro _ g3 ⟨rfl,e5⟩;refine⟨fun _=>e5.of,?_⟩;refine aS 8 rfl (fun h' e=>an.bL rfl rfl (by rw[ByteArray.size_append,ByteArray.size_append,s1,s2];show 5+_+1+_<=_;omega)) ?_;refine aS 9 rfl (fun h' e=>an.bL rfl rfl (by rw[ByteArray.size_append,ByteArray.size_append,ByteArray.size_append,s1,s2];show 5+_+1+_+1<=_;omega)) ?_;rw[hst];have hwt:=cO (h:=g3) (bs (gN rows cols [])) (iL.af (iL.af (nF kb) e4) e5) (by rw[aC];show 0+_<=_;omega);refine ct 10 rfl (aG rfl hwt) ?_;rintro _ g4 ⟨rfl,hb4,x4⟩;refine⟨fun _=>x4,?_⟩;refine dP ?_;refine aa ?_;rw[zf,List.nil_append] at hb4;have k14:=((k1g.af e4).af e5).ext x4 (by omega);refine xp rfl (aA rfl (k14.cell (i:=2) rfl)) ?_;refine aa ?_;refine eR (σ:=Nat) (fun i=>[(27,.int .i64 (i:Nat))]) (fun i g'=>i<=xs.length/\iL g' h2.size 63 5 (gN rows cols (xs.take i))/\Ext (fun b=>h2.size<=b) h2 g') (fun i=>xs.length-i) (0) ⟨Nat.zero_le _,by rw[List.take_zero];exact hb4,(((e3.trans e4).trans e5).mono fun _ _ q=>q.elim).trans x4⟩ rfl ?_;rintro i g5 ⟨hi,hb5,x5⟩ ih;refine aa ?_;refine aQ (fun hlt=>?_) (fun hlt=>?_)
 · have hil:i<xs.length:=by omega
   have e05:ah h g5:=gC (e1.trans e2) x5 (by omega);obtain⟨b,o,x,ha,_,hx,hrow⟩:=(hvs.mv (Mv.af e05)).fC hil;have hmx:fM x=true:=List.all_eq_true.1 hall x (List.mem_of_getElem? hx);have hlx:=hl x (List.mem_of_getElem? hx);have hll:=nw (xs:=xs.take i) (List.all_eq_true.2 fun y hy=>List.all_eq_true.1 hall y (List.mem_of_mem_take hy)) (fun y hy=>hl y (List.mem_of_mem_take hy));have hlt':(xs.take i).length<=1000:=by rw[List.length_take];omega
   have hcl:=o6 x hmx hlx
   have hpl:(gN rows cols (xs.take i)).length<=3000000:=by
    unfold gN;simp only[List.length_append,List.length_cons,List.length_nil];omega
   iterate 4 refine aI ?_
   refine bU ?_;refine xp rfl (bT rfl rfl i rfl ha) ?_;refine xp rfl (bI rfl hrow) ?_;refine xo rfl (cC) ?_;rintro _ g6 ⟨rfl,k6,e6,z6⟩;refine aY rfl (bM rfl rfl k6 ((Ke x))) ?_;rintro _ g7 ⟨rfl,k7,x7,z7⟩;have e57:ah g5 g7:=ah.only e6 x7 (Nat.le_refl _);have k7:az g7 g5.size 49 (jy x):=k7;refine aa ?_;refine xp rfl (bI rfl k7.row) ?_;refine xo rfl (aG rfl (Bl (hT.af (e05.trans e57)) x hmx hlx)) ?_;rintro _ g8 ⟨rfl,e8⟩;have hwd:=cO (h:=g8) (bs (ew x)) (iL.af (iL.af hb5 e57) e8) (by rw[aC];omega);refine xo rfl (aG rfl hwd) ?_;rintro _ g9 ⟨rfl,hb9,x9⟩;refine aa ?_
   exact ih (i+1) ⟨hil,by
    have hp:gN rows cols (xs.take (i+1))=gN rows cols (xs.take i)++ew x:=by unfold gN;rw[List.take_add_one,hx];simp
    rw[hp];rw[zf] at hb9;exact hb9,(x5.trans ((e57.trans e8).mono fun _ _ q=>q.elim)).trans (x9.mono fun b _ q=>q)⟩ (by omega)
 · obtain rfl:i=xs.length:=by omega
   rw[List.take_length] at hb5
   have hpl:(gN rows cols xs).length<=3000000:=by
    unfold gN;simp only[List.length_append,List.length_cons,List.length_nil];omega
   have bl:=jh hb5 (by omega);refine aa ?_;refine xo rfl (aG rfl bl) ?_;rintro _ g6 ⟨rfl,x6⟩;refine aa ?_;refine aW ?_;exact⟨_,rfl,rfl,gC (gC (e1.trans e2) x5 (by omega)) x6 (by omega)⟩
end
end Go.Proofs.YtckomlgchbkekaaGreatDoor

/- What the proof of the statement leans on (part 20). -/
import Derived.Lib.Split
import Derived.Test.YtoickfdopobmgaaGreatDoorQs

namespace Go.Proofs.YtoickfdopobmgaaGreatDoor
open Go Go.Lw
theorem nh {h:ai}(s:ByteArray) (c:Int):aq Tryz.prog 210 #[.string s,.int .u8 c] h (bw fun r h'=>r= .int .i64 (Lib.indexByte s.data.toList c.toNat.toUInt8)/\h'=h) :=
  aq.qQ fun w=>Tryz.strings_IndexByte s c w
theorem wrap_u8 {i:Int}(h:0<=i/\i<=255):IntKind.u8.wrap i=i:=by
  have h8:(2:Int) ^ 8=256:=rfl;simp only[IntKind.wrap,IntKind.bits,IntKind.signed,h8,Bool.false_and,Bool.false_eq_true,if_false];omega
end Go.Proofs.YtoickfdopobmgaaGreatDoor
namespace Go.Proofs.YtoickfdopobmgaaGreatDoor
open Go.Proofs.Tryz
open Go Go.Lw
set_option maxRecDepth 20000 set_option maxHeartbeats 4000000
section
variable {rb n m d lim:Nat}{h h':ai}{c a:UInt8}{l r:By}{x:Nd}{M:Nat->Prop}
def vG:Value:=.iface 186 (.agg #[])
def EY (c:List PanicEntry):Prop:=c=[{ v:=vG,recovered:=false }]
def St (h:ai) (rb:Nat) (l:By):Prop:=aD h rb 189 [.string (bs l)]
abbrev Du (rb:Nat):Value:=.pointer (some ⟨rb,0,none⟩)
abbrev only (rb:Nat):Nat->Prop:=fun b=>b=rb
def PR {α:Type}(rb:Nat) (h:ai) (p:Option (α×By)) (Φ:α->Value->ai->Prop):Ending->ai->Prop :=
 ES (fun v h'=>∃x r,p=some (x,r)/\Φ x v h'/\St h' rb r/\Ext (only rb) h h') (fun ch h'=>EY ch/\p=none/\Ext (only rb) h h')
theorem dQ {α:Type}{p:Option (α×By)}{Φ:α->Value->ai->Prop}{c:List PanicEntry}(hc:EY c) (hp:p=none) (hx:Ext (only rb) h h'):PR rb h p Φ (.panicked c) h':=⟨hc,hp,hx⟩
theorem Ls {Φ:Value->ai->Prop}{X:List PanicEntry->ai->Prop}{c:List PanicEntry}(k:X c h):ES Φ X (.panicked c) h:=k
theorem St.cell {h:ai}{rb:Nat}{l:By}(k:St h rb l):cellAt h ⟨rb,0,none⟩=some (.string (bs l)):=aD.cell k (i:=0) rfl
theorem St.lt {h:ai}{rb:Nat}{l:By}(k:St h rb l):rb<h.size:=aD.lt k
def HX:By->Option (UInt8×By)| []=>none|c::r=>some (c,r)
theorem jF (h:HX l=none):l=[]:=by cases l with|nil=>rfl|cons c r=>cases h
theorem gm (h:HX l=some (c,r)):l=c::r:=by cases l with|nil=>cases h|cons d t=>cases h;rfl
theorem vJ (hs:St h rb l):aq Tryz.prog 187 #[Du rb] h (bw fun r h'=>r= .int .u8 ((l.head?.getD 0).toNat:Nat)/\h'=h):=by
 refine bL ?_;refine af ?_;refine xp rfl (aA rfl hs.cell) ?_;refine af ?_;refine aR (fun he=>?_) (fun he=>?_)
 · have hl:l=[]:=bl he;subst hl;refine af ?_;refine bp ?_;exact⟨_,rfl,rfl,rfl⟩
 · obtain⟨c,r,rfl⟩:=List.exists_cons_of_ne_nil (fun(e:l=[])=>he (by rw[e];rfl));refine af ?_;refine xp rfl (aA rfl hs.cell) ?_;refine xp rfl (BA rfl rfl 0 rfl (ia rfl)) ?_;refine af ?_;refine bp ?_;exact⟨_,rfl,rfl,rfl⟩
theorem gj (hs:St h rb l) (hl:l.length<=1000000):aq Tryz.prog 188 #[Du rb] h (PR rb h (HX l) fun c v _=>v= .int .u8 (c.toNat:Nat)):=by
 refine bL ?_;refine af ?_;refine xp rfl (aA rfl hs.cell) ?_;refine af ?_;refine aR (fun he=>?_) (fun he=>?_)
 · have hl:l=[]:=bl he;subst hl;refine af ?_;refine xp rfl (av (H.iz ) rfl) ?_;refine af ?_;refine aM rfl (dm (Φ:=fun _ _=>False) rfl (dQ rfl rfl (Ext.refl _ _))) ?_;rintro _ _ hpn;exact hpn.elim
 · obtain⟨c,r,rfl⟩:=List.exists_cons_of_ne_nil (fun(e:l=[])=>he (by rw[e];rfl));have hz:(bs (c::r)).size=r.length+1:=by rw[aG];rfl
   have hd:=oU (c::r) 1;simp only[List.length_cons] at hl;refine af ?_;refine xp rfl (aA rfl hs.cell) ?_;refine xp rfl (BA rfl rfl 0 rfl (ia rfl)) ?_;refine af ?_;refine xp rfl (aA rfl hs.cell) ?_;refine xp rfl (ay.iq underlying9 rfl rfl 1 rfl (by omega)) ?_;refine af ?_;refine aM rfl (mj rfl rfl hs) ?_;rintro _ h1 ⟨rfl,hk,hx,hz1⟩;refine af ?_;refine bp ?_;exact⟨c,r,rfl,rfl,by rw[hd] at hk;exact hk,hx⟩
theorem mF (c:UInt8) (hs:St h rb l) (hl:l.length<=1000000):aq Tryz.prog 144 #[Du rb,.int .u8 (c.toNat:Nat)] h (bw fun v h' =>
 ((l.head? =some c/\v= .bool true/\St h' rb l.tail)\/(l.head? ≠some c/\v= .bool false/\St h' rb l))/\Ext (only rb) h h'):=by
 refine bL ?_;refine aX ?_;refine cD ?_;refine aW ?_;refine cX ?_
 iterate 2 refine aX ?_
 refine fL [(18,.bool (decide (l.head? ≠some c)))] rfl ?_ ?_
 · refine af ?_;refine xp rfl (aA rfl hs.cell) ?_;refine af ?_;refine dG 10 (fun he=>?_) (fun he=>?_)
   · have hl:l=[]:=bl (of_decide_eq_true he);refine af ?_;exact aF rfl ⟨au rfl (by subst hl;simp),sb rfl⟩
   · obtain⟨d,r,rfl⟩:=List.exists_cons_of_ne_nil (fun(e:l=[])=>(of_decide_eq_false he) (by rw[e];rfl));refine af ?_;refine xp rfl (aA rfl hs.cell) ?_;refine xp rfl (BA rfl rfl 0 rfl (ia rfl)) ?_;refine af ?_;exact aF rfl ⟨au rfl (by simp only[List.head?_cons,Option.some.injEq,ne_eq];exact N2 d c),sb rfl⟩
 · refine aR (fun hn=>?_) (fun hn=>?_)
   · refine af ?_;refine bp ?_;exact⟨_,rfl,.inr ⟨hn,rfl,hs⟩,Ext.refl _ _⟩
   · have hn:=Classical.not_not.1 hn;obtain⟨d,r,rfl⟩:=List.exists_cons_of_ne_nil (fun(e:l=[])=>by rw[e] at hn;cases hn);have hz:(bs (d::r)).size=r.length+1:=by rw[aG];rfl
     have hd:=oU (d::r) 1;simp only[List.length_cons] at hl;refine af ?_;refine xp rfl (aA rfl hs.cell) ?_;refine xp rfl (ay.iq underlying9 rfl rfl 1 rfl (by omega)) ?_;refine af ?_;refine aM rfl (mj rfl rfl hs) ?_;rintro _ h1 ⟨rfl,hk,hx,hz1⟩;refine af ?_;refine bp ?_;exact⟨_,rfl,.inl ⟨hn,rfl,by rw[hd] at hk;exact hk⟩,hx⟩
theorem vK (c:UInt8) (hs:St h rb l) (hl:l.length<=1000000):aq Tryz.prog 196 #[Du rb,.int .u8 (c.toNat:Nat)] h (PR rb h (if l.head? =some c then some ((),l.tail) else none) fun _ _ _=>True):=by
 refine bL ?_;refine af ?_;refine xo rfl (aE rfl (mF c hs hl)) ?_;rintro _ h1 ⟨hor,hx⟩
 rcases hor with ⟨h1,rfl,h2⟩|⟨h1,rfl,h2⟩
 · refine af ?_;refine fe rfl (by decide) ?_;refine af ?_;refine Hz ?_;exact⟨(),_,if_pos h1,trivial,h2,hx⟩
 · refine af ?_;refine fF rfl (by decide) ?_;refine af ?_;refine xp rfl (av (H.iz ) rfl) ?_;refine af ?_;refine aM rfl (dm (Φ:=fun _ _=>False) rfl (dQ rfl (if_neg h1) hx)) ?_;rintro _ _ hpn;exact hpn.elim
theorem nF (x:UInt8):aq Tryz.prog 210 #[.string ⟨#[40,41,91,93,124,42,43,63,46,92,45,94]⟩,.int .u8 (x.toNat:Nat)] h (bw fun r h'=>r= .int .i64 (Lib.indexByte fS x)/\h'=h) :=
 (nh _ _).ret fun _ _ ⟨ho,he⟩=>⟨by rw[ho];simp[fS],he⟩
theorem kJ:∀x:UInt8,(0<=Lib.indexByte fS x)↔x∈fS:=by
 have h:∀n:Fin 256,(0<=Lib.indexByte fS (UInt8.ofNat n.val))↔(UInt8.ofNat n.val)∈fS:=by decide +kernel
 intro x;have:=h ⟨x.toNat,x.toNat_lt⟩;simpa using this
def Ba:By:=[48,49,50,51,52,53,54,55,56,57,97,98,99,100,101,102]
theorem A9 (x:UInt8):aq Tryz.prog 210 #[.string ⟨#[48,49,50,51,52,53,54,55,56,57,97,98,99,100,101,102]⟩,.int .u8 (x.toNat:Nat)] h (bw fun r h'=>r= .int .i64 (Lib.indexByte Ba x)/\h'=h) :=
 (nh _ _).ret fun _ _ ⟨ho,he⟩=>⟨by rw[ho];simp[Ba],he⟩
theorem KQ:∀n:Fin 256,IntKind.u8.wrap ((BitVec.ofInt IntKind.u8.bits (n.val:Int) |||BitVec.ofInt IntKind.u8.bits 32).toNat)=(((UInt8.ofNat n.val) ||| 32).toNat:Nat):=by decide +kernel
theorem low (x:UInt8):IntKind.u8.wrap ((BitVec.ofInt IntKind.u8.bits (x.toNat:Int) |||BitVec.ofInt IntKind.u8.bits 32).toNat)=((x ||| 32).toNat:Nat):=by
 have:=KQ ⟨x.toNat,x.toNat_lt⟩;simpa using this
theorem Lh:∀n:Fin 256,mT (UInt8.ofNat n.val)=if Lib.indexByte Ba ((UInt8.ofNat n.val) ||| 32)<0\/n.val<48 then none else some (Lib.indexByte Ba ((UInt8.ofNat n.val) ||| 32)).toNat:=by decide +kernel
theorem Sf (x:UInt8):mT x=if Lib.indexByte Ba (x ||| 32)<0\/x.toNat<48 then none else some (Lib.indexByte Ba (x ||| 32)).toNat:=by
 have:=Lh ⟨x.toNat,x.toNat_lt⟩;simpa using this
theorem G4 {x:UInt8}(h:mT x=some n):n<16:=by
 unfold mT at h;split at h
 · cases h;omega
 · split at h
   · cases h;omega
   · split at h
     · cases h;omega
     · cases h
theorem tP (x:UInt8):aq Tryz.prog 209 #[.int .u8 (x.toNat:Nat)] h (ES (fun v h'=>∃n:Nat,mT x=some n/\n<16/\v= .int .u8 n/\h'=h) (fun ch h'=>EY ch/\mT x=none/\h'=h)):=by
 have hd:=Sf x;refine bL ?_;refine aX ?_;refine cD ?_;refine aW ?_;refine cX ?_;refine aX ?_;refine cD ?_;refine aW ?_;refine xp rfl (ay.Bi rfl rfl) ?_;refine xo rfl (aE rfl ((low x▸A9 (x ||| 32)))) ?_;rintro _ _ ⟨rfl,rfl⟩;refine aW ?_;refine cX ?_
 iterate 2 refine aX ?_
 refine fL [(12,.bool (decide (Lib.indexByte Ba (x ||| 32)<0\/x.toNat<48)))] rfl ?_ ?_
 · refine af ?_;refine dG 9 (fun hg=>?_) (fun hg=>?_)
   · refine af ?_;exact aF rfl ⟨au rfl (by have:=of_decide_eq_true hg;simp[this]),sb rfl⟩
   · refine af ?_;exact aF rfl ⟨au rfl (by have:=of_decide_eq_false hg;simp only[decide_eq_decide];omega),sb rfl⟩
 · refine aR (fun hn=>?_) (fun hn=>?_)
   · rw[if_pos hn] at hd;refine af ?_;refine xp rfl (av (H.iz ) rfl) ?_;refine af ?_;refine aM rfl (dm (Φ:=fun _ _=>False) rfl (Ls ⟨rfl,hd,rfl⟩)) ?_;rintro _ _ hpn;exact hpn.elim
   · rw[if_neg hn] at hd;have h16:=G4 hd;refine af ?_;refine bp ?_;refine⟨_,hd,h16,?_,rfl⟩
     show Value.int .u8 _=_
     congr 1
     have:IntKind.u8.wrap (Lib.indexByte Ba (x ||| 32))=Lib.indexByte Ba (x ||| 32):=wrap_u8 (by omega);rw[this];omega
theorem Jw:∀m n:Fin 16,IntKind.u8.wrap ((BitVec.ofInt IntKind.u8.bits (IntKind.u8.wrap ((m.val:Int)*2 ^ min (4:Int).toNat IntKind.u8.bits)) |||BitVec.ofInt IntKind.u8.bits (n.val:Int)).toNat)=((UInt8.ofNat (m.val*16+n.val)).toNat:Nat):=by decide +kernel
theorem QG (hm:m<16) (hn:n<16):IntKind.u8.wrap ((BitVec.ofInt IntKind.u8.bits (IntKind.u8.wrap ((m:Int)*2 ^ min (4:Int).toNat IntKind.u8.bits)) |||BitVec.ofInt IntKind.u8.bits (n:Int)).toNat)=((UInt8.ofNat (m*16+n)).toNat:Nat):=Jw ⟨m,hm⟩ ⟨n,hn⟩
theorem MZ {x:UInt8}(t:By) (h:mT x=none):rz (120::x::t)=none:=by
 unfold rz;cases t with
 |nil=>rfl
 |cons y t=>simp[h]
theorem pO (hs:St h rb l) (hl:l.length<=1000000):aq Tryz.prog 199 #[Du rb] h (PR rb h (rz l) fun c v _=>v= .int .u8 (c.toNat:Nat)):=by
 refine bL ?_;refine af ?_;refine xo rfl (xV rfl (gj hs hl) ((fun _ _ ⟨hc,hp,hx⟩=>dQ hc (by rw[jF hp];rfl) hx))) ?_;rintro _ h1 ⟨c,r,hp,rfl,hs1,hx1⟩;refine af ?_;obtain rfl:=gm hp;simp only[List.length_cons] at hl;refine aR (fun e1=>?_) (fun e1=>?_)
 · have e1:c=110:=(cT rfl).1 e1;refine af ?_;refine bp ?_;exact⟨10,r,by unfold rz;simp[e1],rfl,hs1,hx1⟩
 · have e1:¬c=110:=fun e=>e1 ((cT rfl).2 e)
   refine af ?_;refine aR (fun e2=>?_) (fun e2=>?_)
   · have e2:c=116:=(cT rfl).1 e2;refine af ?_;refine bp ?_;exact⟨9,r,by unfold rz;simp[e2],rfl,hs1,hx1⟩
   · have e2:¬c=116:=fun e=>e2 ((cT rfl).2 e)
     refine af ?_;refine aR (fun e3=>?_) (fun e3=>?_)
     · have e3:c=114:=(cT rfl).1 e3;refine af ?_;refine bp ?_;exact⟨13,r,by unfold rz;simp[e3],rfl,hs1,hx1⟩
     · have e3:¬c=114:=fun e=>e3 ((cT rfl).2 e)
       refine af ?_;refine aR (fun e4=>?_) (fun e4=>?_)
       · have e4:c=120:=(cT rfl).1 e4;subst e4;refine af ?_;refine xo rfl (xV rfl (gj hs1 (by omega)) ((fun _ _ ⟨hc,hp,hx⟩=>dQ hc (by rw[jF hp];rfl) (hx1.trans hx)))) ?_;rintro _ h2 ⟨x,r2,hp2,rfl,hs2,hx2⟩;refine xo rfl (xV rfl (tP x) ((fun _ h' ⟨hc,hq,hh⟩=>dQ hc (by obtain rfl:=gm hp2;exact MZ _ hq) (by subst hh;exact hx1.trans hx2)))) ?_;rintro _ _ ⟨m,hm,hm16,rfl,rfl⟩;refine aW ?_;refine cX ?_;refine aX ?_;refine cD ?_;refine aW ?_;refine xp rfl (F0 rfl rfl (by omega)) ?_;refine af ?_;obtain rfl:=gm hp2;simp only[List.length_cons] at hl;refine xo rfl (xV rfl (gj hs2 (by omega)) ((fun _ _ ⟨hc,hp,hx⟩=>dQ hc (by rw[jF hp];rfl) ((hx1.trans hx2).trans hx)))) ?_;rintro _ h3 ⟨y,r3,hp3,rfl,hs3,hx3⟩;refine xo rfl (xV rfl (tP y) ((fun _ h' ⟨hc,hq,hh⟩=>dQ hc (by obtain rfl:=gm hp3;unfold rz;simp[hm,hq]) (by subst hh;exact(hx1.trans hx2).trans hx3)))) ?_;rintro _ _ ⟨n,hn,hn16,rfl,rfl⟩;refine xp rfl (ay.Bi rfl rfl) ?_;refine af ?_;obtain rfl:=gm hp3;refine bp ?_;exact⟨UInt8.ofNat (m*16+n),r3,by unfold rz;simp[hm,hn],by show Value.int _ _=_;rw[QG hm16 hn16],hs3,(hx1.trans hx2).trans hx3⟩
       · have e4:¬c=120:=fun e=>e4 ((cT rfl).2 e)
         refine af ?_;refine xo rfl (aE rfl (nF c)) ?_;rintro _ _ ⟨rfl,rfl⟩;refine af ?_;refine aR (fun e5=>?_) (fun e5=>?_)
         · have e5:=(kJ c).1 e5;refine af ?_;refine bp ?_;exact⟨c,r,by unfold rz;simp[e1,e2,e3,e4,e5],rfl,hs1,hx1⟩
         · have e5:¬c∈fS:=fun e=>e5 ((kJ c).2 e)
           refine af ?_;refine xp rfl (av (H.iz ) rfl) ?_;refine af ?_;refine aM rfl (dm (Φ:=fun _ _=>False) rfl (dQ rfl (by unfold rz;simp[e1,e2,e3,e4,e5]) hx1)) ?_;rintro _ _ hpn;exact hpn.elim
theorem qV (hs:St h rb l) (hl:l.length<=1000000):aq Tryz.prog 208 #[Du rb] h (PR rb h (qe l) fun c v _=>v= .int .u8 (c.toNat:Nat)):=by
 refine bL ?_;refine af ?_;refine xo rfl (xV rfl (gj hs hl) ((fun _ _ ⟨hc,hp,hx⟩=>dQ hc (by rw[jF hp];rfl) hx))) ?_;rintro _ h1 ⟨c,r,hp,rfl,hs1,hx1⟩;refine af ?_;obtain rfl:=gm hp;simp only[List.length_cons] at hl;refine aR (fun e1=>?_) (fun e1=>?_)
 · have e1:c=92:=(cT rfl).1 e1;refine af ?_;refine xo rfl (xV rfl (pO hs1 (by omega)) ((fun _ _ ⟨hc,hp,hx⟩=>dQ hc (by unfold qe;simp[e1,hp]) (hx1.trans hx)))) ?_;rintro _ h2 ⟨d,r2,hp2,rfl,hs2,hx2⟩;refine af ?_;refine bp ?_;exact⟨d,r2,by unfold qe;simp[e1,hp2],rfl,hs2,hx1.trans hx2⟩
 · have e1:¬c=92:=fun e=>e1 ((cT rfl).2 e)
   refine af ?_;refine xo rfl (aE rfl (nF c)) ?_;rintro _ _ ⟨rfl,rfl⟩;refine af ?_;refine aR (fun e5=>?_) (fun e5=>?_)
   · have e5:=(kJ c).1 e5;refine af ?_;refine xp rfl (av (H.iz ) rfl) ?_;refine af ?_;refine aM rfl (dm (Φ:=fun _ _=>False) rfl (dQ rfl (by unfold qe;simp[e1,e5]) hx1)) ?_;rintro _ _ hpn;exact hpn.elim
   · have e5:¬c∈fS:=fun e=>e5 ((kJ c).2 e)
     refine af ?_;refine bp ?_;exact⟨c,r,by unfold qe;simp[e1,e5],rfl,hs1,hx1⟩
theorem IX (k s:Nat) (v:Value) (i:Nat) (hi:i<256):(dK k s v).set (1+i / 64*1) (.int .u64 ((DG s (i / 64) ||| 2 ^ (i%64):Nat):Int))=dK k (s |||(1 <<< i)) v:=by
 have h4:i / 64<4:=by omega
 have hw:=HE s i;have hs:∀q,q≠i / 64->eM (s |||(1 <<< i)) q=eM s q:=fun q hq=>by unfold eM;rw[HF s i q hq]
 have he:eM (s |||(1 <<< i)) (i / 64)= .int .u64 ((DG s (i / 64) ||| 2 ^ (i%64):Nat):Int):=by unfold eM;rw[hw]
 rw[<-he];generalize i / 64=q at *;unfold dK
 match q,h4 with
 | 0,_=>rw[hs 1 (by decide),hs 2 (by decide),hs 3 (by decide)];rfl
 | 1,_=>rw[hs 0 (by decide),hs 2 (by decide),hs 3 (by decide)];rfl
 | 2,_=>rw[hs 0 (by decide),hs 1 (by decide),hs 3 (by decide)];rfl
 | 3,_=>rw[hs 0 (by decide),hs 1 (by decide),hs 2 (by decide)];rfl
theorem IW (k s:Nat) (v:Value) (q:Nat) (hq:q<4):(dK k s v)[1+q*1]? =some (eM s q):=by
 match q,hq with
 | 0,_=>rfl
 | 1,_=>rfl
 | 2,_=>rfl
 | 3,_=>rfl
theorem MQ {w i:Nat}(hw:w<18446744073709551616):IntKind.u64.wrap ((BitVec.ofInt IntKind.u64.bits (w:Int) |||BitVec.ofInt IntKind.u64.bits (IntKind.u64.wrap (1*2 ^ min (((i:Int)).tmod 64).toNat IntKind.u64.bits))).toNat:Int)=((w ||| 2 ^ (i%64):Nat):Int):=by
 have h1:((i:Int)).tmod 64=((i%64:Nat):Int):=by rw[Int.tmod_eq_emod_of_nonneg (by omega)];omega
 have hb:i%64<64:=Nat.mod_lt _ (by decide);have h2:2 ^ (i%64)<2 ^ 64:=Nat.pow_lt_pow_right (by decide) hb;rw[h1,Om,Qy hw h2]
theorem DS (s i n:Nat) (h:0<n):yQ s i n=yQ (s |||(1 <<< i)) (i+1) (n-1):=by
 cases n with
 |zero=>omega
 |succ n=>rfl
theorem ij {nb k s:Nat}{v:Value}(hk:aD h nb 126 (dK k s v)) (a b:UInt8):aq Tryz.prog 198 #[.pointer (some ⟨nb,1,none⟩),.int .u8 (a.toNat:Nat),.int .u8 (b.toNat:Nat)] h (bw fun _ h' =>
 aD h' nb 126 (dK k (pz s a b) v)/\Ext (only nb) h h'):=by
 have ha:=a.toNat_lt;have hb:=b.toNat_lt;refine bL ?_;refine aX ?_;refine cD ?_;refine aW ?_;refine xp rfl (Qb rfl (wrap_i64 ⟨by omega,by omega⟩)) ?_;refine af ?_;refine gY (σ:=Nat×Nat) (fun q=>[(6,.int .i64 (q.1:Nat))]) (fun q h'=>aD h' nb 126 (dK k q.2 v)/\Ext (only nb) h h'/\q.1<=256/\yQ q.2 q.1 (b.toNat+1-q.1)=pz s a b) (fun q=>b.toNat+1-q.1) ((a.toNat,s)) ⟨hk,Ext.refl _ _,by show a.toNat<=256;omega,rfl⟩ rfl ?_;rintro⟨i,s'⟩ h1 ⟨hk1,hx1,hi,hsp⟩ ih
 try dsimp only
 dsimp only at hk1 hi hsp
 iterate 2 refine aX ?_
 refine cD ?_
 iterate 2 refine aW ?_
 refine xp rfl (Qb rfl (wrap_i64 ⟨by omega,by omega⟩)) ?_;refine af ?_;refine aR (fun hle=>?_) (fun hle=>?_)
 · have hi255:i<=b.toNat:=by omega
   rw[DS _ _ _ (by omega)] at hsp;have hq:i / 64<4:=by omega
   have hdiv:IntKind.i64.wrap (((i:Int)).tdiv 64)=((i / 64:Nat):Int):=by
    rw[Int.tdiv_eq_ediv_of_nonneg (by omega),wrap_i64 ⟨by omega,by omega⟩];omega
   have hw:=DF s' (i / 64);have hset:=IX k s' v i (by omega);have hk1':aD h1 nb 126 [.int .i64 k,eM s' 0,eM s' 1,eM s' 2,eM s' 3,v]:=hk1;refine af ?_;refine LR 13 12 ?_;refine aI 0 ?_;refine aI 1 ?_;refine bI 2 rfl (fun h' e=>kU rfl rfl (by decide)) ?_;refine aI 3 ?_;refine bI 4 rfl (fun h' e=>zW rfl rfl (i / 64) hdiv hq) ?_;refine bI 5 rfl (fun h' e=>aA rfl (e.old (hk1.cell (IW k s' v _ hq)))) ?_;refine aI 6 ?_;refine bI 7 rfl (fun h' e=>kT rfl rfl (by decide)) ?_;refine bI 8 rfl (fun h' e=>F0 rfl rfl (by rw[Int.tmod_eq_emod_of_nonneg (by omega)];omega)) ?_;refine bI 9 rfl (fun h' e=>ay.Bi rfl rfl) ?_;refine LS 10 ?_;refine bI 11 rfl (fun h' e=>zW rfl rfl (i / 64) hdiv hq) ?_;refine kX 12 rfl (mj rfl rfl hk1') ?_;rintro _ h2 ⟨rfl,hk2,hx2,hz2⟩;refine⟨nofun,?_⟩;refine iT ?_;refine af ?_;rw[MQ hw,show [.int .i64 (k:Int),eM s' 0,eM s' 1,eM s' 2,eM s' 3,v]=dK k s' v from rfl,hset] at hk2;exact ih (i+1,s' |||(1 <<< i)) ⟨hk2,hx1.trans hx2,by show i+1<=256;omega,by show yQ _ (i+1) (b.toNat+1-(i+1))=_;rw[<-hsp];rfl⟩
 · have h0:b.toNat+1-i=0:=by omega
   rw[h0] at hsp;refine af ?_;refine Hz ?_;exact⟨_,rfl,by rw[<-hsp];exact hk1,hx1⟩
theorem G5 (s:Nat) (b:UInt8):aq Tryz.prog 106 #[.agg (wT s).toArray,.int .u8 (b.toNat:Nat)] h (bw fun r h'=>r= .bool (s.testBit b.toNat)/\aj h h'):=by
 have hb:=b.toNat_lt;have hq:b.toNat / 64<4:=by omega
 have hdiv:IntKind.u8.wrap (((b.toNat:Int)).tdiv 64)=((b.toNat / 64:Nat):Int):=by
  rw[Int.tdiv_eq_ediv_of_nonneg (by omega),wrap_u8 (by omega)];omega
 have hmod:((b.toNat:Int)).tmod 64=((b.toNat%64:Nat):Int):=by rw[Int.tmod_eq_emod_of_nonneg (by omega)];omega
 have hm64:b.toNat%64<64:=Nat.mod_lt _ (by decide)
 have hword:∀q,q<4->(wT s)[0+q*1]? =some (eM s q):=fun q hq=>by
  match q,hq with
  | 0,_=>rfl
  | 1,_=>rfl
  | 2,_=>rfl
  | 3,_=>rfl
 refine bL ?_;refine af ?_;refine xo rfl (jj) ?_;rintro _ h1 ⟨rfl,hk,he,hz⟩;refine aW ?_;refine cX ?_;refine aX ?_;refine cD ?_;refine aW ?_;refine xp rfl (kU rfl rfl (by decide)) ?_;have hk:aD h1 h.size 123 (wT s):=hk;refine xp rfl (zW rfl rfl (b.toNat / 64) hdiv hq) ?_;refine xp rfl (aA rfl (hk.cell (hword _ hq))) ?_;refine aW ?_;refine xp rfl (kT rfl rfl (by decide)) ?_;refine xp rfl (Lx rfl rfl (by rw[hmod];omega)) ?_;refine xp rfl (ay.JY rfl rfl) ?_;refine af ?_;refine bp ?_;refine⟨_,rfl,?_,he⟩;rw[hmod,Ol _ _ hm64,QM (Nat.lt_of_le_of_lt (Nat.shiftRight_le _ _) (DF s _)),Kx];cases s.testBit b.toNat<;>rfl
theorem kF.only {h0:ai}{g:Nat}(e:Ext M h0 h) (x:Ext (fun b=>b=g) h h') (hg:h0.size<=g):Ext M h0 h' :=
 ⟨Nat.le_trans e.size x.size,fun b hb hm=>by rw[x.block b (Nat.lt_of_lt_of_le hb e.size) (by omega)];exact e.block b hb hm⟩
theorem kF.ah {h0:ai}(e:Ext M h0 h) (x:aj h h'):Ext M h0 h':=e.trans (aj.of x)
theorem u9:∀(n m acc:Nat) (s:By),s.length<n->s.length<m->ng n acc s=ng m acc s
 | 0,_,_,_,h,_=>by omega
 |_,0,_,_,_,h=>by omega
 |n+1,m+1,acc,s,hn,hm=>by
  rw[ng,ng];cases hf:eY s with
  |none=>rfl
  |some p =>
   obtain⟨⟨a,b⟩,r⟩:=p;have hlen:=nV hf;simp only;split
   · rfl
   · exact u9 n m _ _ (by omega) (by omega)
def pP (first:Bool) (acc:Nat) (l:By):Option (Nat×By):=if first=false/\l.head? =some 93 then some (acc,l.tail) else ng (l.length+1) acc l
theorem qq {first:Bool}{acc:Nat}(h:¬(first=false/\l.head? =some 93)) (hf:eY l=none):pP first acc l=none:=by
 unfold pP;rw[if_neg h,ng,hf]
theorem wX {first:Bool}{acc:Nat}{b:UInt8}(h:¬(first=false/\l.head? =some 93)) (hf:eY l=some ((a,b),r)):pP first acc l=pP false (pz acc a b) r:=by
 have hlen:=nV hf;unfold pP;rw[if_neg h,ng,hf];simp only[true_and];split
 · simp
 · rename_i hne
   rw[if_neg (fun e=>by
    cases r with
    |nil=>cases e
    |cons c t=>simp at e;subst e;exact hne t rfl)]
   exact u9 _ _ _ _ (by omega) (by omega)
theorem OQ (h:qe l=none):eY l=none:=by unfold eY;rw[h]
theorem OP (h:qe l=some (a,r)) (hr:r.head? ≠some 45):eY l=some ((a,a),r):=by
 unfold eY;rw[h];simp only;split
 · exact absurd rfl hr
 · rfl
theorem OO (h:qe l=some (a,r)) (hr:r.head? =some 45) (hb:qe r.tail=none):eY l=none:=by
 unfold eY;rw[h];cases r with
 |nil=>cases hr
 |cons c t=>simp at hr;subst hr;simp at hb;simp[hb]
theorem ON {r':By}{b:UInt8}(h:qe l=some (a,r)) (hr:r.head? =some 45) (hb:qe r.tail=some (b,r')):eY l=if b.toNat<a.toNat then none else some ((a,b),r'):=by
 unfold eY;rw[h];cases r with
 |nil=>cases hr
 |cons c t=>simp at hr;subst hr;simp at hb;simp[hb]
theorem yz (l:By):iQ l=(pP true 0 (if l.head? =some 94 then l.tail else l)).map fun p=>(.mk 1 (if l.head? =some 94 then nP p.1 else p.1) [],p.2):=by
 unfold iQ pP;split
 · simp
 · rename_i hne
   have h1:l.head? ≠some 94:=fun e=>by
    cases l with
    |nil=>cases e
    |cons c t=>simp at e;subst e;exact hne t rfl
   simp[h1]
theorem Kw (s q:Nat) (hq:q<4):DG (nP s) q=18446744073709551615 ^^^ DG s q:=by
 apply Nat.eq_of_testBit_eq
 intro i;rw[mq,Nat.testBit_xor,mq];unfold nP;rw[Nat.testBit_xor,show Kc=2 ^ 256-1 from rfl,Nat.testBit_two_pow_sub_one,show (18446744073709551615:Nat)=2 ^ 64-1 from rfl,Nat.testBit_two_pow_sub_one]
 by_cases hi:i<64
 · have:64*q+i<256:=by omega
   simp[hi,this]
 · simp[hi]
theorem NW {x:Nat}(hx:x<18446744073709551616):IntKind.u64.wrap ((BitVec.ofInt IntKind.u64.bits (if IntKind.u64.signed then -1 else IntKind.u64.max) ^^^ BitVec.ofInt IntKind.u64.bits (x:Int)).toNat:Int)=((18446744073709551615 ^^^ x:Nat):Int):=by
 have e:(BitVec.ofInt IntKind.u64.bits (if IntKind.u64.signed then -1 else IntKind.u64.max) ^^^ BitVec.ofInt IntKind.u64.bits (x:Int)).toNat=18446744073709551615 ^^^ x:=by
  rw[BitVec.toNat_xor]
  have h1:(BitVec.ofInt IntKind.u64.bits (x:Int)).toNat=x:=by
   show (BitVec.ofInt 64 (x:Int)).toNat=x
   simp only[BitVec.toNat_ofInt];omega
  rw[h1];rfl
 rw[e];have:18446744073709551615 ^^^ x<2 ^ 64:=Nat.xor_lt_two_pow (by decide) hx;exact oH ⟨by omega,by omega⟩
def Cr (s q i:Nat):Value:=if i<q then eM (nP s) i else eM s i
def MU (s q:Nat):List Value:=[.int .i64 1,Cr s q 0,Cr s q 1,Cr s q 2,Cr s q 3,.slice none 0 0]
theorem IV (s q:Nat) (hq:q<4):(MU s q)[1+q*1]? =some (eM s q):=by
 match q,hq with
 | 0,_=>rfl
 | 1,_=>rfl
 | 2,_=>rfl
 | 3,_=>rfl
theorem KO (s q:Nat) (hq:q<4):(MU s q).set (1+q*1) (.int .u64 ((18446744073709551615 ^^^ DG s q:Nat):Int))=MU s (q+1):=by
 rw[<-Kw s q hq]
 match q,hq with
 | 0,_=>rfl
 | 1,_=>rfl
 | 2,_=>rfl
 | 3,_=>rfl
abbrev FT (n:Nat):Nat->Prop:=fun b=>b<n
def ET (n:Nat) (x:Nd) (v:Value) (h':ai):Prop:=∃w,v= .agg (dK x.kind x.set w).toArray/\bE h' (FT n) (dK x.kind x.set w) x
theorem fJ (h:ai) (O:Nat->Prop) (k s:Nat):bE h O (dK k s (.slice none 0 0)) (.mk k s []):=.of k s (aT.nil _ _ _)
theorem yy (hs:St h rb l) (hl:l.length<=1000000):aq Tryz.prog 197 #[Du rb] h (PR rb h (iQ l) (ET h.size)):=by
 have hlt:=hs.lt;have hbr:=yz l;refine bL ?_;refine af ?_;refine xo rfl (cO) ?_;rintro _ h1 ⟨rfl,hkr,he1,hz1⟩;refine af ?_;refine xp rfl (av (H.FV _) rfl) ?_;refine xo rfl (cO) ?_;rintro _ h2 ⟨rfl,hk2,he2,hz2⟩;refine aM rfl (aY rfl rfl hk2) ?_;rintro _ h3 ⟨rfl,hk3,hx3,hz3⟩;have hk3:aD h3 h1.size 126 (dK 1 0 (.slice none 0 0)):=hk3;have hkr:aD h1 h.size 126 (dK 0 0 (.slice none 0 0)):=hkr;have e3:aj h h3:=aj.only (he1.trans he2) hx3 (by omega);have hkr3:aD h3 h.size 126 (dK 0 0 (.slice none 0 0)):=(hkr.ah he2).ext hx3 (by show ¬_=_;omega);have hs3:St h3 rb l:=aD.ah hs e3;refine af ?_;refine xo rfl (aE rfl (mF 94 hs3 hl)) ?_;rintro _ h4 ⟨hor,hx4⟩
 obtain⟨nt,l1,rfl,hnt,hl1,hs4⟩:∃(nt:Bool) (l1:By),_=Value.bool nt/\nt=decide (l.head? =some 94)/\l1=(if l.head? =some 94 then l.tail else l)/\St h4 rb l1:=by
  rcases hor with ⟨a1,a2,a3⟩|⟨a1,a2,a3⟩
  · exact⟨true,_,a2,by simp[a1],by rw[if_pos a1],a3⟩
  · exact⟨false,_,a2,by simp[a1],by rw[if_neg a1],a3⟩
 rw[<-hl1] at hbr;have hl1l:l1.length<=1000000:=by rw[hl1];split;(have:l.tail.length<=l.length:=by simp);omega;exact hl
 have hkr4:=hkr3.ext hx4 (by show ¬_=_;omega);have hk4:=hk3.ext hx4 (by show ¬_=_;omega);have e4:Ext (only rb) h h4:=(aj.of e3).trans hx4;have hz4:=hx4.size;generalize htg:pP true 0 l1=tgt at hbr;refine af ?_;refine gY (σ:=Bool×Nat×By) (fun q=>[(5,.bool q.1)]) (fun q h'=>St h' rb q.2.2/\aD h' h1.size 126 (dK 1 q.2.1 (.slice none 0 0))/\aD h' h.size 126 (dK 0 0 (.slice none 0 0))/\Ext (only rb) h h'/\q.2.2.length<=1000000/\pP q.1 q.2.1 q.2.2=tgt) (fun q=>q.2.2.length) ((true,0,l1)) ⟨hs4,hk4,hkr4,e4,hl1l,htg⟩ rfl ?_;rintro⟨first,acc,m⟩ h5 ⟨hs5,hk5,hkr5,e5,hm,hcon⟩ ih
 try dsimp only
 dsimp only at hs5 hk5 hm hcon
 iterate 2 refine aX ?_
 refine fL [(17,.bool (decide (¬(first=false/\m.head? =some 93))))] rfl ?_ ?_
 · refine af ?_;refine dG 13 (fun hf=>?_) (fun hf=>?_)
   · refine af ?_;exact aF rfl ⟨au rfl (by simp[hf]),sb rfl⟩
   · refine af ?_;refine xo rfl (aE rfl (vJ hs5)) ?_;rintro _ _ ⟨rfl,rfl⟩;refine af ?_;exact aF rfl ⟨au rfl (by cases m with|nil=>simp|cons c t=>simp only[hf,List.head?_cons,Option.getD_some,Option.some.injEq,true_and];exact decide_eq_decide.2 (not_congr (cT rfl))),sb rfl⟩
 · refine aR (fun hgo=>?_) (fun hgo=>?_)
   · refine af ?_;refine xo rfl (xV rfl (qV hs5 hm) ((fun _ _ ⟨hc,hp,hx⟩=>dQ hc (by rw[hbr,<-hcon,qq hgo (OQ hp)];rfl) (e5.trans hx)))) ?_;rintro _ h6 ⟨a,r,ha,rfl,hs6,hx6⟩;have hrl:=qW ha;have hk6:=hk5.ext hx6 (by show ¬_=_;omega);have hkr6:=hkr5.ext hx6 (by show ¬_=_;omega);have e6:=e5.trans hx6;refine af ?_;refine xo rfl (aE rfl (mF 45 hs6 (by omega))) ?_;rintro _ h7 ⟨hor7,hx7⟩;have hk7:=hk6.ext hx7 (by show ¬_=_;omega);have hkr7:=hkr6.ext hx7 (by show ¬_=_;omega);have e7:=e6.trans hx7
     rcases hor7 with ⟨a1,rfl,hs7⟩|⟨a1,rfl,hs7⟩
     · have htl:r.tail.length<=r.length:=by simp
       refine af ?_;refine fF rfl (by decide) ?_;refine af ?_;refine xo rfl (xV rfl (qV hs7 (by omega)) ((fun _ _ ⟨hc,hp,hx⟩=>dQ hc (by rw[hbr,<-hcon,qq hgo (OO ha a1 hp)];rfl) (e7.trans hx)))) ?_;rintro _ h8 ⟨b,r8,hb,rfl,hs8,hx8⟩;have hbl:=qW hb;have hk8:=hk7.ext hx8 (by show ¬_=_;omega);have hkr8:=hkr7.ext hx8 (by show ¬_=_;omega);have e8:=e7.trans hx8;have hf4:=ON ha a1 hb;refine af ?_;refine aR (fun hlow=>?_) (fun hlow=>?_)
       · rw[if_pos (by omega)] at hf4;refine af ?_;refine xp rfl (av (H.iz ) rfl) ?_;refine af ?_;refine aM rfl (dm (Φ:=fun _ _=>False) rfl (dQ rfl (by rw[hbr,<-hcon,qq hgo hf4];rfl) e8)) ?_;rintro _ _ hpn;exact hpn.elim
       · rw[if_neg (by omega)] at hf4;refine af ?_;refine xo rfl (aE rfl (ij hk8 a b)) ?_;rintro _ h9 ⟨hk9,hx9⟩;refine af ?_;have hsp:=wX (acc:=acc) hgo hf4;exact ih (false,pz acc a b,r8) ⟨aD.ext hs8 hx9 (by show ¬_=_;omega),hk9,hkr8.ext hx9 (by show ¬_=_;omega),kF.only e8 hx9 (by omega),by show r8.length<=_;omega,by rw[<-hcon,hsp]⟩
     · have hf2:=OP ha a1;refine af ?_;refine fe rfl (by decide) ?_;refine af ?_;refine fe rfl (by simp) ?_;refine af ?_;refine xo rfl (aE rfl (ij hk7 a a)) ?_;rintro _ h9 ⟨hk9,hx9⟩;refine af ?_;have hsp:=wX (acc:=acc) hgo hf2;exact ih (false,pz acc a a,r) ⟨aD.ext hs7 hx9 (by show ¬_=_;omega),hk9,hkr7.ext hx9 (by show ¬_=_;omega),kF.only e7 hx9 (by omega),by show r.length<=_;omega,by rw[<-hcon,hsp]⟩
   · have hgo:=Classical.not_not.1 hgo;have htgt:tgt=some (acc,m.tail):=by rw[<-hcon];unfold pP;rw[if_pos hgo]
     refine af ?_;refine xo rfl (xV rfl (vK 93 hs5 hm) ((fun _ _ ⟨hc,hp,hx⟩=>absurd hp (by rw[if_pos hgo.2];simp)))) ?_;rintro _ h6 ⟨_,r,hp,_,hs6,hx6⟩;refine af ?_;rw[if_pos hgo.2] at hp;cases hp;have hk6:=hk5.ext hx6 (by show ¬_=_;omega);have hkr6:=hkr5.ext hx6 (by show ¬_=_;omega);have e6:=e5.trans hx6;have hk6:aD h6 h1.size 126 (MU acc 0):=hk6;refine gY (σ:=Nat) (fun q=>[(36,.int .i64 (q:Nat))]) (fun q h'=>q<=4/\St h' rb m.tail/\aD h' h1.size 126 (MU acc (if nt then q else 0))/\aD h' h.size 126 (dK 0 0 (.slice none 0 0))/\Ext (only rb) h h') (fun q=>4-q) (0) ⟨by omega,hs6,by cases nt<;>exact hk6,hkr6,e6⟩ rfl ?_;rintro q h7 ⟨hq,hs7,hk7,hkr7,e7⟩ ih;refine af ?_;refine aR (fun hq4=>?_) (fun hq4=>?_)
     · have hq4':q<4:=by omega
       refine af ?_;refine iM (fun hb=>?_) (fun hb=>?_)
       · rw[if_pos hb] at hk7;have hk7':aD h7 h1.size 126 [.int .i64 1,Cr acc q 0,Cr acc q 1,Cr acc q 2,Cr acc q 3,.slice none 0 0]:=hk7;refine cD ?_
         iterate 3 refine aW ?_
         refine xp rfl (zW rfl rfl q rfl hq4') ?_;refine xp rfl (aA rfl (hk7.cell (IV acc q hq4'))) ?_;refine xp rfl (ay.OV rfl) ?_;refine aW ?_;refine xp rfl (zW rfl rfl q rfl hq4') ?_;refine aM rfl (mj rfl rfl hk7') ?_;rintro _ h8 ⟨rfl,hk8,hx8,hz8⟩;refine af ?_;have hk8:aD h8 h1.size 126 (MU acc (q+1)):=by rw[<-KO acc q hq4',<-NW (DF acc q)];exact hk8
         exact ih (q+1) ⟨by omega,aD.ext hs7 hx8 (by show ¬_=_;omega),by rw[if_pos hb];exact hk8,hkr7.ext hx8 (by show ¬_=_;omega),kF.only e7 hx8 (by omega)⟩
       · rw[if_neg (by rw[hb];decide)] at hk7;refine af ?_;exact ih (q+1) ⟨by omega,hs7,by rw[if_neg (by rw[hb];decide)];exact hk7,hkr7,e7⟩
     · obtain rfl:q=4:=by omega
       have hfin:MU acc (if nt then 4 else 0)=dK 1 (if l.head? =some 94 then nP acc else acc) (.slice none 0 0):=by
        subst hnt
        by_cases hd:l.head? =some 94<;>simp[hd]<;>rfl
       rw[hfin] at hk7;have hbr2:iQ l=some (.mk 1 (if l.head? =some 94 then nP acc else acc) [],m.tail):=by rw[hbr,htgt];rfl
       generalize (if l.head? =some 94 then nP acc else acc)=fs at hk7 hbr2;refine af ?_;refine xp rfl (bY rfl hk7.row) ?_;refine aM rfl (aY rfl rfl hkr7 (bE.one (fJ h7 (only rb) 1 fs))) ?_;rintro _ h8 ⟨rfl,hk8,hx8,hz8⟩;refine af ?_;have hk8:aD h8 h.size 126 (dK 1 fs (.slice none 0 0)):=hk8;refine ct (cj rfl hk8.row cq) ?_;exact⟨_,m.tail,hbr2,⟨_,rfl,fJ _ _ _ _⟩,aD.ext hs7 hx8 (by show ¬_=_;omega),kF.only e7 hx8 (Nat.le_refl _)⟩
theorem gX {cs:List Value}(k:bE h (FT m) cs x) (hn:n<=m) (e:Ext M h h') (hM:∀b,b<h.size->M b->b<m):bE h' (FT n) cs x :=
 k.mv (Mv.cx e fun b hb ho=>⟨fun hm=>ho (hM b hb hm),fun k=>ho (Nat.lt_of_lt_of_le k hn)⟩)
theorem IL {cs ds:List Value}(h:cs.length=ds.length):over cs 0 ds=ds:=by
 unfold over;rw[List.drop_of_length_le (by omega)];simp
theorem ri {O:Nat->Prop}{v:Value}{xs:List Nd}(kind:Nat) (hv:aT tK h O v xs):aq Tryz.prog 145 #[.int .i64 (kind:Nat),v] h (bw fun r h'=>(∃w,r= .agg (dK (bT kind xs).kind (bT kind xs).set w).toArray/\bE h' O (dK (bT kind xs).kind (bT kind xs).set w) (bT kind xs))/\aj h h'):=by
 obtain⟨oa,n,c,rfl,hsl⟩:=hv.open;have hn:=hsl.len;refine bL ?_;refine af ?_;refine xo rfl (cO) ?_;rintro _ h1 ⟨rfl,hk,he,hz⟩;refine af ?_;have hk:aD h1 h.size 126 (dK 0 0 (.slice none 0 0)):=hk;have hsl1:=hsl.mv (Mv.ah he);have hv1:=hv.ah he;refine aR (fun e0=>?_) (fun e0=>?_)
 · obtain rfl:n=0:=by omega
   have hx:xs=[]:=List.eq_nil_of_length_eq_zero hn;subst hx;refine af ?_;refine xp rfl (av (H.EN ) rfl) ?_;refine aM rfl (aY rfl rfl hk) ?_;rintro _ h2 ⟨rfl,hk2,hx2,hz2⟩;refine af ?_;have hk2:aD h2 h.size 126 (dK 0 0 (.slice none 0 0)):=hk2;refine ct (cj rfl hk2.row cq) ?_;exact⟨_,rfl,⟨_,rfl,fJ _ _ 0 0⟩,aj.only he hx2 (Nat.le_refl _)⟩
 · refine af ?_;refine aR (fun e1=>?_) (fun e1=>?_)
   · obtain rfl:n=1:=by omega
     obtain⟨x,rfl⟩:=List.length_eq_one_iff.1 hn;obtain⟨b,o,cs,ha,ho,hr,hR⟩:=hsl.get 0 x rfl;have hr:=he.rowAt (fun k=>k) hr;obtain⟨w,rfl,hw⟩:=bE.open hR;refine aX ?_;refine cD ?_;refine aW ?_;refine xp rfl (cz rfl rfl 0 rfl ha (by decide)) ?_;refine xp rfl (bY rfl hr) ?_;refine aM rfl (aY rfl rfl hk (tK.one hR)) ?_;rintro _ h2 ⟨rfl,hk2,hx2,hz2⟩;refine af ?_;have hk2:aD h2 h.size 126 (dK x.kind x.set w):=hk2;refine ct (cj rfl hk2.row cq) ?_;exact⟨_,rfl,⟨w,rfl,bE.ah hR (aj.only he hx2 (Nat.le_refl _))⟩,aj.only he hx2 (Nat.le_refl _)⟩
   · refine af ?_;refine xp rfl (av (H.sE _ _ _ _) rfl) ?_;refine aM rfl (aY rfl rfl hk) ?_;rintro _ h2 ⟨rfl,hk2,hx2,hz2⟩;refine af ?_;have hk2:aD h2 h.size 126 (dK kind 0 (.slice oa n c)):=hk2;refine ct (cj rfl hk2.row cq) ?_
     have hj:bT kind xs= .mk kind 0 xs:=by
      unfold bT;split
      · simp at hn;omega
      · simp at hn;omega
      · rfl
     rw[hj];exact⟨_,rfl,⟨.slice oa n c,rfl,bE.of kind 0 (hv.ah (aj.only he hx2 (Nat.le_refl _)))⟩,aj.only he hx2 (Nat.le_refl _)⟩
def Sg (h:ai) (lim:Nat):Prop:=∃m,10<lim/\m<lim/\cellAt h ⟨10,0,none⟩=some (.map (some m)) /\
 ∃l:List (Int×Int),fK (Value.int .u8) (Value.int .i64) h m l/\∀c:UInt8,((mg (c.toNat:Int) l).map (Value.int .i64)).getD (Value.int .i64 0)=Value.int .i64 (dn c:Nat)
theorem Sg.ext {h h':ai}{lim:Nat}(k:Sg h lim){M:Nat->Prop}(e:Ext M h h') (hM:∀b,M b->lim<=b):Sg h' lim:=by
 obtain⟨m,h1,h2,h3,l,h4,h5⟩:=k;exact⟨m,h1,h2,e.cell (fun k=>absurd (hM _ k) (by show ¬lim<=10;omega)) h3,l,h4.ext e (fun k=>by have:=hM _ k;omega),h5⟩
def xL (d lim:Nat):Prop:=∀(h:ai) (rb:Nat) (l:By),Sg h lim->lim<=rb->St h rb l->l.length<d->l.length<=1000000 ->
 aq Tryz.prog 100 #[Du rb] h (PR rb h (dU d l) (ET h.size))
theorem EO (ih:xL d lim) (hg:Sg h lim) (hrb:lim<=rb) (hs:St h rb l) (hd:l.length<=d) (hl:l.length<=1000000):aq Tryz.prog 186 #[Du rb] h (PR rb h (fC (dU d) l) (ET h.size)):=by
 have hlt:=hs.lt;refine bL ?_;refine af ?_;refine xo rfl (cO) ?_;rintro _ h1 ⟨rfl,hkr,he1,hz1⟩;refine af ?_;refine xp rfl (av (H.FV _) rfl) ?_;refine xo rfl (cO) ?_;rintro _ h2 ⟨rfl,hk2,he2,hz2⟩;refine aM rfl (aY rfl rfl hk2) ?_;rintro _ h3 ⟨rfl,hk3,hx3,hz3⟩;have hk3:aD h3 h1.size 126 (dK 1 0 (.slice none 0 0)):=hk3;have hkr:aD h1 h.size 126 (dK 0 0 (.slice none 0 0)):=hkr;have e3:aj h h3:=aj.only (he1.trans he2) hx3 (by omega);have hkr3:aD h3 h.size 126 (dK 0 0 (.slice none 0 0)):=(hkr.ah he2).ext hx3 (by show ¬_=_;omega);have hs3:St h3 rb l:=aD.ah hs e3;refine af ?_;refine xo rfl (xV rfl (gj hs3 hl) ((fun _ _ ⟨hc,hp,hx⟩=>dQ hc (by rw[jF hp];rfl) ((aj.of e3).trans hx)))) ?_;rintro _ h4 ⟨c,r,hp,rfl,hs4,hx4⟩;obtain rfl:=gm hp;simp only[List.length_cons] at hl hd;have hkr4:=hkr3.ext hx4 (by show ¬_=_;omega);have hk4:=hk3.ext hx4 (by show ¬_=_;omega);have e4:Ext (only rb) h h4:=(aj.of e3).trans hx4;have hz4:=hx4.size;have hg4:Sg h4 lim:=hg.ext e4 (fun b (hb:b=rb)=>by omega);refine af ?_
 have fin:∀(x:Nd) (w:Value) (m:By) (h':ai) (ρ':Env),Sub [(0,Du rb),(2,.pointer (some ⟨h.size,0,none⟩)),(3,.pointer (some ⟨h1.size,0,none⟩))] ρ'->aD h' h1.size 126 (dK x.kind x.set w)->aD h' h.size 126 (dK 0 0 (.slice none 0 0))->St h' rb m->bE h' (FT (h.size+1)) (dK x.kind x.set w) x->Ext (only rb) h h'->fC (dU d) (c::r)=some (x,m)->G Tryz.prog 186 f186 [.code [1,1,1]] ρ' h' (PR rb h (fC (dU d) (c::r)) (ET h.size)):=by
  rintro x w m hh ρ' hsub hkx hkrr hst hnd hee hat;refine G.sub (ρ':=[(0,Du rb),(2,.pointer (some ⟨h.size,0,none⟩)),(3,.pointer (some ⟨h1.size,0,none⟩))]) hsub ?_;refine af ?_;refine xp rfl (bY rfl hkx.row) ?_;refine aM rfl (aY rfl rfl hkrr (bE.one hnd)) ?_;rintro _ h9 ⟨rfl,hk9,hx9,hz9⟩;refine af ?_;have hk9:aD h9 h.size 126 (dK x.kind x.set w):=hk9;refine ct (cj rfl hk9.row cq) ?_;exact⟨x,m,hat,⟨w,rfl,gX hnd (Nat.le_succ _) hx9 (fun b _ (hb:b=h.size)=>by omega)⟩,aD.ext hst hx9 (by show ¬_=_;omega),kF.only hee hx9 (Nat.le_refl _)⟩
 refine aR (fun c1=>?_) (fun c1=>?_)
 · have c1:c=40:=(cT rfl).1 c1;subst c1;refine af ?_;refine xo rfl (xV rfl (ih h4 rb r hg4 hrb hs4 (by omega) (by omega)) ((fun _ _ ⟨hc,hp,hx⟩=>dQ hc (by unfold fC;simp[hp]) (e4.trans hx)))) ?_;rintro _ h5 ⟨x,r5,hp5,⟨w,rfl,hnd5⟩,hs5,hx5⟩;have hk5:=hk4.ext hx5 (by show ¬_=_;omega);have hkr5:=hkr4.ext hx5 (by show ¬_=_;omega);have hr5:=lP d hp5;refine aM rfl (aY rfl rfl hk5 (bE.one hnd5)) ?_;rintro _ h6 ⟨rfl,hk6,hx6,hz6⟩;refine af ?_;have hk6:aD h6 h1.size 126 (dK x.kind x.set w):=hk6;have hs6:St h6 rb r5:=aD.ext hs5 hx6 (by show ¬_=_;omega);have hnd6:bE h6 (FT (h.size+1)) (dK x.kind x.set w) x:=gX hnd5 (by omega) hx6 (fun b _ (hb:b=h1.size)=>by omega);have e6:=kF.only (e4.trans hx5) hx6 (by omega);refine xo rfl (xV rfl (vK 41 hs6 (by omega)) ((fun _ _ ⟨hc,hp,hx⟩=>dQ hc (by unfold fC;simp only[if_true,hp5];split;rename_i t ht;cases ht;simp at hp;rfl) (e6.trans hx)))) ?_;rintro _ h7 ⟨_,r7,hp7,_,hs7,hx7⟩;refine cX ?_;refine aX ?_
   have hcl:r5=41::r7:=by
    split at hp7
    · rename_i hh;cases hp7;cases r5 with|nil=>cases hh|cons a b=>simp at hh;subst hh;rfl
    · cases hp7
   subst hcl;exact fin x w r7 _ _ (by exact sb rfl) (hk6.ext hx7 (by show ¬_=_;omega)) ((hkr5.ext hx6 (by show ¬_=_;omega)).ext hx7 (by show ¬_=_;omega)) hs7 (gX hnd6 (Nat.le_refl _) hx7 (fun b _ (hb:b=rb)=>by omega)) (e6.trans hx7) (by unfold fC;simp[hp5])
 · have c1:¬c=40:=fun e=>c1 ((cT rfl).2 e)
   refine af ?_;refine aR (fun c2=>?_) (fun c2=>?_)
   · have c2:c=91:=(cT rfl).1 c2;refine af ?_;refine xo rfl (xV rfl (yy hs4 (by omega)) ((fun _ _ ⟨hc,hp,hx⟩=>dQ hc (by unfold fC;simp[c2,hp]) (e4.trans hx)))) ?_;rintro _ h5 ⟨x,r5,hp5,⟨w,rfl,hnd5⟩,hs5,hx5⟩;have hk5:=hk4.ext hx5 (by show ¬_=_;omega);have hkr5:=hkr4.ext hx5 (by show ¬_=_;omega);refine aM rfl (aY rfl rfl hk5 (bE.one hnd5)) ?_;rintro _ h6 ⟨rfl,hk6,hx6,hz6⟩;refine cX ?_;refine aX ?_;have hk6:aD h6 h1.size 126 (dK x.kind x.set w):=hk6;exact fin x w r5 _ _ (by exact sb rfl) hk6 (hkr5.ext hx6 (by show ¬_=_;omega)) (aD.ext hs5 hx6 (by show ¬_=_;omega)) (gX hnd5 (by omega) hx6 (fun b _ (hb:b=h1.size)=>by omega)) (kF.only (e4.trans hx5) hx6 (by omega)) (by unfold fC;simp[c2,hp5])
   · have c2:¬c=91:=fun e=>c2 ((cT rfl).2 e)
     refine af ?_;refine aR (fun c3=>?_) (fun c3=>?_)
     · have c3:c=46:=(cT rfl).1 c3;refine af ?_;refine xo rfl (aE rfl (ij hk4 0 9)) ?_;rintro _ h5 ⟨hk5,hx5⟩;refine af ?_;refine xo rfl (aE rfl (ij hk5 11 255)) ?_;rintro _ h6 ⟨hk6,hx6⟩;refine cX ?_;refine aX ?_;have hx56:=hx5.trans hx6;exact fin Ma (.slice none 0 0) r _ _ (by exact sb rfl) hk6 (hkr4.ext hx56 (by show ¬_=_;omega)) (aD.ext hs4 hx56 (by show ¬_=_;omega)) (fJ _ _ _ _) (kF.only e4 hx56 (by omega)) (by unfold fC;simp[c3])
     · have c3:¬c=46:=fun e=>c3 ((cT rfl).2 e)
       refine af ?_;refine aR (fun c4=>?_) (fun c4=>?_)
       · have c4:c=92:=(cT rfl).1 c4;refine af ?_;refine xo rfl (xV rfl (pO hs4 (by omega)) ((fun _ _ ⟨hc,hp,hx⟩=>dQ hc (by unfold fC;simp[c4,hp]) (e4.trans hx)))) ?_;rintro _ h5 ⟨b,r5,hp5,rfl,hs5,hx5⟩;have hk5:=hk4.ext hx5 (by show ¬_=_;omega);have hkr5:=hkr4.ext hx5 (by show ¬_=_;omega);refine af ?_;refine xo rfl (aE rfl (ij hk5 b b)) ?_;rintro _ h6 ⟨hk6,hx6⟩;refine cX ?_;refine aX ?_;exact fin (Bf b) (.slice none 0 0) r5 _ _ (by exact sb rfl) hk6 (hkr5.ext hx6 (by show ¬_=_;omega)) (aD.ext hs5 hx6 (by show ¬_=_;omega)) (fJ _ _ _ _) (kF.only (e4.trans hx5) hx6 (by omega)) (by unfold fC;simp[c4,hp5])
       · have c4:¬c=92:=fun e=>c4 ((cT rfl).2 e)
         refine af ?_;refine aR (fun d41=>?_) (fun d41=>?_)
         · have d41:c=41:=(cT rfl).1 d41;refine af ?_;refine fF rfl (by rw[d41];decide) ?_;refine af ?_;refine xp rfl (av (H.iz ) rfl) ?_;refine af ?_;refine aM rfl (dm (Φ:=fun _ _=>False) rfl (dQ rfl (by unfold fC;simp[d41]) e4)) ?_;rintro _ _ hpn;exact hpn.elim
         · have d41:¬c=41:=fun e=>d41 ((cT rfl).2 e)
           refine af ?_;refine aR (fun d93=>?_) (fun d93=>?_)
           · have d93:c=93:=(cT rfl).1 d93;refine af ?_;refine fF rfl (by rw[d93];decide) ?_;refine af ?_;refine xp rfl (av (H.iz ) rfl) ?_;refine af ?_;refine aM rfl (dm (Φ:=fun _ _=>False) rfl (dQ rfl (by unfold fC;simp[d93]) e4)) ?_;rintro _ _ hpn;exact hpn.elim
           · have d93:¬c=93:=fun e=>d93 ((cT rfl).2 e)
             refine af ?_;refine aR (fun d124=>?_) (fun d124=>?_)
             · have d124:c=124:=(cT rfl).1 d124;refine af ?_;refine fF rfl (by rw[d124];decide) ?_;refine af ?_;refine xp rfl (av (H.iz ) rfl) ?_;refine af ?_;refine aM rfl (dm (Φ:=fun _ _=>False) rfl (dQ rfl (by unfold fC;simp[d124]) e4)) ?_;rintro _ _ hpn;exact hpn.elim
             · have d124:¬c=124:=fun e=>d124 ((cT rfl).2 e)
               refine af ?_;refine aR (fun d42=>?_) (fun d42=>?_)
               · have d42:c=42:=(cT rfl).1 d42;refine af ?_;refine fF rfl (by rw[d42];decide) ?_;refine af ?_;refine xp rfl (av (H.iz ) rfl) ?_;refine af ?_;refine aM rfl (dm (Φ:=fun _ _=>False) rfl (dQ rfl (by unfold fC;simp[d42]) e4)) ?_;rintro _ _ hpn;exact hpn.elim
               · have d42:¬c=42:=fun e=>d42 ((cT rfl).2 e)
                 refine af ?_;refine aR (fun d43=>?_) (fun d43=>?_)
                 · have d43:c=43:=(cT rfl).1 d43;refine af ?_;refine fF rfl (by rw[d43];decide) ?_;refine af ?_;refine xp rfl (av (H.iz ) rfl) ?_;refine af ?_;refine aM rfl (dm (Φ:=fun _ _=>False) rfl (dQ rfl (by unfold fC;simp[d43]) e4)) ?_;rintro _ _ hpn;exact hpn.elim
                 · have d43:¬c=43:=fun e=>d43 ((cT rfl).2 e)
                   refine af ?_;refine aR (fun d63=>?_) (fun d63=>?_)
                   · have d63:c=63:=(cT rfl).1 d63;refine af ?_;refine xp rfl (av (H.iz ) rfl) ?_;refine af ?_;refine aM rfl (dm (Φ:=fun _ _=>False) rfl (dQ rfl (by unfold fC;simp[d63]) e4)) ?_;rintro _ _ hpn;exact hpn.elim
                   · have d63:¬c=63:=fun e=>d63 ((cT rfl).2 e)
                     refine af ?_;refine xo rfl (aE rfl (ij hk4 c c)) ?_;rintro _ h6 ⟨hk6,hx6⟩;refine cX ?_;refine aX ?_;exact fin (Bf c) (.slice none 0 0) r _ _ (by exact sb rfl) hk6 (hkr4.ext hx6 (by show ¬_=_;omega)) (aD.ext hs4 hx6 (by show ¬_=_;omega)) (fJ _ _ _ _) (kF.only e4 hx6 (by omega)) (by unfold fC;simp[c1,c2,c3,c4,d41,d93,d124,d42,d43,d63])
theorem Ar {ρ:Env}{dst:Option Nat}{ty:TypeId}{pos:String}{after:Array Edge}{guard:Option (Nat×Bool)}{x y:Operand}{l:List (Int×Int)}
 (hx:aP ρ x=some (.map (some m))) (hy:aP ρ y=some (.int .u8 (c.toNat:Nat))) (hm:fK (Value.int .u8) (Value.int .i64) h m l) (hv:∀c:UInt8,((mg (c.toNat:Int) l).map (Value.int .i64)).getD (Value.int .i64 0)=Value.int .i64 (dn c:Nat)) :
 ay Tryz.prog ⟨dst,.lookup 267 x y false,ty,pos,after,guard⟩ ρ h (.int .i64 (dn c:Nat)):=by
 have:=ay.lookup (P:=Tryz.prog) (ρ:=ρ) (h:=h) (dst:=dst) (ty:=ty) (pos:=pos) (after:=after) (guard:=guard) (kB.int .u8) underlying267 underlying5 (z:=.int .i64 0) (et:=3) (by kernel_rfl) hx hy rfl hm
 rwa [hv c] at this
theorem B3 (h:0<dn c):eS x (c::r)=eS (.mk (dn c) 0 [x]) r:=by
 rw[eS,if_neg (by omega)]
theorem B2 {m:By}(h:dn (m.head?.getD 0)=0):eS x m=(x,m):=by
 cases m with
 |nil=>rfl
 |cons c r=>rw[eS,if_pos (by simpa using h)]
theorem Cg (ih:xL d lim) (hg:Sg h lim) (hrb:lim<=rb) (hs:St h rb l) (hd:l.length<=d) (hl:l.length<=1000000):aq Tryz.prog 171 #[Du rb] h (PR rb h (gu (dU d) l) (ET h.size)):=by
 have hlt:=hs.lt;refine bL ?_;refine af ?_;refine xo rfl (cO) ?_;rintro _ h1 ⟨rfl,hkr,he1,hz1⟩;refine af ?_;refine xo rfl (xV rfl (EO ih (hg.ext he1 (fun _ k=>k.elim)) hrb (aD.ah hs he1) hd hl) ((fun _ _ ⟨hc,hp,hx⟩=>dQ hc (by unfold gu;rw[hp];rfl) ((aj.of he1).trans hx)))) ?_;rintro _ h2 ⟨x0,m0,hp0,⟨w0,rfl,hnd2⟩,hs2,hx2⟩;refine xo rfl (cO) ?_;rintro _ h3 ⟨rfl,hk3,he3,hz3⟩;refine aM rfl (aY rfl rfl hk3 (bE.one hnd2)) ?_;rintro _ h4 ⟨rfl,hk4,hx4,hz4⟩;have hz2:=hx2.size;have hkr:aD h1 h.size 126 (dK 0 0 (.slice none 0 0)):=hkr;have hk4:aD h4 h2.size 126 (dK x0.kind x0.set w0):=hk4;have e2:Ext (only rb) h h2:=(aj.of he1).trans hx2;have hkr2:=hkr.ext hx2 (by show ¬_=_;omega);have e24:aj h2 h4:=aj.only he3 hx4 (Nat.le_refl _);have hnd4:bE h4 (fun b=>b<h.size+1\/b=h2.size) (dK x0.kind x0.set w0) x0:=hnd2.mv (Mv.cx e24 fun b hb hn=>⟨fun k=>k,fun k=>by have:¬b<h1.size:=hn;omega⟩);have hm0:=zO (fun h=>lP d h) hp0;have hpc:gu (dU d) l=some (eS x0 m0):=by unfold gu;rw[hp0];rfl
 generalize htg:eS x0 m0=tgt at hpc;generalize hnb:h2.size=nb at hk4 hnd4 hs2;have hnb1:h.size+1<=nb:=by omega
 refine af ?_;refine NU (σ:=Nd×Value×By) (fun q=>[(0,Du rb),(2,.pointer (some ⟨h.size,0,none⟩)),(3,.pointer (some ⟨nb,0,none⟩))]) (fun q h'=>St h' rb q.2.2/\aD h' nb 126 (dK q.1.kind q.1.set q.2.1)/\aD h' h.size 126 (dK 0 0 (.slice none 0 0))/\Ext (only rb) h h'/\bE h' (fun b=>b<h.size+1\/b=nb) (dK q.1.kind q.1.set q.2.1) q.1/\q.2.2.length<=1000000/\eS q.1 q.2.2=tgt) (fun q=>q.2.2.length) ((x0,w0,m0)) ⟨aD.ah hs2 e24,hk4,hkr2.ah e24,kF.ah e2 e24,hnd4,by show m0.length<=_;omega,htg⟩ ?_;rintro⟨x,w,m⟩ h5 ⟨hs5,hk5,hkr5,e5,hnd5,hm,hsg⟩ ih
 try dsimp only
 dsimp only at hs5 hk5 hnd5 hm hsg;have hg5:Sg h5 lim:=hg.ext e5 (fun b (hb:b=rb)=>by omega);obtain⟨mp,hm1,hm2,hcell,lm,hmap,hval⟩:=hg5;refine af ?_;refine F4 ?_;refine cG rfl (aA rfl hcell) ?_;refine af ?_;refine Q6 (vJ hs5) ?_;refine cG rfl (Ar rfl rfl hmap hval) ?_;refine af ?_;refine aR (fun hgo=>?_) (fun hgo=>?_)
 · have hgo:0<dn (m.head?.getD 0):=by omega
   obtain⟨c,r,rfl⟩:=List.exists_cons_of_ne_nil (fun(e:m=[])=>by rw[e] at hgo;revert hgo;decide);have hgo:0<dn c:=hgo;rw[B3 hgo] at hsg;simp only[List.length_cons] at hm;have hlt5:=hk5.lt;have hltr:=hkr5.lt
   have hn1:¬((⟨10,0,none⟩:Addr).block=rb\/Array.size h5<=(⟨10,0,none⟩:Addr).block):=by
    show ¬(10=rb\/Array.size h5<=10);omega
   have hn2:¬(nb=rb\/Array.size h5<=nb):=by omega
   have hn3:¬(mp=rb\/Array.size h5<=mp):=by omega
   have hO5:¬(h5.size<h.size+1\/h5.size=nb):=by have:=hkr5.lt;omega
   refine af ?_;refine me 8 (fun b=>b=rb\/Array.size h5<=b) (fun i=>Nat.blt i 7) ?_;refine bI 0 rfl (fun h' e=>aA rfl (e.cell hn1 hcell)) ?_;refine aI 1 ?_;refine bI 4 rfl (fun h' e=>bY rfl (e.rowAt hn2 hk5.row)) ?_;refine Qc 2 5 rfl rfl (xV rfl (gj hs5 (by simp only[List.length_cons];omega)) ((fun _ _ ⟨_,hp,_⟩=>by cases hp))) (ue) ?_ ?_
   · rintro _ h6 ⟨_,_,hp6,rfl,hs6,hx6⟩;refine⟨fun _=>hx6.mono (fun _ _ k=>.inl k),?_⟩;cases hp6;have hmap6:=hmap.ext hx6 (by show ¬_=_;omega);have hz6:=hx6.size;have hk6:=hk5.ext hx6 (by show ¬_=_;omega);have hnd6:bE h6 (fun b=>b<h.size+1\/b=nb) (dK x.kind x.set w) x:=hnd5.mv (Mv.cx hx6 fun b hb hn=>⟨fun(k:b=rb)=>hn (.inl (by omega)),hn⟩);refine bI 3 rfl (fun h' e=>Ar rfl rfl (hmap6.ext e hn3) hval) ?_;refine dH 5 rfl (ue) ?_;rintro _ _ ⟨rfl,rfl⟩;refine⟨fun _=>by first|exact Ext.push _ _ _|assumption,?_⟩;refine bI 6 rfl (fun h' e=>av (H.sE _ _ _ _) rfl) ?_;have hsl:=aT.pG (e:=tK) (t:=126) hnd6 (show ¬(h6.size<h.size+1\/h6.size=nb) by omega);have ep:=Ext.push (fun _=>False) h6 (.cells (dK x.kind x.set w).toArray 126);have hk7:=hk6.ah ep;have hs7:St _ rb r:=aD.ah hs6 ep;have hkr7:=(hkr5.ext hx6 (by show ¬_=_;omega)).ah ep;have e7:=kF.ah (e5.trans hx6) ep;refine kX 7 rfl (aY rfl rfl hk7 (bE.one (bE.of (dn c) 0 hsl))) ?_;rintro _ h8 ⟨rfl,hk8,hx8,hz8⟩;refine⟨nofun,?_⟩;refine iT ?_;refine af ?_;have hk8:aD h8 nb 126 (dK (dn c) 0 (.slice (some ⟨h6.size,0,none⟩) 1 1)):=hk8;exact ih (.mk (dn c) 0 [x],.slice (some ⟨h6.size,0,none⟩) 1 1,r) ⟨aD.ext hs7 hx8 (by show ¬_=_;omega),hk8,hkr7.ext hx8 (by show ¬_=_;omega),kF.only e7 hx8 (by omega),(bE.of (dn c) 0 hsl).mv (Mv.cx hx8 fun b hb hn=>⟨fun(k:b=nb)=>hn (.inr k),hn⟩),by show r.length<=_;omega,hsg⟩ (by show r.length<(c::r).length;simp)
   · rintro _ _ ⟨rfl,rfl⟩;refine⟨fun _=>by first|exact Ext.push _ _ _|assumption,?_⟩;have hsl:=aT.pG (e:=tK) (t:=126) hnd5 hO5;have ep:=Ext.push (fun _=>False) h5 (.cells (dK x.kind x.set w).toArray 126);refine dH 2 rfl (xV rfl (gj (aD.ah hs5 ep) (by simp only[List.length_cons];omega)) ((fun _ _ ⟨_,hp,_⟩=>by cases hp))) ?_;rintro _ h6 ⟨_,_,hp6,rfl,hs6,hx6⟩;refine⟨fun _=>hx6.mono (fun _ _ k=>.inl k),?_⟩;cases hp6;have hmap6:=(hmap.ext ep (fun k=>k)).ext hx6 (by show ¬_=_;omega);have hz6:=hx6.size;have hzp:(h5.push (.cells (dK x.kind x.set w).toArray 126)).size=h5.size+1:=by simp
     have hk6:=(hk5.ah ep).ext hx6 (by show ¬_=_;omega);have hkr6:=(hkr5.ah ep).ext hx6 (by show ¬_=_;omega);have hn4:¬(mp=rb\/Array.size h5<=mp):=hn3;refine bI 3 rfl (fun h' e=>Ar rfl rfl (hmap6.ext e hn4) hval) ?_;refine bI 6 rfl (fun h' e=>av (H.sE _ _ _ _) rfl) ?_;have hsl6:aT tK h6 (fun b=>b<h.size+1\/b=nb) (.slice (some ⟨h5.size,0,none⟩) 1 1) [x]:=hsl.mv (Mv.cx hx6 fun b hb hn=>⟨fun(k:b=rb)=>hn (.inl (by omega)),hn⟩);refine kX 7 rfl (aY rfl rfl hk6 (bE.one (bE.of (dn c) 0 hsl6))) ?_;rintro _ h8 ⟨rfl,hk8,hx8,hz8⟩;refine⟨nofun,?_⟩;refine iT ?_;refine af ?_;have hk8:aD h8 nb 126 (dK (dn c) 0 (.slice (some ⟨h5.size,0,none⟩) 1 1)):=hk8;exact ih (.mk (dn c) 0 [x],.slice (some ⟨h5.size,0,none⟩) 1 1,r) ⟨aD.ext hs6 hx8 (by show ¬_=_;omega),hk8,hkr6.ext hx8 (by show ¬_=_;omega),kF.only ((kF.ah e5 ep).trans hx6) hx8 (by omega),(bE.of (dn c) 0 hsl6).mv (Mv.cx hx8 fun b hb hn=>⟨fun(k:b=nb)=>hn (.inr k),hn⟩),by show r.length<=_;omega,hsg⟩ (by show r.length<(c::r).length;simp)
 · rw[B2 (by omega)] at hsg;refine af ?_;refine xp rfl (bY rfl hk5.row) ?_;refine aM rfl (aY rfl rfl hkr5 (bE.one hnd5)) ?_;rintro _ h6 ⟨rfl,hk6,hx6,hz6⟩;refine af ?_;have hk6:aD h6 h.size 126 (dK x.kind x.set w):=hk6;refine ct (cj rfl hk6.row cq) ?_;exact⟨x,m,by rw[hpc,<-hsg],⟨w,rfl,hnd5.mv (Mv.cx hx6 fun b hb hn=>⟨fun(k:b=h.size)=>hn (.inl (by omega)),fun(k:b<h.size)=>hn (.inl (by omega))⟩)⟩,aD.ext hs5 hx6 (by show ¬_=_;omega),kF.only e5 hx6 (Nat.le_refl _)⟩
theorem yT (ih:xL d lim) (hg:Sg h lim) (hrb:lim<=rb) (hs:St h rb l) (hd:l.length<=d) (hl:l.length<=1000000):aq Tryz.prog 143 #[Du rb] h (PR rb h (Ay (dU d) l) (ET h.size)):=by
 have hlt:=hs.lt;have hrl:∀{s x r},dU d s=some (x,r)->r.length<=s.length:=fun h=>lP d h
 refine bL ?_;refine af ?_;refine xo rfl (cO) ?_;rintro _ h1 ⟨rfl,hkr,he1,hz1⟩;refine af ?_;have hkr:aD h1 h.size 126 (dK 0 0 (.slice none 0 0)):=hkr;generalize htg:nL (dU d) (l.length+1) l=tgt;have hrow:Ay (dU d) l=tgt.map fun p=>(bT 2 p.1,p.2):=by unfold Ay;rw[htg]
 have htg0:tgt.map (fun p=>(([]:List Nd)++p.1,p.2))=tgt:=by cases tgt<;>rfl
 refine gY (σ:=List Nd×Value×By) (fun q=>[(3,q.2.1)]) (fun q h'=>St h' rb q.2.2/\cH tK (FT h1.size) h' h1.size 126 q.2.1 q.1/\aD h' h.size 126 (dK 0 0 (.slice none 0 0))/\Ext (only rb) h h'/\q.2.2.length+q.1.length<=l.length/\(nL (dU d) (q.2.2.length+1) q.2.2).map (fun p=>(q.1++p.1,p.2))=tgt) (fun q=>q.2.2.length) (([],.slice none 0 0,l)) ⟨aD.ah hs he1,cH.nil _ _ _ _ _,hkr,aj.of he1,by show l.length+0<=_;omega,by rw[htg];exact htg0⟩ rfl ?_;rintro⟨acc,v,m⟩ h5 ⟨hs5,hv5,hkr5,e5,hm,hcon⟩ ih'
 try dsimp only
 dsimp only at hs5 hv5 hm hcon
 iterate 2 refine aX ?_
 refine fL [(24,.bool (!lg m))] rfl ?_ ?_
 · refine af ?_;refine xp rfl (aA rfl hs5.cell) ?_;refine af ?_;refine dG 9 (fun he=>?_) (fun he=>?_)
   · have hne:¬bs m=⟨#[]⟩:=of_decide_eq_true he;obtain⟨c,r,rfl⟩:=List.exists_cons_of_ne_nil (fun(e:m=[])=>hne (by rw[e];rfl));refine af ?_;refine xp rfl (aA rfl hs5.cell) ?_;refine xp rfl (BA rfl rfl 0 rfl (ia rfl)) ?_;refine af ?_;refine dG 17 (fun h124=>?_) (fun h124=>?_)
     · have h124:¬c=124:=fun e=>(of_decide_eq_true h124) ((cT rfl).2 e)
       refine af ?_;refine xp rfl (aA rfl hs5.cell) ?_;refine xp rfl (BA rfl rfl 0 rfl (ia rfl)) ?_;refine af ?_;exact aF rfl ⟨au rfl (by simp only[lg];rw[show (c ==124)=false by simpa using h124,Bool.false_or,show (c ==41)=decide (c=41) by rw[Bool.eq_iff_iff];simp,<-decide_not];exact decide_eq_decide.2 (not_congr (cT rfl))),sb rfl⟩
     · have h124:c=124:=(cT rfl).1 (Classical.not_not.1 (of_decide_eq_false h124));refine af ?_;exact aF rfl ⟨au rfl (by simp[lg,h124]),sb rfl⟩
   · have hne:bs m=⟨#[]⟩:=Classical.not_not.1 (of_decide_eq_false he);obtain rfl:m=[]:=bl hne;refine af ?_;exact aF rfl ⟨au rfl (by rfl),sb rfl⟩
 · obtain⟨css,hc1,hc2,hc3⟩:=id hv5;have hlt5:=hkr5.lt;have hz5:=e5.size;refine iM (fun hgo=>?_) (fun hgo=>?_)
   · have hend:lg m=false:=by simpa using hgo
     have hcon':tgt=(match gu (dU d) m with|none=>none|some (x,r)=>((nL (dU d) (r.length+1) r).map fun p=>(x::p.1,p.2)).map (fun p=>(acc++p.1,p.2))):=by
      rw[<-hcon,nL,if_neg (by rw[hend];decide)];cases hp:gu (dU d) m with
      |none=>rfl
      |some q =>
       obtain⟨x,r⟩:=q;have:=gr hrl hp;simp only;rw[yU hrl m.length (r.length+1) r (by omega) (by omega)]
     refine af ?_;refine xo rfl (xV rfl (Cg ih (hg.ext e5 (fun b (hb:b=rb)=>by omega)) hrb hs5 (by omega) (by omega)) ((fun _ _ ⟨hc,hp,hx⟩=>dQ hc (by rw[hrow,hcon',hp];rfl) (e5.trans hx)))) ?_;rintro _ h6 ⟨x,r,hp,⟨w,rfl,hnd6⟩,hs6,hx6⟩;have hr6:=gr hrl hp;have hz6:=hx6.size;have hown:∀b,v.ownBlock=some b->h1.size<=b/\b<h5.size:=fun b hb=>hc2.lt hb
     have hc26:=hc2.ext hx6 (fun b hb (k:b=rb)=>by have:=hown b hb;omega);have hc36:∀(i:Nat) (cs:List Value) (x:Nd),css[i]? =some cs->acc[i]? =some x->tK.R h6 (fun b=>cv v.ownBlock b\/b<h1.size) cs x:=fun i cs x h1' h2'=>tK.mv (hc3 i cs x h1' h2') (Mv.cx hx6 fun b hb hn=>⟨fun(k:b=rb)=>hn (.inr (by show b<_;omega)),hn⟩)
     have hnd6':tK.R h6 (fun b=>cv v.ownBlock b\/b<h1.size) (dK x.kind x.set w) x:=bE.mv hnd6 ⟨Nat.le_refl _,fun b hb hn=>⟨rfl,fun k=>by
      have hn:¬b<h5.size:=hn
      rcases k with k|k
      · have:=hown b k.symm;omega
      · omega⟩⟩
     refine xo rfl (ue) ?_;rintro _ _ ⟨rfl,rfl⟩;refine xo rfl (aQ.gG underlying124 H.JQ rfl rfl (hc26) rfl rfl (bE.one hnd6) (by omega) (by decide) (by omega)) ?_;rintro v7 h7 ⟨ho7,hx7,-,hv7⟩;refine af ?_;have hrb7:¬cv v.ownBlock rb:=fun k=>by have:=hown rb k.symm;omega
     have hr7:¬cv v.ownBlock h.size:=fun k=>by have:=hown _ k.symm;omega
     have e7:Ext (only rb) h h7:=⟨by have:=hx7.size;omega,fun b hb hn=>by rw[hx7.block b (by omega) (fun k=>by have:=hown b k.symm;omega)];exact(e5.trans hx6).block b hb hn⟩
     rw[hp] at hcon';exact ih' (acc++[x],v7,r) ⟨aD.ext hs6 hx7 hrb7,cH.gq hc1 hc36 ho7 hx7 hv7 hnd6',(hkr5.ext hx6 (by show ¬_=_;omega)).ext hx7 hr7,e7,by show r.length+(acc++[x]).length<=_;rw[List.length_append,List.length_singleton];omega,by rw[hcon'];simp only[Option.map_map];congr 1;funext p;simp⟩
   · have hend:lg m=true:=by simpa using hgo
     rw[nL,if_pos hend] at hcon;have hsl:aT tK h5 (FT h1.size) v acc:=hv5.read (fun b hb (k:b<h1.size)=>by omega) (fun b _ k=>k);refine af ?_;refine xo rfl (aE rfl (ri 2 hsl)) ?_;rintro _ h6 ⟨⟨w,rfl,hnd6⟩,he6⟩;refine aM rfl (aY rfl rfl ((hkr5.ah he6)) (bE.one hnd6)) ?_;rintro _ h7 ⟨rfl,hk7,hx7,hz7⟩;refine af ?_;have hk7:aD h7 h.size 126 (dK (bT 2 acc).kind (bT 2 acc).set w):=hk7;have hz6:=he6.size;refine ct (cj rfl hk7.row cq) ?_;exact⟨bT 2 acc,m,by rw[hrow,<-hcon];simp,⟨w,rfl,gX hnd6 (by omega) hx7 (fun b _ (hb:b=h.size)=>by omega)⟩,aD.ext (aD.ah hs5 he6) hx7 (by show ¬_=_;omega),kF.only (kF.ah e5 he6) hx7 (Nat.le_refl _)⟩
theorem Gu (ih:xL d lim) (hg:Sg h lim) (hrb:lim<=rb) (hs:St h rb l) (hd:l.length<=d) (hl:l.length<=1000000):aq Tryz.prog 100 #[Du rb] h (PR rb h (dU (d+1) l) (ET h.size)):=by
 have hlt:=hs.lt;have hrl:∀{s x r},dU d s=some (x,r)->r.length<=s.length:=fun h=>lP d h
 have hrows:dU (d+1) l=match Ay (dU d) l with|none=>none|some (x,r)=>tR (dU d) [x] r:=vp hrl [] l
 refine bL ?_;refine af ?_;refine xo rfl (cO) ?_;rintro _ h1 ⟨rfl,hkr,he1,hz1⟩;refine af ?_;refine xo rfl (xV rfl (yT ih (hg.ext he1 (fun _ k=>k.elim)) hrb (aD.ah hs he1) hd hl) ((fun _ _ ⟨hc,hp,hx⟩=>dQ hc (by rw[hrows,hp]) ((aj.of he1).trans hx)))) ?_;rintro _ h2 ⟨x0,m0,hp0,⟨w0,rfl,hnd2⟩,hs2,hx2⟩;have hkr:aD h1 h.size 126 (dK 0 0 (.slice none 0 0)):=hkr;have hz2:=hx2.size;have hm0:=Ca hrl hp0;have ep:=Ext.push (fun _=>False) h2 (.cells (dK x0.kind x0.set w0).toArray 126);have hv0:cH tK (FT h1.size) (h2.push (.cells (dK x0.kind x0.set w0).toArray 126)) h1.size 126 (.slice (some ⟨h2.size,0,none⟩) 1 1) [x0]:=cH.pG (e:=tK) hnd2 hz2;have hs3:St _ rb m0:=aD.ah hs2 ep;have hkr3:=(hkr.ext hx2 (by show ¬_=_;omega)).ah ep;have e3:=kF.ah ((aj.of he1).trans hx2) ep;rw[hp0] at hrows;simp only at hrows;generalize htg:tR (dU d) [x0] m0=tgt at hrows;refine xo rfl (ue) ?_;rintro _ _ ⟨rfl,rfl⟩;refine af ?_;refine NU (σ:=List Nd×Value×By) (fun q=>[(0,Du rb),(2,.pointer (some ⟨h.size,0,none⟩)),(3,q.2.1)]) (fun q h'=>St h' rb q.2.2/\cH tK (FT h1.size) h' h1.size 126 q.2.1 q.1/\aD h' h.size 126 (dK 0 0 (.slice none 0 0))/\Ext (only rb) h h'/\(q.2.2.length<=l.length/\q.2.2.length+q.1.length<=l.length+1)/\tR (dU d) q.1 q.2.2=tgt) (fun q=>q.2.2.length) (([x0],.slice (some ⟨h2.size,0,none⟩) 1 1,m0)) ⟨hs3,hv0,hkr3,e3,⟨by show m0.length<=_;omega,by show m0.length+1<=_;omega⟩,htg⟩ ?_;rintro⟨acc,v,m⟩ h5 ⟨hs5,hv5,hkr5,e5,⟨hml,hm⟩,hcon⟩ ih'
 try dsimp only
 dsimp only at hs5 hv5 hml hm hcon;refine af ?_;refine xo rfl (aE rfl (mF 124 hs5 (by omega))) ?_;rintro _ h6 ⟨hor,hx6⟩;refine af ?_;have hlt5:=hkr5.lt;have hz5:=e5.size;have hz6:=hx6.size;have hkr6:=hkr5.ext hx6 (by show ¬_=_;omega);have e6:=e5.trans hx6;have hv6:cH tK (FT h1.size) h6 h1.size 126 v acc:=hv5.mv (hx6.mono fun b _ (k:b=rb)=>(by omega:b<h1.size)) (fun b hb (k:b<h1.size)=>by omega) (fun b _ k=>k);obtain⟨css,hc1,hc2,hc3⟩:=id hv6
 rcases hor with ⟨a1,rfl,hs6⟩|⟨a1,rfl,hs6⟩
 · obtain⟨c,t,rfl⟩:=List.exists_cons_of_ne_nil (fun(e:m=[])=>by rw[e] at a1;cases a1);have hs6:St h6 rb t:=hs6;simp only[List.length_cons] at hm hml
   have hcon':tgt=match Ay (dU d) t with|none=>none|some (x,r)=>tR (dU d) (acc++[x]) r:=by
    have hG:=vp (rows:=dU d) hrl acc t;rw[<-hcon];refine Eq.trans ?_ hG;unfold tR;rw[if_pos a1];rfl
   refine fF rfl (by decide) ?_;refine af ?_;refine xo rfl (xV rfl (yT ih (hg.ext e6 (fun b (hb:b=rb)=>by omega)) hrb hs6 (by omega) (by omega)) ((fun _ _ ⟨hc,hp,hx⟩=>dQ hc (by rw[hrows,hcon',hp]) (e6.trans hx)))) ?_;rintro _ h7 ⟨x,r,hp,⟨w,rfl,hnd7⟩,hs7,hx7⟩;have hr7:=Ca hrl hp;have hz7:=hx7.size;have hown:∀b,v.ownBlock=some b->h1.size<=b/\b<h6.size:=fun b hb=>hc2.lt hb
   have hc27:=hc2.ext hx7 (fun b hb (k:b=rb)=>by have:=hown b hb;omega);have hc37:∀(i:Nat) (cs:List Value) (x:Nd),css[i]? =some cs->acc[i]? =some x->tK.R h7 (fun b=>cv v.ownBlock b\/b<h1.size) cs x:=fun i cs x h1' h2'=>tK.mv (hc3 i cs x h1' h2') (Mv.cx hx7 fun b hb hn=>⟨fun(k:b=rb)=>hn (.inr (by show b<_;omega)),hn⟩)
   have hnd7':tK.R h7 (fun b=>cv v.ownBlock b\/b<h1.size) (dK x.kind x.set w) x:=bE.mv hnd7 ⟨Nat.le_refl _,fun b hb hn=>⟨rfl,fun k=>by
    have hn:¬b<h6.size:=hn
    rcases k with k|k
    · have:=hown b k.symm;omega
    · omega⟩⟩
   refine xo rfl (ue) ?_;rintro _ _ ⟨rfl,rfl⟩;refine xo rfl (aQ.gG underlying124 H.JQ rfl rfl (hc27) rfl rfl (bE.one hnd7) (by omega) (by decide) (by omega)) ?_;rintro v8 h8 ⟨ho8,hx8,-,hv8⟩;refine af ?_;have hrb8:¬cv v.ownBlock rb:=fun k=>by have:=hown rb k.symm;omega
   have hr8:¬cv v.ownBlock h.size:=fun k=>by have:=hown _ k.symm;omega
   have e8:Ext (only rb) h h8:=⟨by have:=hx8.size;omega,fun b hb hn=>by rw[hx8.block b (by omega) (fun k=>by have:=hown b k.symm;omega)];exact(e6.trans hx7).block b hb hn⟩
   rw[hp] at hcon';exact ih' (acc++[x],v8,r) ⟨aD.ext hs7 hx8 hrb8,cH.gq hc1 hc37 ho8 hx8 hv8 hnd7',(hkr6.ext hx7 (by show ¬_=_;omega)).ext hx8 hr8,e8,⟨by show r.length<=_;omega,by show r.length+(acc++[x]).length<=_;rw[List.length_append,List.length_singleton];omega⟩,hcon'.symm⟩ (by show r.length<(c::t).length;simp only[List.length_cons];omega)
 · refine fe rfl (by decide) ?_;have hsl:aT tK h6 (FT h1.size) v acc:=hv6.read (fun b hb (k:b<h1.size)=>by omega) (fun b _ k=>k);have hfin:tgt=some (bT 3 acc,m):=by rw[<-hcon];unfold tR;rw[if_neg a1]
   refine af ?_;refine xo rfl (aE rfl (ri 3 hsl)) ?_;rintro _ h7 ⟨⟨w,rfl,hnd7⟩,he7⟩;refine aM rfl (aY rfl rfl ((hkr6.ah he7)) (bE.one hnd7)) ?_;rintro _ h8 ⟨rfl,hk8,hx8,hz8⟩;refine af ?_;have hk8:aD h8 h.size 126 (dK (bT 3 acc).kind (bT 3 acc).set w):=hk8;have hz7:=he7.size;refine ct (cj rfl hk8.row cq) ?_;exact⟨bT 3 acc,m,by rw[hrows,hfin],⟨w,rfl,gX hnd7 (by omega) hx8 (fun b _ (hb:b=h.size)=>by omega)⟩,aD.ext (aD.ah hs6 he7) hx8 (by show ¬_=_;omega),kF.only (kF.ah e6 he7) hx8 (Nat.le_refl _)⟩
theorem Fq (lim:Nat):∀d,xL d lim
 | 0=>fun _ _ l _ _ _ h _=>absurd h (Nat.not_lt_zero _)
 |d+1=>fun _ _ _ hg hrb hs hd hl=>Gu (Fq lim d) hg hrb hs (by omega) hl
end
end Go.Proofs.YtoickfdopobmgaaGreatDoor
namespace Go.Proofs.YtoickfdopobmgaaGreatDoor
open Go.Proofs.Tryz
open Go Go.Lw Go.RowKit
set_option maxRecDepth 20000 set_option maxHeartbeats 4000000
section
variable {h:ai}{nb eb:Nat}
abbrev yF:List Value:=dK 0 0 (.slice none 0 0)
theorem EH {cs:List Value}{v0:Value}(hcs:cs.length=6) (hk:aD h nb 126 cs) (he:aD h eb 60 [v0]) (hne:nb≠eb) (B w:World) (ha:At B h w) :
 CallsD Tryz.prog 99 #[.pointer (some ⟨nb,0,none⟩),.pointer (some ⟨eb,0,none⟩)] (.panicking [{ v:=vG,recovered:=false }]) w fun e u' w' =>
  (∃r,e= .returned r)/\u'= .panicking [{ v:=vG,recovered:=true }]/\∃h',At B h' w'/\aD h' nb 126 yF/\aD h' eb 60 [.int .i64 10]/\Ext (fun b=>b=nb\/b=eb) h h':=by
 refine ou (v:=vG) (vs:=[.pointer (some ⟨nb,0,none⟩),.pointer (some ⟨eb,0,none⟩)]) (u':=.panicking [{ v:=vG,recovered:=true }]) func99 rfl rfl rfl rfl rfl rfl rfl rfl rfl rfl (fun c₀ cs hu=>.inl (by simp[recoverD,hu])) (fun a hf=>?_);refine wp_seq (wp_region ?_);refine(show RW Tryz.prog Tryz.f99.ntmps _ 0 _ h (fun ρ' h'=>h'=h/\Sub [(5,.bool true),(2,vG),(0,.pointer (some ⟨nb,0,none⟩)),(1,.pointer (some ⟨eb,0,none⟩))] ρ') (fun _ _=>False) from ?_) B a w hf ha _ ?_ (fun _ _ _ _ _ _ k=>k.elim)
 · refine RW.bu rfl rfl rfl rfl (dA rfl) ?_;refine RW.bu rfl rfl rfl rfl (ay.qR underlying20 rfl (.inr ⟨_,_,rfl⟩)) ?_;exact kR rfl ⟨rfl,rfl,rfl,rfl,rfl,trivial⟩
 rintro ρ' h' a1 w1 hf1 ha1 ⟨rfl,hsub⟩;have hf1:=hf1.sub hsub;refine wp_cond_true (hf1.eval (x:=.tmp 5) rfl) ?_;refine wp_seq (wp_region ?_);refine(show RW Tryz.prog Tryz.f99.ntmps _ 0 _ h' (fun ρ' g=>g=h'/\Sub [(0,.pointer (some ⟨nb,0,none⟩)),(1,.pointer (some ⟨eb,0,none⟩))] ρ') (fun _ _=>False) from ?_) B a1 w1 hf1 ha1 _ ?_ (fun _ _ _ _ _ _ k=>k.elim)
 · refine RW.bu rfl rfl rfl rfl (dA rfl) ?_;refine RW.bu rfl rfl rfl rfl (ay.ye underlying186 rfl) ?_;exact kR rfl ⟨rfl,rfl,rfl,trivial⟩
 rintro ρ'' h'' a2 w2 hf2 ha2 ⟨rfl,hsub2⟩;have hf2:=hf2.sub hsub2;refine wp_region ?_;refine(show RW Tryz.prog Tryz.f99.ntmps _ 0 _ h'' (fun _ g=>aD g nb 126 yF/\aD g eb 60 [.int .i64 10]/\Ext (fun b=>b=nb\/b=eb) h'' g) (fun _ _=>False) from ?_) B a2 w2 hf2 ha2 _ ?_ (fun _ _ _ _ _ _ k=>k.elim)
 · refine RW.bu rfl rfl rfl rfl (av (H.EN ) rfl) ?_;refine RW.BB rfl rfl rfl (aQ.gL H.nE rfl rfl hk rfl (by rw[hcs];decide) (by first|decide|simp[Value.oneCell'])) ?_;rintro _ h3 ⟨rfl,hk3,hx3,hz3⟩
   have hk3:aD h3 nb 126 yF:=by
    rw[IL (by rw[hcs];rfl)] at hk3;exact hk3
   refine RW.BB rfl rfl rfl (aQ.jH H.H9 rfl rfl (he.ext hx3 (fun e=>hne e.symm)) (by simp) rfl) ?_;rintro _ h4 ⟨rfl,hk4,hx4,hz4⟩;exact kR rfl ⟨hk3.ext hx4 (fun e=>hne e),hk4,(hx3.mono fun _ _ k=>.inl k).trans (hx4.mono fun _ _ k=>.inr k)⟩
 rintro _ h5 a5 w5 hf5 ha5 ⟨hq1,hq2,hq3⟩;exact⟨hf5.nd,_,fo hf5 ha5 .nil,⟨_,rfl⟩,rfl,h5,ha5,hq1,hq2,hq3⟩
theorem EI (B w:World) (ha:At B h w) :
 CallsD Tryz.prog 99 #[.pointer (some ⟨nb,0,none⟩),.pointer (some ⟨eb,0,none⟩)] .returning w fun e u' w'=>(∃r,e= .returned r)/\u'= .returning/\At B h w':=by
 refine ou (v:=.nilIface) (vs:=[.pointer (some ⟨nb,0,none⟩),.pointer (some ⟨eb,0,none⟩)]) (u':=.returning) func99 rfl rfl rfl rfl rfl rfl rfl rfl rfl rfl (fun c₀ cs hu=>.inr ⟨by simp[recoverD,hu],rfl,rfl⟩) (fun a hf=>?_);refine wp_seq (wp_region ?_);refine(show RW Tryz.prog Tryz.f99.ntmps _ 0 _ h (fun ρ' h'=>h'=h/\Sub [(5,.bool false)] ρ') (fun _ _=>False) from ?_) B a w hf ha _ ?_ (fun _ _ _ _ _ _ k=>k.elim)
 · refine RW.bu rfl rfl rfl rfl (dA rfl) ?_;refine RW.bu rfl rfl rfl rfl (ay.qR underlying20 rfl (.inl rfl)) ?_;exact kR rfl ⟨rfl,rfl,trivial⟩
 rintro ρ' h' a1 w1 hf1 ha1 ⟨rfl,hsub⟩;have hf1:=hf1.sub hsub;refine wp_cond_false (hf1.eval (x:=.tmp 5) rfl) (wp_skip ?_);exact⟨hf1.nd,_,fo hf1 ha1 .nil,⟨_,rfl⟩,rfl,ha1⟩
theorem vV {cs:List Value}{v0:Value}{ρ:Env}{R:Ending->ai->Prop}(h2:ρ.at 2=some (.pointer (some ⟨nb,0,none⟩))) (h3:ρ.at 3=some (.pointer (some ⟨eb,0,none⟩))) (hcs:cs.length=6) (hk:aD h nb 126 cs) (he:aD h eb 60 [v0]) (hne:nb≠eb)
 (hR:∀h',Ext (fun b=>b=nb\/b=eb) h h'->R (.returned (.tuple #[.agg yF.toArray,.int .i64 10])) h') :
 oW Tryz.prog f50 [{ target:=.fn (.func 99) #[.pointer (some ⟨nb,0,none⟩),.pointer (some ⟨eb,0,none⟩)],args:= #[] }] (.panicking [{ v:=vG,recovered:=false }]) ρ h R:=by
 intro B a w hf ha;refine leaves_cons (f:=99) (args:= #[.pointer (some ⟨nb,0,none⟩),.pointer (some ⟨eb,0,none⟩)]) (by simp) (pE func99 rfl (by decide +kernel)) ?_;refine(EH hcs hk he hne B w ha).mono ?_;rintro e u' w' ⟨⟨r,rfl⟩,rfl,h',ha',hk',he',hx'⟩;refine⟨_,fo hf.zero ha' (.cons (fU.MJ H.zQ H.nE h2 hk'.row rfl) (.cons (fU.cell H.Nt h3 (he'.cell (i:=0) rfl)) .nil)),h',ha',hR h' hx'⟩
theorem El {x:Nd}{w0:Value}{e0:Int}{ρ:Env}{R:Ending->ai->Prop}(h2:ρ.at 2=some (.pointer (some ⟨nb,0,none⟩))) (h3:ρ.at 3=some (.pointer (some ⟨eb,0,none⟩))) (hk:aD h nb 126 (dK x.kind x.set w0)) (he:aD h eb 60 [.int .i64 e0])
 (hR:R (.returned (.tuple #[.agg (dK x.kind x.set w0).toArray,.int .i64 e0])) h) :
 oW Tryz.prog f50 [{ target:=.fn (.func 99) #[.pointer (some ⟨nb,0,none⟩),.pointer (some ⟨eb,0,none⟩)],args:= #[] }] .returning ρ h R:=by
 intro B a w hf ha;refine leaves_cons (f:=99) (args:= #[.pointer (some ⟨nb,0,none⟩),.pointer (some ⟨eb,0,none⟩)]) (by simp) (pE func99 rfl (by decide +kernel)) ?_;refine(EI B w ha).mono ?_;rintro e u' w' ⟨⟨r,rfl⟩,rfl,ha'⟩;refine⟨_,fo hf.zero ha' (.cons (fU.MJ H.zQ H.nE h2 hk.row rfl) (.cons (fU.cell H.Nt h3 (he.cell (i:=0) rfl)) .nil)),h,ha',hR⟩
def Nw (h h':ai) (s:By) (r:Value):Prop:=∃w,r= .tuple #[.agg (dK (bC s).1.kind (bC s).1.set w).toArray,.int .i64 (bC s).2]/\bE h' (FT h.size) (dK (bC s).1.kind (bC s).1.set w) (bC s).1
theorem Ch {lim:Nat}(hg:Sg h lim) (hlim:lim<=h.size) (s:By) (hs:s.length<=1000000):aq Tryz.prog 50 #[.string (bs s)] h (bw fun r h'=>Nw h h' s r/\aj h h'):=by
 have hsz:=aG s;refine bL ?_;refine af ?_;refine xo rfl (cO) ?_;rintro _ h1 ⟨rfl,hk1,he1,hz1⟩;refine xo rfl (cO) ?_;rintro _ h2 ⟨rfl,hk2,he2,hz2⟩;refine af ?_;have hk1:aD h1 h.size 126 yF:=hk1;have hk2:aD h2 h1.size 60 [.int .i64 0]:=hk2;have hk12:=hk1.ah he2;have e2:=he1.trans he2;refine aR (fun hbig=>?_) (fun hbig=>?_)
 · have hE:bC s=(oP,3):=by unfold bC;rw[if_pos (by omega)]
   refine af ?_;refine xp rfl (av (H.EN ) rfl) ?_;refine aM rfl (aY rfl rfl hk12) ?_;rintro _ h3 ⟨rfl,hk3,hx3,hz3⟩;refine aM rfl (mj rfl rfl ((hk2.ext hx3 (by show ¬_=_;omega)))) ?_;rintro _ h4 ⟨rfl,hk4,hx4,hz4⟩;refine af ?_;have hk3:aD h3 h.size 126 yF:=hk3;have hk4:aD h4 h1.size 60 [.int .i64 3]:=hk4;refine ct (cj rfl ((hk3.ext hx4 (by show ¬_=_;omega)).row) (Ru rfl (hk4.cell (i:=0) rfl) cq)) ?_;refine⟨_,rfl,⟨.slice none 0 0,by rw[hE];rfl,by rw[hE];exact fJ _ _ 0 0⟩,aj.only (aj.only e2 hx3 (Nat.le_refl _)) hx4 (by omega)⟩
 · iterate 2 refine aX ?_
   refine G.Ng (caps:=[.pointer (some ⟨h.size,0,none⟩),.pointer (some ⟨h1.size,0,none⟩)]) func50 rfl rfl rfl rfl rfl rfl rfl rfl rfl rfl rfl ?_;have hE:bC s=match lp s with|some x=>(x,0)|none=>(oP,10):=by unfold bC;rw[if_neg (by omega)];rfl
   refine oE rfl ?_;refine GD.mJ func50 rfl ?_;refine ji.bu rfl rfl rfl rfl (dA rfl) ?_;refine ji.bu rfl rfl rfl rfl (av (H.Lm _) rfl) ?_;refine ji.GF rfl rfl rfl rfl (aQ.Pa rfl) ?_;rintro _ h3 ⟨rfl,hk3,he3,hz3⟩;refine ji.bu rfl rfl rfl rfl (ay.assign rfl) ?_;refine kr rfl ?_;refine GD.sub (ρ':=[(0,_),(2,_),(3,_),(4,_),(7,_)]) ⟨rfl,rfl,rfl,rfl,rfl,trivial⟩ ?_;refine oE rfl ?_;refine GD.mJ func50 rfl ?_;refine ji.bu rfl rfl rfl rfl (dA rfl) ?_;have hk3:aD h3 h2.size 189 [.string (bs s)]:=hk3;have hg3:Sg h3 lim:=hg.ext (e2.trans he3) (fun _ k=>k.elim);have hrows:=Fq lim (s.length+1) h3 h2.size s hg3 (by omega) hk3 (Nat.lt_succ_self _) hs;have hk13:=hk12.ah he3;have hk23:=hk2.ah he3;have e3:=e2.trans he3;refine ji.GF rfl rfl rfl rfl (rP (vs:=[_]) func100 rfl H.OF rfl (aq.N3 (hrows) ((fun _ h' ⟨hc,hp,hx⟩=>by rw[hc];exact vV rfl rfl rfl (hk13.ext hx (by show ¬_=_;omega)) (hk23.ext hx (by show ¬_=_;omega)) (by omega) (fun h'' hx2=>⟨_,rfl,⟨.slice none 0 0,by rw[hE];unfold lp;rw[hp];rfl,by rw[hE];unfold lp;rw[hp];exact fJ _ _ 0 0⟩,⟨by have:=hx.size;have:=hx2.size;have:=e3.size;omega,fun b hb _=>by rw[hx2.block b (by have:=hx.size;omega) (by omega),hx.block b (by omega) (by show ¬_=_;omega)];exact e3.block b hb (fun k=>k)⟩⟩))))) ?_;rintro _ h4 ⟨x,r,hp,⟨w,rfl,hnd⟩,hs4,hx4⟩;have hz4:=hx4.size;have hk14:=hk13.ext hx4 (by show ¬_=_;omega);have hk24:=hk23.ext hx4 (by show ¬_=_;omega);have e4:aj h h4:=aj.only e3 hx4 (by omega);refine ji.BB rfl rfl rfl (aQ.gL H.nE rfl rfl hk14 (by first|rfl|(simp;done)|(simp;omega)) (by first|decide|exact of_decide_eq_true rfl|(simp;done)|(simp;omega)) (bE.one hnd)) ?_;rintro _ h5 ⟨rfl,hk5,hx5,hz5⟩;refine kr rfl ?_;refine GD.sub (ρ':=[(0,_),(2,_),(3,_),(4,_),(7,_)]) ⟨rfl,rfl,rfl,rfl,rfl,trivial⟩ ?_;refine oE rfl ?_;refine oE rfl ?_;refine GD.mJ func50 rfl ?_;refine ji.bu rfl rfl rfl rfl (dA rfl) ?_;refine ji.bu rfl rfl rfl rfl (rQ rfl) ?_;refine ji.bu rfl rfl rfl rfl (fW (off:=0) underlying189 rfl rfl H.Ds rfl) ?_;have hk5:aD h5 h.size 126 (dK x.kind x.set w):=hk5;have hk25:=hk24.ext hx5 (by show ¬_=_;omega);have hs5:St h5 h2.size r:=aD.ext hs4 hx5 (by show ¬_=_;omega);have hnd5:bE h5 (FT h3.size) (dK x.kind x.set w) x:=gX hnd (Nat.le_refl _) hx5 (fun b _ (hb:b=h.size)=>by omega);have e5:=aj.only e4 hx5 (Nat.le_refl _);refine ji.bu rfl rfl rfl rfl (dR H.Ns rfl hs5.cell) ?_;refine ji.bu rfl rfl rfl rfl (ay.IU rfl rfl) ?_;refine kr rfl ?_;refine GD.sub (ρ':=[(0,_),(2,_),(3,_),(4,_),(7,_),(19,_)]) ⟨rfl,rfl,rfl,rfl,rfl,rfl,trivial⟩ ?_;refine NA rfl rfl (fun hr=>?_) (fun hr=>?_)
   · have hr:r≠[]:=fun e=>hr (by rw[e];rfl)
     have hpn:lp s=none:=by
      unfold lp;rw[hp];cases r with
      |nil=>exact absurd rfl hr
      |cons c t=>rfl
     refine GD.mJ func50 rfl ?_;refine ji.bu rfl rfl rfl rfl (av (H.iz ) rfl) ?_;refine ji.bu rfl rfl rfl rfl (kV H.Mb rfl) ?_;refine ji.BB rfl rfl rfl (dm (Φ:=fun _ _=>False) rfl (vV rfl rfl rfl hk5 hk25 (by omega) (fun h'' hx2=>⟨_,rfl,⟨.slice none 0 0,by rw[hE,hpn];rfl,by rw[hE,hpn];exact fJ _ _ 0 0⟩,⟨by have:=hx2.size;have:=e5.size;omega,fun b hb _=>by rw[hx2.block b (by have:=e5.size;omega) (by omega)];exact e5.block b hb (fun k=>k)⟩⟩))) ?_;rintro _ _ hpn;exact hpn.elim
   · obtain rfl:r=[]:=bl (Classical.not_not.1 hr);have hpn:lp s=some x:=by unfold lp;rw[hp]
     refine LI rfl ?_;refine oE rfl ?_;refine GD.mJ func50 rfl ?_;refine ji.bu rfl rfl rfl rfl (ay.jT H.zQ H.nE rfl hk5.row (by first|rfl|(simp;done)|(simp;omega))) ?_;refine ji.BB rfl rfl rfl (aQ.gL H.nE rfl rfl hk5 (by first|rfl|(simp;done)|(simp;omega)) (by first|decide|exact of_decide_eq_true rfl|(simp;done)|(simp;omega)) (bE.one hnd5)) ?_;rintro _ h6 ⟨rfl,hk6,hx6,hz6⟩;refine ji.BB rfl rfl rfl (aQ.jH H.H9 rfl rfl (hk25.ext hx6 (by show ¬_=_;omega)) (by first|decide|exact of_decide_eq_true rfl|(simp;done)|(simp;omega)) rfl) ?_;rintro _ h7 ⟨rfl,hk7,hx7,hz7⟩;refine kr rfl ?_;refine GD.sub (ρ':=[(0,_),(2,_),(3,_),(4,_),(7,_),(19,_)]) ⟨rfl,rfl,rfl,rfl,rfl,rfl,trivial⟩ ?_;have hk6:aD h6 h.size 126 (dK x.kind x.set w):=hk6;have hk7:aD h7 h1.size 60 [.int .i64 0]:=hk7;have hk17:=hk6.ext hx7 (by show ¬_=_;omega);have e7:=aj.only (aj.only e5 hx6 (Nat.le_refl _)) hx7 (by omega);have hnd7:bE h7 (FT h.size) (dK x.kind x.set w) x:=gX (gX hnd5 (Nat.le_refl _) hx6 (fun b _ (hb:b=h.size)=>by omega)) (by omega) hx7 (fun b _ (hb:b=h1.size)=>by omega);refine GD.ret func50 rfl ?_;exact El rfl rfl hk17 hk7 ⟨_,rfl,⟨w,by rw[hE,hpn],by rw[hE,hpn];exact hnd7⟩,e7⟩
end
end Go.Proofs.YtoickfdopobmgaaGreatDoor
namespace Go.Proofs.YtoickfdopobmgaaGreatDoor
section
variable {l:List Nd}{s:By}{x:Nd}{i:Nat}
structure aZ where
  kind:Nat
  set:Nat
  to:List Nat
  rule:Nat
end
mutual
def lay:Nd->List aZ->Nat->List aZ×Nat
  |.mk k s kids,ss,to =>
    if k=1 then (ss++[⟨1,s,[to],0⟩],ss.length)
    else if k=2 then bh kids ss to
    else if k=3 then ((aO kids ss to).1++[⟨0,0,(aO kids ss to).2,0⟩],(aO kids ss to).1.length)
    else if k=6 then ((bS kids ss to).1++[⟨0,0,[(bS kids ss to).2,to],0⟩],(bS kids ss to).1.length)
    else if k=4\/k=5 then
      ((bS kids (ss++[⟨0,0,[],0⟩]) ss.length).1.set ss.length ⟨0,0,[(bS kids (ss++[⟨0,0,[],0⟩]) ss.length).2,to],0⟩,
        if k=5 then (bS kids (ss++[⟨0,0,[],0⟩]) ss.length).2 else ss.length)
    else (ss,to)
def bh:List Nd->List aZ->Nat->List aZ×Nat
  | [],ss,to=>(ss,to)
  |x::r,ss,to=>lay x (bh r ss to).1 (bh r ss to).2
def aO:List Nd->List aZ->Nat->List aZ×List Nat
  | [],ss,_=>(ss,[])
  |x::r,ss,to=>((aO r (lay x ss to).1 to).1,(lay x ss to).2::(aO r (lay x ss to).1 to).2)
def bS:List Nd->List aZ->Nat->List aZ×Nat
  | [],ss,to=>(ss,to)
  |x::_,ss,to=>lay x ss to
end
mutual
def oX:Nd->Nat
  |.mk _ _ kids=>gJ kids+1
def gJ:List Nd->Nat
  | []=>0
  |x::r=>oX x+gJ r
end
mutual
def uK:Nd->Bool
  |.mk k _ kids=>(!(k ==4 ||k ==5 ||k ==6) ||kids.length ==1) && uL kids
def uL:List Nd->Bool
  | []=>true
  |x::r=>uK x && uL r
end
section
variable {l:List Nd}{s:By}{x:Nd}{i:Nat}
theorem Fa (x:Nd):0<oX x:=by cases x;simp[oX]
theorem ig:∀(l m:List Nd),gJ (l++m)=gJ l+gJ m
  | [],m=>by simp[gJ]
  |x::l,m=>by simp only[List.cons_append,gJ];rw[ig l m];omega
theorem mu:∀(l m:List Nd),uL (l++m)=(uL l && uL m)
  | [],m=>by simp[uL]
  |x::l,m=>by simp only[List.cons_append,uL];rw[mu l m,Bool.and_assoc]
theorem Af:∀{l:List Nd}{i:Nat}{x:Nd},uL l=true->l[i]? =some x->uK x=true
  | [],i,x,_,h=>by simp at h
  |y::l,0,x,hw,h=>by simp at h;subst h;simp only[uL,Bool.and_eq_true] at hw;exact hw.1
  |y::l,i+1,x,hw,h=>by simp only[uL,Bool.and_eq_true] at hw;exact Af hw.2 (by simpa using h)
end
mutual
theorem fZ:∀(x:Nd) (ss:List aZ) (to:Nat),ss.length<=(lay x ss to).1.length/\(lay x ss to).1.length<=ss.length+oX x
  |.mk k s kids,ss,to=>by
    rw[lay];simp only[oX];split
    · simp
    · split
      · have:=jW kids ss to;omega
      · split
        · have:=fy kids ss to;simp only[List.length_append,List.length_singleton];omega
        · split
          · have:=gy kids ss to;simp only[List.length_append,List.length_singleton];omega
          · split
            · have:=gy kids (ss++[⟨0,0,[],0⟩]) ss.length;simp only[List.length_append,List.length_singleton] at this;simp only[List.length_set];omega
            · simp
theorem jW:∀(l:List Nd) (ss:List aZ) (to:Nat),ss.length<=(bh l ss to).1.length/\(bh l ss to).1.length<=ss.length+gJ l
  | [],ss,to=>by simp[bh,gJ]
  |x::r,ss,to=>by
    rw[bh];have h1:=jW r ss to;have h2:=fZ x (bh r ss to).1 (bh r ss to).2;simp only[gJ];omega
theorem fy:∀(l:List Nd) (ss:List aZ) (to:Nat),ss.length<=(aO l ss to).1.length/\(aO l ss to).1.length<=ss.length+gJ l
  | [],ss,to=>by simp[aO,gJ]
  |x::r,ss,to=>by
    rw[aO];have h1:=fZ x ss to;have h2:=fy r (lay x ss to).1 to;simp only[gJ];omega
theorem gy:∀(l:List Nd) (ss:List aZ) (to:Nat),ss.length<=(bS l ss to).1.length/\(bS l ss to).1.length<=ss.length+gJ l
  | [],ss,to=>by simp[bS,gJ]
  |x::r,ss,to=>by
    rw[bS];have h1:=fZ x ss to;simp only[gJ];omega
end
section
variable {l:List Nd}{s:By}{x:Nd}{i:Nat}
def Small (s:By) (p:Option (Nd×By)):Prop:=∀x r,p=some (x,r)->oX x+2*r.length<=2*s.length+1/\uK x=true
theorem Aj (k:Nat) (l:List Nd):oX (bT k l)<=gJ l+1:=by
  unfold bT;split
  · simp[oP,oX,gJ]
  · simp[gJ]
  · simp[oX]
theorem Ae {k:Nat}(hk:k=2\/k=3) (h:uL l=true):uK (bT k l)=true:=by
  unfold bT;split
  · rfl
  · simp only[uL,Bool.and_eq_true] at h;exact h.1
  · simp only[uK,h,Bool.and_true];rcases hk with rfl|rfl<;>rfl
theorem tf:∀(s:By) (n:Nd),uK n=true->oX (eS n s).1+2*(eS n s).2.length<=oX n+2*s.length/\uK (eS n s).1=true
  | [],n,hw=>by simp[eS,hw]
  |c::r,n,hw=>by
    rw[eS];split
    · simp[hw]
    · rename_i hs;have hw':uK (.mk (dn c) 0 [n])=true:=by simp[uK,uL,hw]
      have h:=tf r (.mk (dn c) 0 [n]) hw';refine⟨?_,h.2⟩;have h1:=h.1;simp only[oX,gJ,List.length_cons] at h1 ⊢;omega
theorem Cf {rows:By->Option (Nd×By)}(hr:∀s,Small s (rows s)){r:By}(h:gu rows s=some (x,r)):oX x+2*r.length+1<=2*s.length/\uK x=true:=by
  have leaf:∀k st,(k=0\/k=1)->uK (.mk k st [])=true:=fun k st hk=>by rcases hk with rfl|rfl<;>rfl
  have key:∀y t,fC rows s=some (y,t)->oX y+2*t.length+1<=2*s.length/\uK y=true:=by
    intro y t ha;have hlen:∀(k st:Nat),y= .mk k st []->t.length<s.length->oX y+2*t.length+1<=2*s.length:=fun k st hy ht=>by subst hy;simp only[oX,gJ];omega
    unfold fC at ha;split at ha
    · cases ha
    · rename_i c u;split at ha
      · split at ha
        · cases ha
        · rename_i n t' ht;split at ha
          · rename_i t'' _;cases ha;have:=hr _ _ _ ht;simp only[List.length_cons] at this ⊢;exact⟨by omega,this.2⟩
          · cases ha
      · split at ha
        · have hb:=rI ha
          have hy:∃st,y= .mk 1 st []:=by
            unfold iQ at ha;split at ha<;>(simp only[Option.map_eq_some_iff] at ha;obtain⟨⟨m,r'⟩,_,h2⟩:=ha;cases h2;exact⟨_,rfl⟩)
          obtain⟨st,rfl⟩:=hy;exact⟨hlen _ _ rfl (by simp only[List.length_cons];omega),leaf _ _ (.inr rfl)⟩
        · split at ha
          · cases ha;exact⟨hlen _ _ rfl (by simp),leaf _ _ (.inr rfl)⟩
          · split at ha
            · simp only[Option.map_eq_some_iff] at ha;obtain⟨⟨b,r'⟩,h1,h2⟩:=ha;have:=wO h1;cases h2;exact⟨hlen _ _ rfl (by simp only[List.length_cons];omega),leaf _ _ (.inr rfl)⟩
            · split at ha
              · cases ha
              · cases ha;exact⟨hlen _ _ rfl (by simp),leaf _ _ (.inr rfl)⟩
  unfold gu at h;simp only[Option.map_eq_some_iff] at h;obtain⟨⟨n,t⟩,h1,h2⟩:=h;have h3:=key n t h1;have h4:=tf t n h3.2;rw[h2] at h4;simp only at h4;exact⟨by omega,h4.2⟩
theorem nJ {rows:By->Option (Nd×By)}(hr:∀s,Small s (rows s)):∀(n:Nat) (all row:List Nd) (s:By) (x:Nd) (r:By),uL all=true->uL row=true->jf rows n all row s=some (x,r) ->
    oX x+2*r.length<=2*s.length+1+gJ all+gJ row+(if all=[] then 0 else 1)/\uK x=true
  | 0,_,_,_,_,_,_,_,h=>by cases h
  |n+1,all,row,s,x,r,hwa,hwr,h=>by
    rw[jf] at h;split at h
    · split at h
      · rename_i hbar;have hs:s.tail.length+1=s.length:=by cases s with|nil=>cases hbar|cons a b=>simp
        have hw':uL (all++[bT 2 row])=true:=by rw[mu,hwa];simp[uL,Ae (.inl rfl) hwr]
        have ih:=nJ hr n _ _ _ _ _ hw' (by rfl) h;have hj:=Aj 2 row;have ha:gJ (all++[bT 2 row])=gJ all+oX (bT 2 row):=by rw[ig];simp[gJ]
        rw[ha] at ih;refine⟨?_,ih.2⟩;have h1:=ih.1;rw[if_neg (by simp)] at h1;simp only[gJ] at h1;omega
      · cases h;have hj:=Aj 2 row;have hj3:=Aj 3 (all++[bT 2 row]);have ha:gJ (all++[bT 2 row])=gJ all+oX (bT 2 row):=by rw[ig];simp[gJ]
        refine⟨?_,Ae (.inr rfl) (by rw[mu,hwa];simp[uL,Ae (.inl rfl) hwr])⟩;split
        · rename_i he;subst he;have:bT 3 ([]++[bT 2 row])=bT 2 row:=rfl;rw[this];simp only[gJ] at *;omega
        · rw[ha] at hj3;omega
    · split at h
      · cases h
      · rename_i y t ht;have h1:=Cf hr ht;have ih:=nJ hr n all (row++[y]) t x r hwa (by rw[mu,hwr];simp[uL,h1.2]) h;have ha:gJ (row++[y])=gJ row+oX y:=by rw[ig];simp[gJ]
        rw[ha] at ih;exact⟨by have:=ih.1;omega,ih.2⟩
theorem tj:∀(d:Nat) (s:By),Small s (dU d s)
  | 0,s=>fun x r h=>by cases h
  |d+1,s=>fun x r h=>by
    have:=nJ (fun s=>tj d s) _ _ _ _ _ _ rfl rfl h;simpa [gJ] using this
theorem AF (h:lp s=some x):oX x<=2*s.length+1/\uK x=true:=by
  unfold lp at h;split at h
  · rename_i n hn;cases h;have:=tj _ _ _ _ hn;simpa using this
  · cases h
theorem CM (hx:l[i]? =some x) (ss:List aZ) (to:Nat):bh (l.drop i) ss to=lay x (bh (l.drop (i+1)) ss to).1 (bh (l.drop (i+1)) ss to).2:=by
  obtain⟨hi,rfl⟩:=List.getElem?_eq_some_iff.1 hx;rw[List.drop_eq_getElem_cons hi,bh]
theorem nS:∀(l:List Nd) (ss:List aZ) (to:Nat),(aO l ss to).2.length=l.length
  | [],ss,to=>by simp[aO]
  |x::r,ss,to=>by rw[aO];simp[nS r]
end
mutual
theorem mQ:∀(x:Nd) (ss:List aZ) (to i:Nat),i<ss.length->(lay x ss to).1[i]? =ss[i]?
  |.mk k s kids,ss,to,i,hi=>by
    rw[lay];split
    · simp[List.getElem?_append_left hi]
    · split
      · exact we kids ss to i hi
      · split
        · have:=fy kids ss to;simp only;rw[List.getElem?_append_left (by omega)];exact qg kids ss to i hi
        · split
          · have:=gy kids ss to;simp only;rw[List.getElem?_append_left (by omega)];exact qf kids ss to i hi
          · split
            · simp only;rw[List.getElem?_set_ne (by omega),qf kids (ss++[(⟨0,0,[],0⟩:aZ)]) ss.length i (by simp;omega),List.getElem?_append_left hi]
            · rfl
theorem we:∀(l:List Nd) (ss:List aZ) (to i:Nat),i<ss.length->(bh l ss to).1[i]? =ss[i]?
  | [],ss,to,i,hi=>by simp[bh]
  |x::r,ss,to,i,hi=>by
    rw[bh];have h1:=jW r ss to;rw[mQ x _ _ i (by omega),we r ss to i hi]
theorem qg:∀(l:List Nd) (ss:List aZ) (to i:Nat),i<ss.length->(aO l ss to).1[i]? =ss[i]?
  | [],ss,to,i,hi=>by simp[aO]
  |x::r,ss,to,i,hi=>by
    rw[aO];have h1:=fZ x ss to;simp only;rw[qg r _ _ i (by omega),mQ x ss to i hi]
theorem qf:∀(l:List Nd) (ss:List aZ) (to i:Nat),i<ss.length->(bS l ss to).1[i]? =ss[i]?
  | [],ss,to,i,hi=>by simp[bS]
  |x::r,ss,to,i,hi=>by
    rw[bS];exact mQ x ss to i hi
end
section
variable {l:List Nd}{s:By}{x:Nd}{i:Nat}
theorem H7 (hx:l[i]? =some x):gJ (l.take i)+oX x<=gJ l:=by
  obtain⟨hi,rfl⟩:=List.getElem?_eq_some_iff.1 hx;have h:gJ (l.take i++l.drop i)=gJ l:=by rw[List.take_append_drop]
  rw[ig,List.drop_eq_getElem_cons hi,gJ] at h;omega
theorem H8 (hx:l[i]? =some x):gJ (l.drop (i+1))+oX x<=gJ l:=by
  obtain⟨hi,rfl⟩:=List.getElem?_eq_some_iff.1 hx;have h:gJ (l.take i++l.drop i)=gJ l:=by rw[List.take_append_drop]
  rw[ig,List.drop_eq_getElem_cons hi,gJ] at h;omega
theorem Fb:∀l:List Nd,l.length<=gJ l
  | []=>by simp[gJ]
  |x::l=>by have:=Fb l;have:=Fa x;simp only[List.length_cons,gJ];omega
def tn:List aZ->List Bool->Nat
  |x::r,b::s=>(if b then 0 else x.to.length+1)+tn r s
  |_,_=>0
def jg (ss:List aZ):Nat->List Nat->List Bool->List Bool
  | 0,_,seen=>seen
  |n+1,todo,seen =>
    match todo.getLast? with
    |none=>seen
    |some i =>
      if seen[i]? =some true then jg ss n todo.dropLast seen
      else jg ss n (match ss[i]? with|some x=>if x.kind=0 then todo.dropLast++x.to else todo.dropLast|none=>todo.dropLast) (seen.set i true)
def closed (ss:List aZ) (todo:List Nat):List Nat :=
  if todo.length=0 then []
  else ((List.range ss.length).filter fun i=>(jg ss (todo.length+tn ss (List.replicate ss.length false)) todo (List.replicate ss.length false))[i]? ==some true && (ss[i]?.map (·.kind)) !=some 0)
theorem AE:∀(ss:List aZ) (seen:List Bool) (i:Nat) (x:aZ),ss[i]? =some x->seen[i]? =some false->tn ss (seen.set i true)+(x.to.length+1)=tn ss seen
  | [],_,_,_,h,_=>by simp at h
  |_::_,[],_,_,_,h=>by simp at h
  |y::r,b::s,0,x,h1,h2=>by
    simp at h1 h2;subst h1 h2;simp[tn];omega
  |y::r,b::s,i+1,x,h1,h2=>by
    have:=AE r s i x (by simpa using h1) (by simpa using h2);simp only[List.set_cons_succ,tn];omega
def Good (ss:List aZ):Prop:=∀x∈ss,∀j∈x.to,j<ss.length
def bR (ss:List aZ) (st:Nat):List Nat:=if ss.length=0 then [] else closed ss [st]
def rK (x:aZ) (b:Int):Bool:=decide (x.kind=2/\(b<0\/(x.rule:Int)<b))
def rL (ss:List aZ):List Nat->Int->Int
  | [],b=>b
  |j::r,b=>rL ss r (match ss[j]? with|some x=>if rK x b then x.rule else b|none=>b)
def aL (ss:List aZ) (now:List Nat):Int:=if ss.length=0 then -1 else rL ss now (-1)
def jI (x:aZ) (c:UInt8):Bool:=decide (x.kind=1) && x.set.testBit c.toNat
def stepG (ss:List aZ) (c:UInt8):List Nat->List Nat->List Nat
  | [],a=>a
  |j::r,a=>stepG ss c r (match ss[j]? with|some x=>if jI x c then a++x.to else a|none=>a)
def bV (ss:List aZ) (c:UInt8) (now:List Nat):List Nat:=if ss.length=0 then [] else closed ss (stepG ss c now [])
theorem rV (ss:List aZ) (c:UInt8):∀(l a:List Nat),a.length<=(stepG ss c l a).length
  | [],a=>Nat.le_refl _
  |j::r,a=>by
    rw[stepG];refine Nat.le_trans ?_ (rV ss c r _);split
    · split<;>simp
    · exact Nat.le_refl _
def gv (ss:List aZ):List UInt8->List Nat->Nat->Int×Int->Int×Int
  |l,now,k,b =>
    if now.length=0 then b
    else match l with
      | []=>if 0<=aL ss now then ((k:Int),aL ss now) else b
      |c::r=>gv ss r (bV ss c now) (k+1) (if 0<=aL ss now then ((k:Int),aL ss now) else b)
def cY (ss:List aZ) (st:Nat) (l:List UInt8):Int×Int:=if ss.length=0 then (0,-1) else gv ss l (bR ss st) 0 (0,-1)
def Ef (ss:List aZ) (st:Nat) (s:By) (a:Int):Int×Int:=if ss.length=0\/a<0\/(s.length:Int)<a then (0,-1) else cY ss st (s.drop a.toNat)
theorem qd {ss:List aZ}{l:List UInt8}{now:List Nat}{k:Nat}{b:Int×Int}(h:now.length=0):gv ss l now k b=b:=by cases l<;>(rw[gv];exact if_pos h)
theorem DR (ss:List aZ) (st:Nat):(bR ss st).Sublist (List.range ss.length):=by
  unfold bR closed;split
  · exact List.nil_sublist _
  · split
    · exact List.nil_sublist _
    · exact List.filter_sublist
theorem Gh (ss:List aZ) (c:UInt8) (now:List Nat):(bV ss c now).Sublist (List.range ss.length):=by
  unfold bV closed;split
  · exact List.nil_sublist _
  · split
    · exact List.nil_sublist _
    · exact List.filter_sublist
def lT:Nat->List By->List aZ->List Nat->Int ⊕ (List aZ×List Nat)
  |_,[],ss,t=>.inr (ss,t)
  |i,s::r,ss,t=>if (bC s).2≠0 then .inl (bC s).2 else lT (i+1) r (lay (bC s).1 (ss++[⟨2,0,[],i⟩]) ss.length).1 (t++[(lay (bC s).1 (ss++[⟨2,0,[],i⟩]) ss.length).2])
def yf (l:List By):Nat:=(l.map List.length).sum
def eX (rules:List By):Int ⊕ (List aZ×Nat) :=
  if rules.length=0\/64<rules.length then .inl 2
  else match lT 0 rules [] [] with
    |.inl e=>.inl e
    |.inr (ss,t)=>if 2000<yf rules then .inl 70 else .inr (ss++[⟨0,0,t,0⟩],ss.length)
theorem qP (h0:(bC s).2=0):oX (bC s).1<=401/\uK (bC s).1=true/\s.length<=200:=by
  unfold bC at *;split at h0
  · cases h0
  · rename_i hl;rw[if_neg hl];split at h0
    · rename_i x hx;have:=AF hx;exact⟨by show oX x<=401;omega,this.2,by omega⟩
    · cases h0
theorem yK {l:List By}(hx:l[i]? =some s):yf (l.take (i+1))=yf (l.take i)+s.length:=by
  rw[List.take_add_one,hx,Option.toList_some];simp[yf]
end
end Go.Proofs.YtoickfdopobmgaaGreatDoor
namespace Go.Proofs.YtoickfdopobmgaaGreatDoor
open Go.Proofs.Tryz
open Go Go.Lw
set_option maxRecDepth 20000 set_option maxHeartbeats 4000000
section
variable {h:ai}{O:Nat->Prop}{v:Value}{nb st:Nat}
def dZ (n:Nat):Value:=.int .i64 (n:Nat)
def iY:fQ Nat:=.flat dZ fun _=>rfl
def Gl (k s:Nat) (v:Value) (r:Nat):List Value:=[.int .i64 (k:Nat),eM s 0,eM s 1,eM s 2,eM s 3,v,.int .i64 (r:Nat)]
def Kg (h:ai) (O:Nat->Prop) (cs:List Value) (x:aZ):Prop:=∃v,cs=Gl x.kind x.set v x.rule/\aT iY h O v x.to
theorem aT.L6 {α:Type}{e:fQ α}{xs:List α}(k:aT e h O v xs):v.oneCell'=true:=by
 obtain⟨oa,n,c,rfl,_⟩:=k;rfl
def Hf:fQ aZ:=⟨7,by decide,Kg,fun h=>by obtain⟨v,rfl,_⟩:=h;rfl,fun h=>by
 obtain⟨v,rfl,hv⟩:=h;intro u hu;simp[Gl,eM] at hu
 rcases hu with rfl|rfl|rfl|rfl|rfl|rfl|rfl<;>first|rfl|exact aT.L6 hv,fun h m=>by
 obtain⟨v,hc,hv⟩:=h;exact⟨v,hc,hv.mv m⟩⟩
structure bO (h:ai) (O:Nat->Prop) (nb:Nat) (v:Value) (ss:List aZ) (st:Nat):Prop where
 blk:aD h nb 120 [v,.int .i64 (st:Nat)]
 row:cH Hf (fun b=>b=nb\/O b) h (nb+1) 132 v ss
abbrev eG (nb:Nat) (v:Value):Nat->Prop:=fun b=>b=nb\/cv v.ownBlock b
theorem bO.own {ss:List aZ}(k:bO h O nb v ss st):∀b,v.ownBlock=some b->nb<b/\b<h.size:=fun b hb=>by
 obtain⟨css,_,h2,_⟩:=k.row;have:=h2.lt hb;omega
theorem bO.ext {M:Nat->Prop}{O O':Nat->Prop}{h h':ai}{nb:Nat}{v:Value}{ss:List aZ}{st:Nat}(k:bO h O nb v ss st) (e:Ext M h h') (hnb:¬M nb) (hown:∀b,v.ownBlock=some b->¬M b) (hM:∀b,b<h.size->M b->O b) (hO:∀b,b<h.size->O' b->O b):bO h' O' nb v ss st :=
 ⟨k.blk.ext e hnb,k.row.qD e hown (fun b hb hm=>.inr (hM b hb hm)) (fun b hb k=>k.imp id (hO b hb))⟩
theorem bO.ah {O':Nat->Prop}{h':ai}{ss:List aZ}(k:bO h O nb v ss st) (e:aj h h') (hO:∀b,b<h.size->O' b->O b):bO h' O' nb v ss st:=k.ext e (fun k=>k) (fun _ _ k=>k) (fun _ _ k=>k.elim) hO
theorem Hu {w:Value}{ss:List aZ}{x:aZ}(hn:bO h O nb v ss st) (_hO:∀b,O b->b<h.size) (hx:Kg h (fun b=>eG nb v b\/O b) (Gl x.kind x.set w x.rule) x) (hl:ss.length<=1000000) :
 aq Tryz.prog 52 #[.pointer (some ⟨nb,0,none⟩),.agg (Gl x.kind x.set w x.rule).toArray] h (bw fun r h'=>∃v',r= .int .i64 (ss.length:Nat)/\bO h' O nb v' (ss++[x]) st/\Ext (eG nb v) h h'/\(∀b,v'.ownBlock=some b->v.ownBlock=some b\/h.size<=b)):=by
 have hw1:∀u∈Gl x.kind x.set w x.rule,u.oneCell'=true:=Hf.one hx;refine bL ?_;refine af ?_;refine xo rfl (jj) ?_;rintro _ h1 ⟨rfl,hk1,he1,hz1⟩;have hk1:aD h1 h.size 132 (Gl x.kind x.set w x.rule):=hk1;have hn1:=hn.ah (O':=O) he1 (fun _ _ k=>k);obtain⟨css,hc1,hc2,hc3⟩:=id hn1.row;have hown:=hn1.own;have hnlt:=hn1.blk.lt;have hnz:=hn.blk.lt;have hnM:¬(cv v.ownBlock nb\/Array.size h1<=nb):=by rintro(k|k);(have:=hown nb k.symm;omega);omega
 have hkM:¬(cv v.ownBlock h.size\/Array.size h1<=h.size):=by rintro(k|k);(have:=hn.own _ k.symm;omega);omega
 refine af ?_;refine me 11 (fun b=>cv v.ownBlock b\/Array.size h1<=b) (fun i=>Nat.blt i 10) ?_;refine aI 0 ?_;refine aI 1 ?_;refine aI 2 ?_;refine aI 3 ?_;refine bI 4 rfl (fun h' e=>aA rfl (e.cell hnM (hn1.blk.cell (i:=0) rfl))) ?_;refine bI 5 rfl (fun h' e=>bY rfl (e.rowAt hkM hk1.row)) ?_;refine dH 6 rfl (ue) ?_;rintro _ _ ⟨rfl,rfl⟩;refine⟨fun _=>by first|exact Ext.push _ _ _|assumption,?_⟩;refine dH 7 rfl (aQ.gG underlying118 H.L8 rfl rfl (hc2) rfl rfl (hw1) (by omega) (by decide) (by omega)) ?_;rintro v2 h2 ⟨ho2,hx2,hx2',hv2⟩;refine⟨fun _=>hx2'.mono (fun _ _ k=>.inl k),?_⟩;obtain⟨oa2,c2,rfl,_⟩:=ho2.open;refine LS 8 ?_;refine aI 9 ?_;refine kX 10 rfl (mj rfl rfl ((hn1.blk.ext hx2 (fun k=>by have:=hown nb k.symm;omega)))) ?_;rintro _ h3 ⟨rfl,hk3,hx3,hz3⟩;refine⟨nofun,?_⟩;refine iT ?_;refine af ?_;have hxs:Hf.R h1 (fun b=>cv v.ownBlock b\/b=nb\/O b) (Gl x.kind x.set w x.rule) x:=Hf.mv hx ⟨he1.size,fun b hb hn=>⟨he1.block b hb (fun k=>k),fun k=>hn (by rcases k with k|k|k;(exact .inl (.inr k));(exact .inl (.inl k));exact .inr k)⟩⟩;have hrow2:cH Hf (fun b=>b=nb\/O b) h2 (nb+1) 132 (.slice oa2 (ss.length+1) c2) (ss++[x]):=cH.gq hc1 hc3 ho2 hx2 hv2 hxs;have hrow3:cH Hf (fun b=>b=nb\/O b) h3 (nb+1) 132 (.slice oa2 (ss.length+1) c2) (ss++[x]):=hrow2.qD hx3 (fun b hb (k:b=nb)=>by have:=hv2 b hb;rcases this with k'|k';(have:=hown b k';omega);omega) (fun b _ k=>.inl k) (fun b _ k=>k);have hk3:aD h3 nb 120 [.slice oa2 (ss.length+1) c2,.int .i64 (st:Nat)]:=hk3;refine xp rfl (aA rfl (hk3.cell (i:=0) rfl)) ?_;refine af ?_;refine bp ?_;refine⟨_,rfl,_,?_,⟨hk3,hrow3⟩,⟨by have:=he1.size;have:=hx2.size;omega,fun b hb hn=>by rw[hx3.block b (by have:=hx2.size;omega) (fun k=>hn (.inl k)),hx2.block b (by omega) (fun k=>hn (.inr k)),he1.block b hb (fun k=>k)]⟩,fun b hb=>?_⟩
 · show Value.int _ _=_
   congr 1;omega
 · rcases hv2 b hb with k|k
   · exact .inl k
   · exact .inr (by omega)
theorem uu {l cap:Nat}{oa:Option Addr}{n c:Nat}{J:Nat->ai->Prop}(hn:n<=1000000)
 (hread:∀j h,J j h->cellAt h ⟨cap,0,none⟩=some (.slice oa n c)) (hy:∀j h,J (j+1) h->j<n->∃(b o k s:Nat) (w:Value),oa=some ⟨b,o,none⟩/\Lw.rowAt h b (o+j*6) (dK k s w) /\
  gW Tryz.prog l #[.int .i64 (j:Nat),.agg (dK k s w).toArray] h (bw fun r h'=>r= .bool true/\J j h')) (h0:J n h) :
 aq Tryz.prog 146 #[.func (.yield l) #[] #[],.pointer (some ⟨cap,0,none⟩)] h (bw fun _ h'=>J 0 h'):=by
 refine bL ?_;refine af ?_;refine xp rfl (aA rfl (hread _ _ h0)) ?_;refine af ?_;refine gY (σ:=Nat) (fun j=>[(3,.int .i64 ((j:Int)-1))]) (fun j h'=>J j h'/\j<=n) (fun j=>j) (n) ⟨h0,Nat.le_refl _⟩ rfl ?_;rintro j h1 ⟨hJ,hj⟩ ih;refine af ?_;refine aR (fun hge=>?_) (fun hge=>?_)
 · obtain⟨i,rfl⟩:∃i,j=i+1:=⟨j-1,by omega⟩
   obtain⟨b,o,k,s,w,ha,hrow,hyy⟩:=hy i h1 hJ (by omega);have hji:((i+1:Nat):Int)-1=((i:Nat):Int):=by omega
   rw[hji];refine qB rfl ?_;refine kW rfl ?_;refine G.block rfl rfl ?_;refine kW rfl ?_;refine G.MM func146 rfl ?_;refine ef.bu rfl rfl rfl rfl rfl (dA rfl) ?_;refine ef.bu rfl rfl rfl rfl rfl (dA rfl) ?_;refine ef.bu rfl rfl rfl rfl rfl (dR H.Mg rfl (hread _ _ hJ)) ?_;refine ef.bu rfl rfl rfl rfl rfl (dA rfl) ?_;refine ef.bu rfl rfl rfl rfl rfl (ay.jZ underlying124 H.nE rfl rfl i rfl ha (by omega)) ?_;refine ef.bu rfl rfl rfl rfl rfl (ay.jT H.zQ H.nE rfl hrow (by first|rfl|(simp;done)|(simp;omega))) ?_;refine sM (vs:=[_,_]) rfl rfl rfl rfl rfl rfl rfl (hyy) ?_;rintro _ h2 ⟨rfl,hJ2⟩;refine ef.bu rfl rfl rfl rfl rfl (ay.KN rfl) ?_;refine fV rfl ?_;refine fe rfl (by decide) ?_;refine af ?_;exact ih i ⟨hJ2,by omega⟩
 · obtain rfl:j=0:=by omega
   refine af ?_;refine Hz ?_;exact⟨_,rfl,hJ⟩
theorem xy (v:Value) (hv:v.oneCell'=true):aq Tryz.prog 101 #[v] h (bw fun r h'=>r= .func (.func 146) #[] #[.pointer (some ⟨h.size,0,none⟩)]/\h'=h.push (.cells #[v] 124)):=by
 have hcells:v.cells= #[v]:=by cases v<;>simp[Value.oneCell'] at hv<;>rfl
 refine bL ?_;refine af ?_;refine xo rfl (aQ.box rfl) ?_;rintro _ _ ⟨rfl,rfl⟩;refine af ?_;refine xp rfl (ay.makeFunc (vs:=[_]) rfl) ?_;refine af ?_;refine bp ?_;exact⟨_,rfl,rfl,by rw[hcells]⟩
end
end Go.Proofs.YtoickfdopobmgaaGreatDoor
namespace Go.Proofs.YtoickfdopobmgaaGreatDoor
open Go Go.Lw
set_option maxRecDepth 20000
section
variable {O:Nat->Prop}{nb:Nat}{h h':ai}{v:Value}
structure Nx (O:Nat->Prop) (nb:Nat) (h:ai) (v:Value) (h':ai) (v':Value):Prop where
  ext:Ext (fun b=>eG nb v b\/O b) h h'
  own:∀b,v'.ownBlock=some b->v.ownBlock=some b\/h.size<=b
theorem Nx.refl {O:Nat->Prop}{nb:Nat}{h:ai}{v:Value}:Nx O nb h v h v:=⟨Ext.refl _ _,fun _ k=>.inl k⟩
theorem Nx.NJ (e:aj h h'):Nx O nb h v h' v:=⟨e.mono fun _ _ k=>k.elim,fun _ k=>.inl k⟩
theorem Nx.mono {O O':Nat->Prop}{nb:Nat}{h h':ai}{v v':Value}(k:Nx O nb h v h' v') (hO:∀b,b<h.size->O b->O' b):Nx O' nb h v h' v':=⟨k.ext.mono fun b hb k=>k.imp id (hO b hb),k.own⟩
theorem Nx.trans {O':Nat->Prop}{h1 h2:ai}{v1 v2:Value}(k:Nx O nb h v h1 v1) (k':Nx O' nb h1 v1 h2 v2) (hO:∀b,b<h.size->O' b->O b):Nx O nb h v h2 v2:=by
  refine⟨⟨Nat.le_trans k.ext.size k'.ext.size,fun b hb hn=>?_⟩,fun b hb=>?_⟩
  · rw[k'.ext.block b (Nat.lt_of_lt_of_le hb k.ext.size) ?_,k.ext.block b hb hn];rintro((k1|k1)|k1)
    · exact hn (.inl (.inl k1))
    · rcases k.own b k1.symm with k2|k2
      · exact hn (.inl (.inr k2.symm))
      · omega
    · exact hn (.inr (hO b hb k1))
  · have:=k.ext.size
    rcases k'.own b hb with k2|k2
    · exact k.own b k2
    · exact .inr (by omega)
theorem Nx.mv {v':Value}(k:Nx O nb h v h' v'):Mv (fun b=>eG nb v b\/O b) (fun b=>eG nb v' b\/O b) h h' :=
  ⟨k.ext.size,fun b hb hn=>⟨k.ext.block b hb hn,by
    rintro((k1|k1)|k1)
    · exact hn (.inl (.inl k1))
    · rcases k.own b k1.symm with k2|k2
      · exact hn (.inl (.inr k2.symm))
      · omega
    · exact hn (.inr k1)⟩⟩
theorem Nx.tA {v':Value}(k:Nx (fun _=>False) nb h v h' v'):Mv (eG nb v) (eG nb v') h h' :=
  ⟨k.ext.size,fun b hb hn=>⟨k.ext.block b hb (fun k=>k.elim hn id),fun k1=>by
    rcases k1 with k1|k1
    · exact hn (.inl k1)
    · rcases k.own b k1.symm with k2|k2
      · exact hn (.inr k2.symm)
      · omega⟩⟩
def LH (O:Nat->Prop) (nb:Nat) (h:ai) (v:Value) (st:Nat) (out:List aZ×Nat) (r:Value) (h':ai):Prop:=∃v',r= .int .i64 (out.2:Nat)/\bO h' O nb v' out.1 st/\Nx (fun _=>False) nb h v h' v'
def Kj (n:Nat):Prop:=∀{x:Nd}{h:ai}{O:Nat->Prop}{nb:Nat}{v w:Value}{ss:List aZ}{st to:Nat},oX x<=n->bO h O nb v ss st->(∀b,O b->b<h.size)->bE h (eG nb v) (dK x.kind x.set w) x->uK x=true->ss.length+oX x<=1000000 ->
  aq Tryz.prog 51 #[.pointer (some ⟨nb,0,none⟩),.agg (dK x.kind x.set w).toArray,.int .i64 (to:Nat)] h (bw (LH O nb h v st (lay x ss to)))
theorem Br {w:Value}{ss:List aZ}{st:Nat}{x:aZ}(hn:bO h O nb v ss st) (hO:∀b,O b->b<h.size) (hx:Kg h (fun b=>eG nb v b\/O b) (Gl x.kind x.set w x.rule) x) (hl:ss.length<=1000000) :
    aq Tryz.prog 52 #[.pointer (some ⟨nb,0,none⟩),.agg (Gl x.kind x.set w x.rule).toArray] h (bw (LH O nb h v st (ss++[x],ss.length))) :=
  (Hu hn hO hx hl).mono fun e h' r=>by
    obtain⟨u,he,v',hu,hn',hx',ho⟩:=r;exact⟨u,he,v',hu,hn',hx'.mono fun _ _ k=>.inl k,ho⟩
theorem L7 (i:Nat):eM 0 i= .int .u64 0:=by simp[eM,DG]
theorem oy {w:Value}{ss:List aZ}{st:Nat}{to:List Nat}(hn:bO h O nb v ss st) (hO:∀b,O b->b<h.size) (hx:aT iY h (fun b=>eG nb v b\/O b) w to) (hl:ss.length<=1000000) :
    aq Tryz.prog 52 #[.pointer (some ⟨nb,0,none⟩),.agg #[.int .i64 0,.int .u64 0,.int .u64 0,.int .u64 0,.int .u64 0,w,.int .i64 0]] h (bw (LH O nb h v st (ss++[⟨0,0,to,0⟩],ss.length))):=by
  have h1:=Br (x:=⟨0,0,to,0⟩) hn hO ⟨w,rfl,hx⟩ hl;simp only[Gl,L7] at h1;exact h1
theorem RL (t:TypeId) (a:Nat) (ho:¬O h.size):aT iY (h.push (.cells #[.int .i64 (a:Nat)] t)) O (.slice (some ⟨h.size,0,none⟩) 1 1) [a]:=aT.pG (e:=iY) (cs:=[dZ a]) rfl ho
theorem Qe (t:TypeId) (a b:Nat) (ho:¬O h.size):aT iY (h.push (.cells #[.int .i64 (a:Nat),.int .i64 (b:Nat)] t)) O (.slice (some ⟨h.size,0,none⟩) 2 2) [a,b] :=
  ⟨_,2,2,rfl,rfl,Nat.le_refl _,by simp[maxLen],fun i x hx=>by
    refine⟨h.size,0,[dZ x],rfl,ho,?_,rfl⟩;have hr:=nK h [.int .i64 (a:Nat),.int .i64 (b:Nat)] t;intro j u hj;have h0:j=0:=by have:=(List.getElem?_eq_some_iff.1 hj).1;simp at this;omega
    subst h0;simp only[List.getElem?_cons_zero,Option.some.injEq] at hj;subst hj
    match i with
    | 0=>simp at hx;subst hx;exact hr 0 _ rfl
    | 1=>simp at hx;subst hx;exact hr 1 _ rfl
    |i+2=>simp at hx⟩
theorem tE:∀(l:List Nd) (x:Nd) (ss:List aZ) (to:Nat),aO (l++[x]) ss to=((lay x (aO l ss to).1 to).1,(aO l ss to).2++[(lay x (aO l ss to).1 to).2])
  | [],x,ss,to=>by simp[aO]
  |y::l,x,ss,to=>by
    rw[List.cons_append,aO,tE l x,aO];simp
theorem tD {l:List Nd}{i:Nat}{x:Nd}(hx:l[i]? =some x) (ss:List aZ) (to:Nat):aO (l.take (i+1)) ss to=((lay x (aO (l.take i) ss to).1 to).1,(aO (l.take i) ss to).2++[(lay x (aO (l.take i) ss to).1 to).2]):=by
  rw[List.take_add_one,hx,Option.toList_some,tE]
def LO (nb b5 cap d:Nat) (r0:Loop) (hL:ai) (v sl:Value) (O:Nat->Prop) (kids:List Nd) (ss:List aZ) (st to j:Nat) (g:ai):Prop :=
  ∃v',ck g (d+1) r0/\g[d]? =some (.deferred (some []))/\aD g cap 124 [sl]/\bO g (fun b=>O b\/(b5<=b/\b<hL.size)) nb v' (bh (kids.drop j) ss to).1 st /\
    aD g b5 3 [.int .i64 ((bh (kids.drop j) ss to).2:Nat)]/\Nx (fun b=>b5<=b/\b<hL.size) nb hL v g v'
end
end Go.Proofs.YtoickfdopobmgaaGreatDoor
namespace Go.Proofs.YtoickfdopobmgaaGreatDoor
open Go.Proofs.Tryz
open Go Go.Lw
set_option maxRecDepth 20000 set_option maxHeartbeats 4000000
section
variable {h:ai}
theorem kk {k j:Nat}(h:¬((k:Nat):Int)=(j:Nat)):¬k=j:=fun e=>h (by rw[e])
theorem Ji {n:Nat}(ih:Kj n):Kj (n+1):=by
 intro x h O nb v w ss st to hsz hn hO hx hw hl;obtain⟨k,s,kids⟩:=x;simp only[oX] at hsz hl;have hown:=hn.own;have hnb:=hn.blk.lt;obtain⟨w',hw',hkids⟩:=hx.open;have hww:w=w':=by simpa [dK] using hw'
 subst hww
 show aq _ _ #[_,.agg (dK k s w).toArray,_] h _
 replace hkids:aT tK h (eG nb v) w kids:=hkids;obtain⟨oa,kn,kc,rfl,hsl⟩:=hkids.open;refine bL ?_;refine af ?_;refine xo rfl (jj) ?_;rintro _ h1 ⟨rfl,q3,e1,z1⟩;refine xo rfl (jj) ?_;rintro _ h2 ⟨rfl,q4,e2,z2⟩;refine xo rfl (jj) ?_;rintro _ h3 ⟨rfl,q5,e3,z3⟩;have q3:aD h1 h.size 75 [.pointer (some ⟨nb,0,none⟩)]:=q3;have q4:aD h2 h1.size 126 (dK k s (.slice oa kn kc)):=q4;have q5:aD h3 h2.size 3 [.int .i64 (to:Nat)]:=q5;have q3:=(q3.ah e2).ah e3;have q4:=q4.ah e3;have e03:aj h h3:=(e1.trans e2).trans e3;have hn3:bO h3 O nb v ss st:=hn.ah e03 (fun _ _ k=>k);have hO3:∀b,O b->b<h3.size:=fun b hb=>by have:=hO b hb;have:=e03.size;omega
 have nx3:Nx (fun _=>False) nb h v h3 v:=Nx.NJ e03;have hsl3:aT tK h3 (eG nb v) (.slice oa kn kc) kids:=hkids.mv nx3.tA
 have hnew3:∀b,h3.size<=b->¬(eG nb v b\/O b):=by
  have hz:=e03.size;rintro b hb ((k1|k1)|k1)
  · omega
  · have:=hown b k1.symm;omega
  · have:=hO b k1;omega
 have hnM:∀b,h.size<=b->¬(eG nb v b\/False):=by
  rintro b hb ((k1|k1)|k1)
  · omega
  · have:=hown b k1.symm;omega
  · exact k1
 have hkn:kids.length=kn:=hsl.len;have hwl:uL kids=true:=by simp only[uK,Bool.and_eq_true] at hw;exact hw.2
 have hklen:=Fb kids;refine af ?_;refine xp rfl (aA rfl (q4.cell (i:=0) rfl)) ?_;refine af ?_;refine aR (fun h1k=>?_) (fun h1k=>?_)
 · obtain rfl:k=1:=by omega
   have hlay:lay (.mk 1 s kids) ss to=(ss++[⟨1,s,[to],0⟩],ss.length):=by rw[lay];simp
   rw[hlay];refine af ?_;refine xp rfl (aA rfl (q3.cell (i:=0) rfl)) ?_;refine af ?_;refine xp rfl (bY rfl (q4.part 1 (ds:=[eM s 0,eM s 1,eM s 2,eM s 3]) (by intro j v hv;match j with| 0=>exact hv| 1=>exact hv| 2=>exact hv| 3=>exact hv|j+4=>simp at hv))) ?_;refine xp rfl (aA rfl (q5.cell (i:=0) rfl)) ?_;refine xo rfl (iL [_]) ?_;rintro _ _ ⟨rfl,rfl⟩;refine xp rfl (av (H.Dd _ _ _ _ _ _ _ _) rfl) ?_;refine xo rfl (aE rfl (Br (O:=O) (x:=⟨1,s,[to],0⟩) (hn3.ah (Ext.push _ _ _) (fun _ _ k=>k)) (fun b hb=>by have:=hO3 b hb;simp;omega) ⟨_,rfl,RL _ to (hnew3 _ (Nat.le_refl _))⟩ (by omega))) ?_;rintro _ h5 ⟨v',rfl,hn5,nx5⟩;refine af ?_;refine bp ?_;exact⟨_,rfl,v',rfl,hn5,(nx3.trans (Nx.NJ (Ext.push _ _ _)) (fun _ _ k=>k)).trans nx5 (fun _ _ k=>k)⟩
 · have h1k':¬k=1:=kk h1k;refine af ?_;refine aR (fun h2k=>?_) (fun h2k=>?_)
   · obtain rfl:k=2:=by omega
     have hlay:lay (.mk 2 s kids) ss to=bh kids ss to:=by rw[lay];simp
     rw[hlay];have hz0:=e03.size;refine af ?_;refine xp rfl (aA rfl (q4.cell (i:=5) rfl)) ?_;refine xo rfl (aE rfl (xy (.slice oa kn kc) rfl)) ?_;rintro _ h4 ⟨rfl,hh4⟩;have e4:aj h3 h4:=by rw[hh4];exact Ext.push _ _ _
     have q6:aD h4 h3.size 124 [.slice oa kn kc]:=by rw[hh4];exact Bz _ _ _
     have z4:h4.size=h3.size+1:=by rw[hh4];simp
     clear hh4;refine af ?_;refine G.rangeFunc rfl rfl func146 rfl (by decide +kernel) ?_;intro fid tmps hfits;obtain⟨r0,hr0⟩:∃r0,r0=fG fid tmps #[30,31] (Qv (Lw.sub (ax f51) [0,1,0,0,1,1,1,0,1,0,1])) (Qu (Lw.sub (ax f51) [0,1,0,0,1,1,1,0,1,0,1])) h4.size:=⟨_,rfl⟩
     obtain⟨hL,hhL⟩:∃hL,hL=(h4.push (.deferred (some []))).push (.loop r0):=⟨_,rfl⟩
     suffices hmain:aq Tryz.prog 146 #[.func (.yield (h4.size+1)) #[] #[],.pointer (some ⟨h3.size,0,none⟩)] hL _ by rw[hhL,hr0] at hmain;exact hmain
     have hst:r0.state= .ready:=by rw[hr0];rfl
     have hpn:r0.pending=none:=by rw[hr0];rfl
     have hps:r0.params= #[30,31]:=by rw[hr0];rfl
     have htm:r0.tmps=tmps:=by rw[hr0];rfl
     have eL:aj h4 hL:=by rw[hhL];exact(Ext.push _ _ _).trans (Ext.push _ _ _)
     have hLz:hL.size=h4.size+2:=by rw[hhL];simp
     have hloop0:ck hL (h4.size+1) r0:=by
      have hz:h4.size+1=(h4.push (.deferred (some []))).size:=by simp
      rw[ck,hhL,hz];exact Array.getElem?_push_size
     have hdef0:hL[h4.size]? =some (.deferred (some [])):=by
      rw[hhL,(Ext.push (fun _=>False) (h4.push (.deferred (some []))) _).block h4.size (by simp) (fun k=>k)];exact Array.getElem?_push_size
     clear hhL;have e0L:aj h hL:=(e03.trans e4).trans eL;have q3L:=(q3.ah e4).ah eL;have q5L:=(q5.ah e4).ah eL;have q6L:=q6.ah eL;have hnL:bO hL (fun b=>O b\/(h2.size<=b/\b<hL.size)) nb v ss st:=hn.ah e0L (fun b hb k=>k.elim id (fun k=>by omega));have hkL:aT tK hL (fun b=>eG nb v b\/(h2.size<=b/\b<hL.size)) (.slice oa kn kc) kids:=hkids.mv ⟨e0L.size,fun b hb hn=>⟨e0L.block b hb (fun k=>k),fun k=>k.elim hn (fun k=>by omega)⟩⟩;have hdropn:kids.drop kn=[]:=List.drop_of_length_le (by omega);have hJ0:LO nb h2.size h3.size h4.size r0 hL v (.slice oa kn kc) O kids ss st to kn hL:=⟨v,hloop0,hdef0,q6L,by rw[hdropn,bh];exact hnL,by rw[hdropn,bh];exact q5L,Nx.refl⟩
     have hvM:∀{v':Value}{g:ai},Nx (fun b=>h2.size<=b/\b<hL.size) nb hL v g v'->∀b,h.size<=b->b<hL.size->¬eG nb v' b:=by
      rintro v' g nx b hb hb' (k1|k1)
      · omega
      · rcases nx.own b k1.symm with k2|k2
        · have:=hown b k2;omega
        · omega
     refine suff (p:=∀j g,LO nb h2.size h3.size h4.size r0 hL v (.slice oa kn kc) O kids ss st to (j+1) g->j<kn->∃(b o k s:Nat) (w:Value),oa=some ⟨b,o,none⟩/\Lw.rowAt g b (o+j*6) (dK k s w)/\gW Tryz.prog (h4.size+1) #[.int .i64 (j:Nat),.agg (dK k s w).toArray] g (bw fun r h'=>r= .bool true/\LO nb h2.size h3.size h4.size r0 hL v (.slice oa kn kc) O kids ss st to j h')) ?_ fun hy=>?_
     · intro j g ⟨v',hlp,hdf,hcap,hng,hb5,nxg⟩ hj;obtain⟨x,hx⟩:∃x,kids[j]? =some x:=⟨_,List.getElem?_eq_getElem (by omega)⟩
       have hkg:=hkL.mv nxg.mv;obtain⟨oa',n',c',hv',_,_,_,hget⟩:=id hkg;cases hv';obtain⟨b,o,cs,ha,hob,hrow,hnd⟩:=hget j x hx;obtain⟨w2,rfl,-⟩:=hnd.open;refine⟨b,o,x.kind,x.set,w2,ha,hrow,?_⟩;have hcatd:=CM hx ss to;have hszx:=H8 hx;have hbl:=jW (kids.drop (j+1)) ss to;have hfit:=wF (p1:=30) (p2:=31) (v1:=.int .i64 (j:Nat)) (v2:=.agg (dK x.kind x.set w2).toArray) hfits rfl rfl;rw[<-hps,<-htm] at hfit;have hvg:=hvM nxg;have hzg:=nxg.ext.size;have q3g:=q3L.ext nxg.ext (fun k=>k.elim (hvM Nx.refl (v':=v) (g:=hL) _ (Nat.le_refl _) (by omega)) (fun k=>by omega));refine gW.of hlp hst (by rw[hps];rfl) hfit ((congrArg Loop.assign hr0).trans rfl) ((congrArg Loop.body hr0).trans rfl) ?_;refine ef.GF rfl rfl rfl rfl rfl (aQ.Bq H.LQ) ?_;rintro _ g1 ⟨rfl,k8,e1',zz1⟩;refine ef.BB rfl rfl rfl rfl (aQ.gL H.nE rfl rfl k8 (by first|rfl|(simp;done)|(simp;omega)) (by first|decide|exact of_decide_eq_true rfl|(simp;done)|(simp;omega)) (bE.one hnd)) ?_;rintro _ g2 ⟨rfl,k8',e2',zz2⟩;refine fV rfl ?_;have e12:aj g g2:=e1'.only e2' (Nat.le_refl _);have k8':aD g2 g.size 126 (dK x.kind x.set w2):=k8';refine⟨(e12.block _ hlp.lt (fun k=>k)).trans hlp,?_⟩;obtain⟨g3,hg3⟩:∃g3,g3=Lw.bM g2 (h4.size+1) (.loop { r0 with state:=.busy }):=⟨_,rfl⟩
       rw[<-hg3];have hlz:=hlp.lt;have hz2:=e12.size;have e23:Ext (fun b=>b=h4.size+1) g2 g3:=by rw[hg3];exact Ext.bM _ _ _ rfl
       have hlp3:ck g3 (h4.size+1) { r0 with state:=.busy }:=by rw[ck,hg3];exact iw (by omega)
       have hz3:=e23.size;have e13:Ext (fun b=>b=h4.size+1) g g3:=(e12.mono fun _ _ k=>k.elim).trans e23;have l3:¬h.size=h4.size+1:=by omega
       have l5:¬h2.size=h4.size+1:=by omega
       have l6:¬h3.size=h4.size+1:=by omega
       have l8:¬g.size=h4.size+1:=by omega
       have ld:¬h4.size=h4.size+1:=by omega
       have q33:=q3g.ext e13 l3;have b53:=hb5.ext e13 l5;have cap3:=hcap.ext e13 l6;have k83:=k8'.ext e23 l8;have hown':∀b,v'.ownBlock=some b->¬b=h4.size+1:=fun b hb k=>hvg b (by omega) (by omega) (.inr hb.symm)
       have hn3g:bO g3 (fun b=>O b\/(h2.size<=b/\b<hL.size)) nb v' (bh (kids.drop (j+1)) ss to).1 st:=hng.ext e13 (by omega) hown' (fun b _ k=>.inr (by omega)) (fun b _ k=>k);have hnd3:bE g3 (eG nb v') (dK x.kind x.set w2) x:=hnd.mv ⟨e13.size,fun b hb hn=>⟨e13.block b hb (fun k=>hn (.inr (by omega))),fun k=>hn (.inl k)⟩⟩;refine ef.bu rfl rfl rfl rfl rfl (dR H.Pf rfl (q33.cell (i:=0) rfl)) ?_;refine ef.bu rfl rfl rfl rfl rfl (ay.jT H.zQ H.nE rfl k83.row (by first|rfl|(simp;done)|(simp;omega))) ?_;refine ef.bu rfl rfl rfl rfl rfl (dR H.NO rfl (b53.cell (i:=0) rfl)) ?_;refine ef.GF rfl rfl rfl rfl rfl (rP (vs:=[_,_,_]) func51 rfl H.QB rfl (aq.HV (ih (x:=x) (O:=fun b=>O b\/(h2.size<=b/\b<hL.size)) (to:=(bh (kids.drop (j+1)) ss to).2) (by omega) hn3g (fun b hb=>by rcases hb with k|k;(have:=hO b k;omega);omega) hnd3 (Af hwl hx) (by omega)))) ?_;rintro _ g4 ⟨v4,rfl,hn4,nx4⟩;have hM4:∀b,h.size<=b->b<hL.size->¬(eG nb v' b\/False):=fun b h1 h2 k=>k.elim (hvg b h1 h2) id
       have b54:=b53.ext nx4.ext (hM4 _ (by omega) (by omega));refine ef.BB rfl rfl rfl rfl (aQ.jH H.nD rfl rfl b54 (by first|decide|exact of_decide_eq_true rfl|(simp;done)|(simp;omega)) rfl) ?_;rintro _ g5 ⟨rfl,b55,e5',zz5⟩;refine fV rfl ?_;have b55:aD g5 h2.size 3 [.int .i64 ((lay x (bh (kids.drop (j+1)) ss to).1 (bh (kids.drop (j+1)) ss to).2).2:Nat)]:=b55;have hz4:=nx4.ext.size;have nx45:Nx (fun b=>h2.size<=b/\b<hL.size) nb g3 v' g5 v4:=⟨⟨by omega,fun b hb hn=>by rw[e5'.block b (by omega) (fun k=>hn (.inr (by omega))),nx4.ext.block b hb (fun k=>hn (k.elim .inl (fun k=>k.elim)))]⟩,nx4.own⟩
       have hlp5:ck g5 (h4.size+1) { r0 with state:=.busy }:=(hlp3.ext nx4.ext (hM4 _ (by omega) (by omega))).ext e5' (fun k=>by omega);have hr2:({ ({ r0 with state:=.busy }:Loop) with state:=.ready,pending:=none }:Loop)=r0:=by cases r0;simp at hst hpn;simp[hst,hpn]
       refine⟨_,hlp5,rfl,?_⟩;rw[hr2];have e56:Ext (fun b=>b=h4.size+1) g5 (Lw.bM g5 (h4.size+1) (.loop r0)):=Ext.bM _ _ _ rfl
       have hown4:∀b,v4.ownBlock=some b->¬b=h4.size+1/\¬b=h2.size:=fun b hb=>by
        rcases nx4.own b hb with k|k
        · exact⟨hown' b k,fun k'=>hvg b (by omega) (by omega) (.inr k.symm)⟩
        · omega
       have hdf5:g5[h4.size]? =some (.deferred (some [])):=by
        rw[e5'.block h4.size (by omega) (by omega),nx4.ext.block h4.size (by omega) (hM4 _ (by omega) (by omega)),e13.block h4.size (by omega) (by omega)];exact hdf
       have cap5:=(cap3.ext nx4.ext (hM4 _ (by omega) (by omega))).ext e5' (by omega);refine⟨v4,iw (by omega),by rw[e56.block h4.size (by omega) (by omega)];exact hdf5,cap5.ext e56 l6,?_,?_,?_⟩
       · rw[hcatd];have hn5:bO g5 (fun b=>O b\/(h2.size<=b/\b<hL.size)) nb v4 (lay x (bh (kids.drop (j+1)) ss to).1 (bh (kids.drop (j+1)) ss to).2).1 st:=hn4.ext e5' (by omega) (fun b hb=>(hown4 b hb).2) (fun b _ k=>.inr (by omega)) (fun _ _ k=>k);exact hn5.ext e56 (by omega) (fun b hb=>(hown4 b hb).1) (fun b _ k=>.inr (by omega)) (fun _ _ k=>k)
       · rw[hcatd];exact b55.ext e56 l5
       · exact((nxg.trans ⟨e13.mono (fun b _ k=>.inr (by omega)),fun b k=>.inl k⟩ (fun b _ k=>k)).trans nx45 (fun b _ k=>k)).trans ⟨e56.mono (fun b _ k=>.inr (by omega)),fun b k=>.inl k⟩ (fun b _ k=>k)
     · refine(uu (l:=h4.size+1) (cap:=h3.size) (n:=kn) (c:=kc) (J:=LO nb h2.size h3.size h4.size r0 hL v (.slice oa kn kc) O kids ss st to) (by omega) (fun j g hJ=>by obtain⟨_,_,_,k,_⟩:=hJ;exact k.cell (i:=0) rfl) hy hJ0).mono fun e g hJ=>?_
       obtain⟨u,rfl,v',hlp,hdf,hcap,hng,hb5,nxg⟩:=hJ;rw[List.drop_zero] at hng hb5;refine⟨_,rfl,r0,hlp,by rw[hst];decide,hpn,?_⟩;have hzg:=nxg.ext.size;have hlz:=hlp.lt;have e1:Ext (fun b=>b=h4.size+1) g (Lw.bM g (h4.size+1) (.loop { r0 with state:=.exhausted })):=Ext.bM _ _ _ rfl;have b5e:=hb5.ext e1 (by omega);have hdfe:=(e1.block h4.size (by omega) (by omega)).trans hdf;have hvg:=hvM nxg;refine GD.qx ?_;refine oE rfl ?_;refine GD.mJ func51 rfl ?_;refine ji.bu rfl rfl rfl rfl (dR H.NO rfl (b5e.cell (i:=0) rfl)) ?_;refine ji.bu rfl rfl rfl rfl (ay.assign rfl) ?_;refine kr rfl ?_;refine GD.sub (ρ':=[(0,_),(1,_),(2,_),(3,_),(4,_),(5,_),(6,_),(15,_),(16,_),(25,_),(29,_)]) ⟨rfl,rfl,rfl,rfl,rfl,rfl,rfl,rfl,rfl,rfl,rfl,trivial⟩ ?_;refine GD.Fu func51 rfl hdfe rfl ?_;have e2:Ext (fun b=>b=h4.size) (Lw.bM g (h4.size+1) (.loop { r0 with state:=.exhausted })) (Lw.bM (Lw.bM g (h4.size+1) (.loop { r0 with state:=.exhausted })) h4.size (.deferred none)):=Ext.bM _ _ _ rfl;have e12:Ext (fun b=>b=h4.size+1\/b=h4.size) g _:=(e1.mono fun _ _ k=>.inl k).trans (e2.mono fun _ _ k=>.inr k);have hownv:∀b,v'.ownBlock=some b->¬(b=h4.size+1\/b=h4.size):=fun b hb k=>hvg b (by omega) (by omega) (.inr hb.symm)
       refine⟨_,rfl,v',rfl,hng.ext e12 (by omega) hownv (fun b _ k=>.inr (by omega)) (fun b _ k=>.inl k),?_⟩;have nxe:Nx (fun b=>h2.size<=b) nb h v _ v':=((Nx.NJ e0L).trans nxg (fun b _ k=>k.1)).trans ⟨e12.mono (fun b _ k=>.inr k),fun b k=>.inl k⟩ (fun b hb k=>by omega);exact nxe.mono (fun b hb k=>by omega)
   · have h2k':¬k=2:=kk h2k;refine af ?_;refine aR (fun h3k=>?_) (fun h3k=>?_)
     · obtain rfl:k=3:=by omega
       have hlay:lay (.mk 3 s kids) ss to=((aO kids ss to).1++[⟨0,0,(aO kids ss to).2,0⟩],(aO kids ss to).1.length):=by rw[lay];simp
       rw[hlay];refine af ?_;refine xp rfl (aA rfl (q4.cell (i:=5) rfl)) ?_;refine af ?_;refine gY (σ:=Nat×Value) (fun p=>[(9,p.2),(42,.int .i64 (p.1:Nat))]) (fun p h'=>p.1<=kn/\∃v',bO h' (fun b=>O b\/cv p.2.ownBlock b) nb v' (aO (kids.take p.1) ss to).1 st/\cH iY (fun _=>True) h' h3.size 3 p.2 (aO (kids.take p.1) ss to).2/\Nx (fun _=>False) nb h3 v h' v'/\(∀b,p.2.ownBlock=some b->v'.ownBlock≠some b)) (fun p=>kn-p.1) ((0,.slice none 0 0)) ⟨Nat.zero_le _,v,by simpa [aO] using hn3.ah (Ext.refl _ _) (fun b _ k=>k.elim id (fun k=>by cases k)),by simpa [aO] using cH.nil iY (fun _=>True) h3 h3.size 3,Nx.refl,fun b hb=>by cases hb⟩ rfl ?_;rintro⟨i,t9⟩ gh ⟨hi,v',hnH,htH,nxH,hdist⟩ ih2
       try dsimp only
       dsimp only at hi hnH htH nxH hdist;have hzH:=nxH.ext.size;have hz0:=e03.size;have q3H:=q3.ext nxH.ext (hnM _ (Nat.le_refl _));have q5H:=q5.ext nxH.ext (hnM _ (by omega));have hslH:aT tK gh (eG nb v') (.slice oa kn kc) kids:=hsl3.mv nxH.tA;have ht9:∀b,t9.ownBlock=some b->h3.size<=b/\b<gh.size:=fun b hb=>by obtain⟨_,_,k,_⟩:=id htH;exact k.lt hb
       have hlenT:(aO (kids.take i) ss to).2.length=i:=by rw[nS,List.length_take];omega
       refine af ?_;refine aR (fun hlt=>?_) (fun hlt=>?_)
       · have hik:i<kids.length:=by omega
         obtain⟨x,hx⟩:∃x,kids[i]? =some x:=⟨_,List.getElem?_eq_getElem hik⟩
         obtain⟨oa',n',c',hv',_,_,_,hget⟩:=id hslH;cases hv';obtain⟨b,o,cs,ha,hob,hrow,hnd⟩:=hget i x hx;obtain⟨w2,rfl,-⟩:=hnd.open;have hszx:=H7 hx;have hbl:=fy (kids.take i) ss to
         iterate 4 refine aX ?_
         refine cD ?_;refine xp rfl (cz rfl rfl i rfl ha) ?_;refine xp rfl (bY rfl hrow) ?_;refine xo rfl (cO) ?_;rintro _ h5 ⟨rfl,q11,e5,z5⟩;refine aM rfl (aY rfl rfl q11 (bE.one hnd)) ?_;rintro _ h6 ⟨rfl,q11',e6,z6⟩;have e56:aj gh h6:=e5.only e6 (Nat.le_refl _);have q11':aD h6 gh.size 126 (dK x.kind x.set w2):=q11';have hn6:bO h6 (fun b=>O b\/cv t9.ownBlock b) nb v' (aO (kids.take i) ss to).1 st:=hnH.ah e56 (fun _ _ k=>k);have nx6:Nx (fun _=>False) nb gh v' h6 v':=Nx.NJ e56;have hz6:=e56.size;have hnd6:=hnd.mv nx6.tA;refine af ?_;refine xp rfl (aA rfl ((q3H.ah e56).cell (i:=0) rfl)) ?_;refine xp rfl (bY rfl q11'.row) ?_;refine xp rfl (aA rfl ((q5H.ah e56).cell (i:=0) rfl)) ?_;refine xo rfl (aE rfl (ih (x:=x) (O:=fun b=>O b\/cv t9.ownBlock b) (to:=to) (by omega) hn6 (fun b hb=>by rcases hb with k|k;(have:=hO3 b k;omega);(have:=ht9 b k.symm;omega)) hnd6 (Af hwl hx) (by omega))) ?_;rintro _ h7 ⟨v7,rfl,hn7,nx7⟩
         have ht7:cH iY (fun _=>True) h7 h3.size 3 t9 (aO (kids.take i) ss to).2:=(htH.ah e56).qD nx7.ext (fun b hb=>by
          rintro((k1|k1)|k1)
          · have:=ht9 b hb;omega
          · exact hdist b hb k1.symm
          · exact k1) (fun _ _ _=>trivial) (fun _ _ _=>trivial)
         obtain⟨css,hc1,hc2,hc3⟩:=id ht7;have hz7:=nx7.ext.size;refine xo rfl (iL [_]) ?_;rintro _ _ ⟨rfl,rfl⟩;refine xo rfl (uH rfl rfl hc2 rfl rfl) ?_;rintro t9' h8 ⟨ho8,hx8,-,hv8⟩;refine af ?_;have ht8:cH iY (fun _=>True) h8 h3.size 3 t9' ((aO (kids.take i) ss to).2++[(lay x (aO (kids.take i) ss to).1 to).2]):=cH.gq hc1 hc3 ho8 hx8 hv8 rfl
         have hn8:bO h8 (fun b=>O b\/cv t9'.ownBlock b) nb v7 (lay x (aO (kids.take i) ss to).1 to).1 st:=hn7.ext hx8 (fun k=>by have:=ht9 nb k.symm;omega) (fun b hb k=>by
          rcases nx7.own b hb with k'|k'
          · exact hdist b k.symm k'
          · have:=ht9 b k.symm;omega) (fun b _ k=>.inr k) (fun b hb k=>k.imp id (fun k=>by
            rcases hv8 b k.symm with k'|k'
            · exact k'.symm
            · omega))
         have hd8:∀b,t9'.ownBlock=some b->v7.ownBlock≠some b:=fun b hb k=>by
          rcases hv8 b hb with k'|k'
          · rcases nx7.own b k with k2|k2
            · exact hdist b k' k2
            · have:=ht9 b k';omega
          · have:=(hn7.own b k).2;omega
         exact ih2 (i+1,t9') ⟨by show i+1<=kn;omega,v7,by rw[tD hx];exact hn8,by rw[tD hx];exact ht8,⟨⟨by have:=hx8.size;omega,fun b hb hn=>by rw[hx8.block b (by omega) (fun k=>by have:=ht9 b k.symm;omega)];exact((nxH.trans nx6 (fun _ _ k=>k)).trans nx7 (fun _ _ k=>k)).ext.block b hb hn⟩,((nxH.trans nx6 (fun _ _ k=>k)).trans nx7 (fun _ _ k=>k)).own⟩,hd8⟩
       · obtain rfl:i=kn:=by omega
         have hall:kids.take i=kids:=List.take_of_length_le (by omega);rw[hall] at hnH htH hlenT;have hbl:=fy kids ss to
         have hrd:aT iY gh (fun b=>eG nb v' b\/O b) t9 (aO kids ss to).2:=htH.vq (fun b hb=>by
          rintro((k1|k1)|k1)
          · have:=ht9 b hb;omega
          · exact hdist b hb k1.symm
          · have:=ht9 b hb;have:=hO3 b k1;omega) (fun _ _ _=>trivial)
         obtain⟨oa9,n9,c9,rfl,_⟩:=id hrd;refine af ?_;refine xp rfl (aA rfl (q3H.cell (i:=0) rfl)) ?_;refine af ?_;refine xp rfl (av (H.Bo _ _ _) rfl) ?_;refine xo rfl (aE rfl (oy (O:=O) (hnH.ah (Ext.refl _ _) (fun b _ k=>.inl k)) (fun b hb=>by have:=hO3 b hb;omega) hrd (by omega))) ?_;rintro _ h5 ⟨v5,rfl,hn5,nx5⟩;refine af ?_;refine bp ?_;exact⟨_,rfl,v5,rfl,hn5,(nx3.trans nxH (fun _ _ k=>k)).trans nx5 (fun _ _ k=>k)⟩
     · have h3k':¬k=3:=kk h3k;refine af ?_;refine aR (fun h6k=>?_) (fun h6k=>?_)
       · obtain rfl:k=6:=by omega
         have hone:kids.length=1:=by simp[uK] at hw;exact hw.1
         obtain⟨x,rfl⟩:∃x,kids=[x]:=by match kids,hone with| [x],_=>exact⟨x,rfl⟩
         have hkn1:kn=1:=by simpa using hkn.symm
         have hszx:oX x<=gJ [x]:=by simp[gJ]
         have hwx:uK x=true:=by simpa [uL] using hwl
         have hlay:lay (.mk 6 s [x]) ss to=((lay x ss to).1++[⟨0,0,[(lay x ss to).2,to],0⟩],(lay x ss to).1.length):=by rw[lay];simp[bS]
         rw[hlay];have hz0:=e03.size;obtain⟨oa',n',c',hv',_,_,_,hget⟩:=id hsl3;cases hv';obtain⟨b,o,cs,ha,hob,hrow,hnd⟩:=hget 0 x rfl;obtain⟨w2,rfl,-⟩:=hnd.open
         have hnM3:∀b,h.size<=b->b<h3.size->¬(eG nb v b\/h3.size<=b):=by
          rintro b hb hb' ((k1|k1)|k1)
          · omega
          · have:=hown b k1.symm;omega
          · omega
         have hbM:¬(eG nb v b\/h3.size<=b):=by
          rintro(k1|k1)
          · exact hob k1
          · have:=dL hrow (by simp[dK]);omega
         have m3:=hnM3 h.size (Nat.le_refl _) (by omega);have m4:=hnM3 h1.size (by omega) (by omega);have m5:=hnM3 h2.size (by omega) (by omega);have hlenx:=fZ x ss to;refine af ?_;refine me 13 (fun b=>eG nb v b\/Array.size h3<=b) (fun i=>Nat.blt i 13) ?_;refine bI 0 rfl (fun h' e=>aA rfl (e.cell m3 (q3.cell (i:=0) rfl))) ?_;refine bI 1 rfl (fun h' e=>aA rfl (e.cell m3 (q3.cell (i:=0) rfl))) ?_;refine aI 2 ?_;refine bI 3 rfl (fun h' e=>aA rfl (e.cell m4 (q4.cell (i:=5) rfl))) ?_;refine bI 4 rfl (fun h' e=>cz rfl rfl 0 rfl ha) ?_;refine bI 5 rfl (fun h' e=>bY rfl (e.rowAt hbM hrow)) ?_;refine bI 6 rfl (fun h' e=>aA rfl (e.cell m5 (q5.cell (i:=0) rfl))) ?_;refine bI 8 rfl (fun h' e=>aA rfl (e.cell m5 (q5.cell (i:=0) rfl))) ?_;refine dH 7 rfl (aE rfl (ih (x:=x) (O:=O) (to:=to) (by omega) hn3 hO3 hnd hwx (by omega))) ?_;rintro _ h5 ⟨v5,rfl,hn5,nx5⟩;refine⟨fun _=>nx5.ext.mono (fun b _ k=>k.elim .inl (fun k=>k.elim)),?_⟩;have hz5:=nx5.ext.size;have hown5:=hn5.own
         have hnew5:∀t,aT iY (h5.push (.cells #[.int .i64 ((lay x ss to).2:Nat),.int .i64 (to:Nat)] t)) (fun b=>eG nb v5 b\/O b) (.slice (some ⟨h5.size,0,none⟩) 2 2) [(lay x ss to).2,to]:=fun t=>Qe t _ _ (by
          rintro((k1|k1)|k1)
          · omega
          · have:=hown5 _ k1.symm;omega
          · have:=hO3 _ k1;omega)
         refine dH 9 rfl (iL [_,_]) ?_;rintro _ _ ⟨rfl,rfl⟩;refine⟨fun _=>by first|exact Ext.push _ _ _|assumption,?_⟩;refine bI 10 rfl (fun h' e=>av (H.Bo _ _ _) rfl) ?_;refine dH 11 rfl (aE rfl (oy (O:=O) (hn5.ah (Ext.push _ _ _) (fun _ _ k=>k)) (fun b hb=>by have:=hO3 b hb;simp;omega) (hnew5 _) (by omega))) ?_;rintro _ h6 ⟨v6,rfl,hn6,nx6⟩;refine⟨fun _=>nx6.ext.mono (fun b _ k=>by rcases k with (k1|k1)|k1;(exact .inl (.inl k1));(rcases nx5.own b k1.symm with k2|k2;(exact .inl (.inr k2.symm));exact .inr k2);exact k1.elim),?_⟩;refine aI 12 ?_;refine iT ?_;refine bp ?_;exact⟨_,rfl,v6,rfl,hn6,((nx3.trans nx5 (fun _ _ k=>k)).trans (Nx.NJ (Ext.push _ _ _)) (fun _ _ k=>k)).trans nx6 (fun _ _ k=>k)⟩
       · have h6k':¬k=6:=kk h6k;refine af ?_;refine aR (fun h4k=>?_) (fun h4k=>?_)
         · obtain rfl:k=4:=by omega
           have hone:kids.length=1:=by simp[uK] at hw;exact hw.1
           obtain⟨x,rfl⟩:∃x,kids=[x]:=by match kids,hone with| [x],_=>exact⟨x,rfl⟩
           have hkn1:kn=1:=by simpa using hkn.symm
           have hszx:oX x<=gJ [x]:=by simp[gJ]
           have hwx:uK x=true:=by simpa [uL] using hwl
           have hlay:lay (.mk 4 s [x]) ss to=((lay x (ss++[⟨0,0,[],0⟩]) ss.length).1.set ss.length ⟨0,0,[(lay x (ss++[⟨0,0,[],0⟩]) ss.length).2,to],0⟩,ss.length):=by rw[lay];simp[bS]
           rw[hlay];refine af ?_;refine fF rfl (by simp) ?_;refine af ?_;refine xp rfl (aA rfl (q3.cell (i:=0) rfl)) ?_;refine xp rfl (av (H.J8 ) rfl) ?_;refine xo rfl (aE rfl (oy (O:=O) (to:=[]) hn3 hO3 (aT.nil _ _ _) (by omega))) ?_;rintro _ h5 ⟨v5,rfl,hn5,nx5⟩;have hz5:=nx5.ext.size;have hz0:=e03.size;have q3':=q3.ext nx5.ext (hnM _ (Nat.le_refl _));have q4':=q4.ext nx5.ext (hnM _ (by omega));have q5':=q5.ext nx5.ext (hnM _ (by omega));have hsl5:aT tK h5 (eG nb v5) (.slice oa kn kc) [x]:=hsl3.mv nx5.tA;obtain⟨oa',n',c',hv',_,_,_,hget⟩:=id hsl5;cases hv';obtain⟨b,o,cs,ha,hob,hrow,hnd⟩:=hget 0 x rfl;obtain⟨w2,rfl,-⟩:=hnd.open;have hown5:=hn5.own
           have hnM5:∀b,h.size<=b->b<h3.size->¬(eG nb v5 b\/h5.size<=b):=by
            rintro b hb hb' ((k1|k1)|k1)
            · omega
            · rcases nx5.own b k1.symm with k2|k2
              · have:=hown b k2;omega
              · omega
            · omega
           have hbM:¬(eG nb v5 b\/h5.size<=b):=by
            rintro(k1|k1)
            · exact hob k1
            · have:=dL hrow (by simp[dK]);omega
           have m3:=hnM5 h.size (Nat.le_refl _) (by omega);have m4:=hnM5 h1.size (by omega) (by omega);refine af ?_;refine me 8 (fun b=>eG nb v5 b\/Array.size h5<=b) (fun i=>Nat.blt i 8) ?_;refine bI 0 rfl (fun h' e=>aA rfl (e.cell m3 (q3'.cell (i:=0) rfl))) ?_;refine aI 1 ?_;refine bI 2 rfl (fun h' e=>aA rfl (e.cell m4 (q4'.cell (i:=5) rfl))) ?_;refine bI 3 rfl (fun h' e=>cz rfl rfl 0 rfl ha) ?_;refine bI 4 rfl (fun h' e=>bY rfl (e.rowAt hbM hrow)) ?_;refine aI 5 ?_;refine dH 6 rfl (aE rfl (ih (x:=x) (O:=O) (to:=ss.length) (by omega) hn5 (fun b hb=>by have:=hO3 b hb;omega) hnd hwx (by simp;omega))) ?_;rintro _ h6 ⟨v6,rfl,hn6,nx6⟩;refine⟨fun _=>nx6.ext.mono (fun b _ k=>k.elim .inl (fun k=>k.elim)),?_⟩;have hz6:=nx6.ext.size;have nx36:=nx5.trans nx6 (fun _ _ k=>k);have q3':=q3.ext nx36.ext (hnM _ (Nat.le_refl _));have q4':=q4.ext nx36.ext (hnM _ (by omega));have q5':=q5.ext nx36.ext (hnM _ (by omega));have hown6:=hn6.own;have hlen6:=fZ x (ss++[⟨0,0,[],0⟩]) ss.length;rw[List.length_append,List.length_singleton] at hlen6;have hpre:(lay x (ss++[⟨0,0,[],0⟩]) ss.length).1[ss.length]? =some ⟨0,0,[],0⟩:=by rw[mQ x _ _ _ (by simp)];simp
           have hn6c:=hn6.blk.cell (i:=0) rfl
           have hnM6:∀b,h.size<=b->b<h3.size->¬(eG nb v6 b\/h6.size<=b):=by
            rintro b hb hb' ((k1|k1)|k1)
            · omega
            · rcases nx36.own b k1.symm with k2|k2
              · have:=hown b k2;omega
              · omega
            · omega
           have hnew6:∀t,aT iY (h6.push (.cells #[.int .i64 ((lay x (ss++[⟨0,0,[],0⟩]) ss.length).2:Nat),.int .i64 (to:Nat)] t)) (fun b=>cv v6.ownBlock b\/b=nb\/O b) (.slice (some ⟨h6.size,0,none⟩) 2 2) [(lay x (ss++[⟨0,0,[],0⟩]) ss.length).2,to]:=fun t=>Qe t _ _ (by
            rintro(k1|k1|k1)
            · have:=hown6 _ k1.symm;omega
            · omega
            · have:=hO3 _ k1;omega)
           generalize hout:lay x (ss++[⟨0,0,[],0⟩]) ss.length=out at *;have hn7:bO (h6.push (.cells #[.int .i64 (out.2:Nat),.int .i64 (to:Nat)] 3)) O nb v6 out.1 st:=hn6.ah (Ext.push _ _ _) (fun _ _ k=>k);obtain⟨g,c6,cs6,hv6,hg1,hg2,hg3,hg4,hg5,hg6⟩:=hn7.row.put hpre;obtain⟨w6,rfl,_⟩:=hg5;subst hv6;have hput:=hg6 5 (.slice (some ⟨h6.size,0,none⟩) 2 2) ⟨0,0,[out.2,to],0⟩ (by decide) ⟨_,rfl,hnew6 _⟩;have hgb:h6.size=g\/g<h6.size:=by have:=hown6 g rfl;omega
           have hg6':g<h6.size:=(hown6 g rfl).2;have hcell7:cellAt (h6.push (.cells #[.int .i64 (out.2:Nat),.int .i64 (to:Nat)] 3)) ⟨g,0+ss.length*7+5,none⟩=some w6:=hg3 5 _ rfl;have m6:=hnM6 h1.size (by omega) (by omega);have j4:¬h1.size=g:=fun k=>m6 (.inl (.inr (by rw[k];rfl)))
           have j3:¬h6.size<=h.size:=by omega
           have j0:¬h6.size<=nb:=by omega
           have j5:¬h6.size<=h2.size:=by omega
           refine aI 7 ?_;refine iT ?_;refine af ?_;refine me 11 (fun b=>Array.size h6<=b) (fun i=>Nat.blt i 10) ?_;refine bI 0 rfl (fun h' e=>aA rfl (e.cell j3 (q3'.cell (i:=0) rfl))) ?_;refine aI 1 ?_;refine aI 2 ?_;refine bI 3 rfl (fun h' e=>aA rfl (e.cell j0 hn6c)) ?_;refine aI 4 ?_;refine aI 5 ?_;refine bI 6 rfl (fun h' e=>aA rfl (e.cell j5 (q5'.cell (i:=0) rfl))) ?_;refine dH 7 rfl (iL [_,_]) ?_;rintro _ _ ⟨rfl,rfl⟩;refine⟨fun _=>by first|exact Ext.push _ _ _|assumption,?_⟩;refine PJ 8 rfl (cz rfl rfl ss.length rfl rfl) ?_;refine aI 9 ?_;refine kX 10 rfl (bX H.BV rfl rfl rfl hcell7 (hg4 _)) ?_;rintro _ _ ⟨rfl,rfl⟩;refine⟨nofun,?_⟩;refine iT ?_;refine af ?_;have hz7:∀u,(dV (h6.push (.cells #[.int .i64 (out.2:Nat),.int .i64 (to:Nat)] 3)) ⟨g,0+ss.length*7+5,none⟩ u).size=h6.size+1:=fun u=>by rw[jC];simp
           have ex7:∀u,Ext (fun b=>b=g) h6 (dV (h6.push (.cells #[.int .i64 (out.2:Nat),.int .i64 (to:Nat)] 3)) ⟨g,0+ss.length*7+5,none⟩ u):=fun u=>⟨by rw[hz7];omega,fun b hb hn=>by rw[(Ext.dV (M:=fun b=>b=g) _ _ u rfl).block b (by simp;omega) hn,(Ext.push (fun _=>False) h6 _).block b hb (fun k=>k)]⟩
           refine xp rfl (aA rfl ((q4'.ext (ex7 _) j4).cell (i:=0) rfl)) ?_;refine af ?_;refine fe rfl (by decide) ?_;refine af ?_;refine bp ?_;exact⟨_,rfl,_,rfl,⟨hn6.blk.ext (ex7 _) (by have:=hown6 g rfl;omega),hput⟩,((nx3.trans nx36 (fun _ _ k=>k)).trans ⟨(ex7 _).mono (fun b _ k=>.inl (.inr (by rw[k];rfl))),fun b k=>.inl k⟩ (fun _ _ k=>k))⟩
         · have h4k':¬k=4:=kk h4k;refine af ?_;refine aR (fun h5k=>?_) (fun h5k=>?_)
           · obtain rfl:k=5:=by omega
             have hone:kids.length=1:=by simp[uK] at hw;exact hw.1
             obtain⟨x,rfl⟩:∃x,kids=[x]:=by match kids,hone with| [x],_=>exact⟨x,rfl⟩
             have hkn1:kn=1:=by simpa using hkn.symm
             have hszx:oX x<=gJ [x]:=by simp[gJ]
             have hwx:uK x=true:=by simpa [uL] using hwl
             have hlay:lay (.mk 5 s [x]) ss to=((lay x (ss++[⟨0,0,[],0⟩]) ss.length).1.set ss.length ⟨0,0,[(lay x (ss++[⟨0,0,[],0⟩]) ss.length).2,to],0⟩,(lay x (ss++[⟨0,0,[],0⟩]) ss.length).2):=by rw[lay];simp[bS]
             rw[hlay];refine af ?_;refine xp rfl (aA rfl (q3.cell (i:=0) rfl)) ?_;refine xp rfl (av (H.J8 ) rfl) ?_;refine xo rfl (aE rfl (oy (O:=O) (to:=[]) hn3 hO3 (aT.nil _ _ _) (by omega))) ?_;rintro _ h5 ⟨v5,rfl,hn5,nx5⟩;have hz5:=nx5.ext.size;have hz0:=e03.size;have q3':=q3.ext nx5.ext (hnM _ (Nat.le_refl _));have q4':=q4.ext nx5.ext (hnM _ (by omega));have q5':=q5.ext nx5.ext (hnM _ (by omega));have hsl5:aT tK h5 (eG nb v5) (.slice oa kn kc) [x]:=hsl3.mv nx5.tA;obtain⟨oa',n',c',hv',_,_,_,hget⟩:=id hsl5;cases hv';obtain⟨b,o,cs,ha,hob,hrow,hnd⟩:=hget 0 x rfl;obtain⟨w2,rfl,-⟩:=hnd.open;have hown5:=hn5.own
             have hnM5:∀b,h.size<=b->b<h3.size->¬(eG nb v5 b\/h5.size<=b):=by
              rintro b hb hb' ((k1|k1)|k1)
              · omega
              · rcases nx5.own b k1.symm with k2|k2
                · have:=hown b k2;omega
                · omega
              · omega
             have hbM:¬(eG nb v5 b\/h5.size<=b):=by
              rintro(k1|k1)
              · exact hob k1
              · have:=dL hrow (by simp[dK]);omega
             have m3:=hnM5 h.size (Nat.le_refl _) (by omega);have m4:=hnM5 h1.size (by omega) (by omega);refine af ?_;refine me 8 (fun b=>eG nb v5 b\/Array.size h5<=b) (fun i=>Nat.blt i 8) ?_;refine bI 0 rfl (fun h' e=>aA rfl (e.cell m3 (q3'.cell (i:=0) rfl))) ?_;refine aI 1 ?_;refine bI 2 rfl (fun h' e=>aA rfl (e.cell m4 (q4'.cell (i:=5) rfl))) ?_;refine bI 3 rfl (fun h' e=>cz rfl rfl 0 rfl ha) ?_;refine bI 4 rfl (fun h' e=>bY rfl (e.rowAt hbM hrow)) ?_;refine aI 5 ?_;refine dH 6 rfl (aE rfl (ih (x:=x) (O:=O) (to:=ss.length) (by omega) hn5 (fun b hb=>by have:=hO3 b hb;omega) hnd hwx (by simp;omega))) ?_;rintro _ h6 ⟨v6,rfl,hn6,nx6⟩;refine⟨fun _=>nx6.ext.mono (fun b _ k=>k.elim .inl (fun k=>k.elim)),?_⟩;have hz6:=nx6.ext.size;have nx36:=nx5.trans nx6 (fun _ _ k=>k);have q3':=q3.ext nx36.ext (hnM _ (Nat.le_refl _));have q4':=q4.ext nx36.ext (hnM _ (by omega));have q5':=q5.ext nx36.ext (hnM _ (by omega));have hown6:=hn6.own;have hlen6:=fZ x (ss++[⟨0,0,[],0⟩]) ss.length;rw[List.length_append,List.length_singleton] at hlen6;have hpre:(lay x (ss++[⟨0,0,[],0⟩]) ss.length).1[ss.length]? =some ⟨0,0,[],0⟩:=by rw[mQ x _ _ _ (by simp)];simp
             have hn6c:=hn6.blk.cell (i:=0) rfl
             have hnM6:∀b,h.size<=b->b<h3.size->¬(eG nb v6 b\/h6.size<=b):=by
              rintro b hb hb' ((k1|k1)|k1)
              · omega
              · rcases nx36.own b k1.symm with k2|k2
                · have:=hown b k2;omega
                · omega
              · omega
             have hnew6:∀t,aT iY (h6.push (.cells #[.int .i64 ((lay x (ss++[⟨0,0,[],0⟩]) ss.length).2:Nat),.int .i64 (to:Nat)] t)) (fun b=>cv v6.ownBlock b\/b=nb\/O b) (.slice (some ⟨h6.size,0,none⟩) 2 2) [(lay x (ss++[⟨0,0,[],0⟩]) ss.length).2,to]:=fun t=>Qe t _ _ (by
              rintro(k1|k1|k1)
              · have:=hown6 _ k1.symm;omega
              · omega
              · have:=hO3 _ k1;omega)
             generalize hout:lay x (ss++[⟨0,0,[],0⟩]) ss.length=out at *;have hn7:bO (h6.push (.cells #[.int .i64 (out.2:Nat),.int .i64 (to:Nat)] 3)) O nb v6 out.1 st:=hn6.ah (Ext.push _ _ _) (fun _ _ k=>k);obtain⟨g,c6,cs6,hv6,hg1,hg2,hg3,hg4,hg5,hg6⟩:=hn7.row.put hpre;obtain⟨w6,rfl,_⟩:=hg5;subst hv6;have hput:=hg6 5 (.slice (some ⟨h6.size,0,none⟩) 2 2) ⟨0,0,[out.2,to],0⟩ (by decide) ⟨_,rfl,hnew6 _⟩;have hgb:h6.size=g\/g<h6.size:=by have:=hown6 g rfl;omega
             have hg6':g<h6.size:=(hown6 g rfl).2;have hcell7:cellAt (h6.push (.cells #[.int .i64 (out.2:Nat),.int .i64 (to:Nat)] 3)) ⟨g,0+ss.length*7+5,none⟩=some w6:=hg3 5 _ rfl;have m6:=hnM6 h1.size (by omega) (by omega);have j4:¬h1.size=g:=fun k=>m6 (.inl (.inr (by rw[k];rfl)))
             have j3:¬h6.size<=h.size:=by omega
             have j0:¬h6.size<=nb:=by omega
             have j5:¬h6.size<=h2.size:=by omega
             refine aI 7 ?_;refine iT ?_;refine af ?_;refine me 11 (fun b=>Array.size h6<=b) (fun i=>Nat.blt i 10) ?_;refine bI 0 rfl (fun h' e=>aA rfl (e.cell j3 (q3'.cell (i:=0) rfl))) ?_;refine aI 1 ?_;refine aI 2 ?_;refine bI 3 rfl (fun h' e=>aA rfl (e.cell j0 hn6c)) ?_;refine aI 4 ?_;refine aI 5 ?_;refine bI 6 rfl (fun h' e=>aA rfl (e.cell j5 (q5'.cell (i:=0) rfl))) ?_;refine dH 7 rfl (iL [_,_]) ?_;rintro _ _ ⟨rfl,rfl⟩;refine⟨fun _=>by first|exact Ext.push _ _ _|assumption,?_⟩;refine PJ 8 rfl (cz rfl rfl ss.length rfl rfl) ?_;refine aI 9 ?_;refine kX 10 rfl (bX H.BV rfl rfl rfl hcell7 (hg4 _)) ?_;rintro _ _ ⟨rfl,rfl⟩;refine⟨nofun,?_⟩;refine iT ?_;refine af ?_;have hz7:∀u,(dV (h6.push (.cells #[.int .i64 (out.2:Nat),.int .i64 (to:Nat)] 3)) ⟨g,0+ss.length*7+5,none⟩ u).size=h6.size+1:=fun u=>by rw[jC];simp
             have ex7:∀u,Ext (fun b=>b=g) h6 (dV (h6.push (.cells #[.int .i64 (out.2:Nat),.int .i64 (to:Nat)] 3)) ⟨g,0+ss.length*7+5,none⟩ u):=fun u=>⟨by rw[hz7];omega,fun b hb hn=>by rw[(Ext.dV (M:=fun b=>b=g) _ _ u rfl).block b (by simp;omega) hn,(Ext.push (fun _=>False) h6 _).block b hb (fun k=>k)]⟩
             refine xp rfl (aA rfl ((q4'.ext (ex7 _) j4).cell (i:=0) rfl)) ?_;refine af ?_;refine fF rfl (by decide) ?_;refine af ?_;refine bp ?_;exact⟨_,rfl,_,rfl,⟨hn6.blk.ext (ex7 _) (by have:=hown6 g rfl;omega),hput⟩,((nx3.trans nx36 (fun _ _ k=>k)).trans ⟨(ex7 _).mono (fun b _ k=>.inl (.inr (by rw[k];rfl))),fun b k=>.inl k⟩ (fun _ _ k=>k))⟩
           · have h5k':¬k=5:=kk h5k;have hlay:lay (.mk k s kids) ss to=(ss,to):=by rw[lay];simp[h1k',h2k',h3k',h4k',h5k',h6k']
             rw[hlay];refine af ?_;refine xp rfl (aA rfl (q5.cell (i:=0) rfl)) ?_;refine af ?_;refine bp ?_;exact⟨_,rfl,v,rfl,hn3,nx3⟩
theorem Jh:∀n,Kj n
 | 0=>by
  intro hs;have:=Fa ‹Nd›;omega
 |n+1=>Ji (Jh n)
def oe:fQ By:=.flat (fun s=>.string (bs s)) fun _=>rfl
def zT (h h':ai) (rules:List By) (r:Value):Prop :=
 match eX rules with
 |.inl e=>r= .tuple #[.pointer none,.int .i64 e]
 |.inr (ss,st)=>∃nb v,r= .tuple #[.pointer (some ⟨nb,0,none⟩),.int .i64 0]/\h.size<=nb/\bO h' (fun b=>b<h.size) nb v ss st
theorem Ke {O:Nat->Prop}{nb:Nat}{v:Value}{ss:List aZ}{st:Nat}(i:Nat) (hn:bO h O nb v ss st) (hO:∀b,O b->b<h.size) (hl:ss.length<=1000000) :
 aq Tryz.prog 52 #[.pointer (some ⟨nb,0,none⟩),.agg #[.int .i64 2,.int .u64 0,.int .u64 0,.int .u64 0,.int .u64 0,.slice none 0 0,.int .i64 (i:Nat)]] h (bw (LH O nb h v st (ss++[⟨2,0,[],i⟩],ss.length))):=by
 have h1:=Br (x:=⟨2,0,[],i⟩) hn hO ⟨.slice none 0 0,rfl,aT.nil _ _ _⟩ hl;simp only[Gl,L7] at h1;exact h1
theorem Eg {lim:Nat}(hg:Sg h lim) (hlim:lim<=h.size){rv:Value}{rules:List By}(hr:aT oe h (fun _=>False) rv rules) (hrl:∀s∈rules,s.length<=1000000) :
 aq Tryz.prog 28 #[rv] h (bw fun r h'=>zT h h' rules r/\aj h h'):=by
 obtain⟨oa,kn,kc,rfl,hsl⟩:=id hr.open;have hkn:=hsl.len;have hkc:=hsl.le;have hcap:=hsl.cap;generalize htgt:lT 0 rules [] []=tgt;refine bL ?_;refine aX ?_;refine cD ?_
 iterate 2 refine aW ?_
 refine cX ?_
 iterate 2 refine aX ?_
 refine fL [(18,.bool (decide (kn=0\/64<kn)))] rfl ?_ ?_
 · refine af ?_;refine dG 14 (fun hg=>?_) (fun hg=>?_)
   · refine af ?_;exact aF rfl ⟨au rfl (by have:=of_decide_eq_true hg;simp;omega),sb rfl⟩
   · refine af ?_;exact aF rfl ⟨au rfl (by have:=of_decide_eq_false hg;simp only[decide_eq_decide];omega),sb rfl⟩
 · refine aR (fun hbig=>?_) (fun hbig=>?_)
   · refine af ?_;refine bp ?_;refine⟨_,rfl,?_,Ext.refl _ _⟩;have:eX rules= .inl 2:=by unfold eX;rw[if_pos (show rules.length=0\/64<rules.length by omega)]
     rw[zT,this];rfl
   · have hmk:eX rules=match lT 0 rules [] [] with|.inl e=>.inl e|.inr (ss,t)=>if 2000<yf rules then .inl 70 else .inr (ss++[⟨0,0,t,0⟩],ss.length):=by unfold eX;rw[if_neg (show ¬(rules.length=0\/64<rules.length) by omega)]<;>rfl
     rw[htgt] at hmk;refine af ?_;refine xp rfl (av (H.Nq ) rfl) ?_;refine xo rfl (jj) ?_;rintro _ h1 ⟨rfl,q4,e1,z1⟩;have q4:aD h1 h.size 120 [.slice none 0 0,.int .i64 (0:Nat)]:=q4;have hn1:bO h1 (fun b=>b<h.size) h.size (.slice none 0 0) [] 0:=⟨q4,cH.nil _ _ _ _ _⟩
     refine af ?_;refine gY (σ:=Nat×Value) (fun p=>[(5,p.2),(6,.int .i64 (yf (rules.take p.1):Nat)),(23,.int .i64 (p.1:Nat))]) (fun p h'=>p.1<=kn/\∃v ss t,bO h' (fun b=>b<h.size\/cv p.2.ownBlock b) h.size v ss 0/\cH iY (fun _=>True) h' h1.size 3 p.2 t/\Nx (fun _=>False) h.size h1 (.slice none 0 0) h' v/\(∀b,p.2.ownBlock=some b->v.ownBlock≠some b)/\(ss.length<=402*p.1/\yf (rules.take p.1)<=200*p.1/\t.length=p.1)/\lT p.1 (rules.drop p.1) ss t=tgt) (fun p=>kn-p.1) ((0,.slice none 0 0)) ⟨Nat.zero_le _,_,[],[],hn1.ah (Ext.refl _ _) (fun b _ k=>k.elim id (fun k=>by cases k)),cH.nil _ _ _ _ _,Nx.refl,fun b hb=>(by cases hb),⟨Nat.zero_le _,by simp[yf],rfl⟩,htgt⟩ rfl ?_;rintro⟨i,tv⟩ g0 ⟨hi,v,ss,t,hng,htg,nxg,hdist,⟨hss,htot,htl⟩,hcon⟩ ih
     try dsimp only
     dsimp only at hi hng htg nxg hdist hss htot htl hcon;have hz0:=nxg.ext.size;have htv:∀b,tv.ownBlock=some b->h1.size<=b/\b<g0.size:=fun b hb=>by obtain⟨_,_,k,_⟩:=id htg;exact k.lt hb
     have e0g:aj h g0:=⟨by omega,fun b hb _=>(nxg.ext.block b (by omega) (by
      rintro((k|k)|k)
      · omega
      · cases k
      · exact k)).trans (e1.block b hb (fun k=>k))⟩
     have hown:=hng.own;have hnlt:=hng.blk.lt;refine af ?_;refine aR (fun hlt=>?_) (fun hlt=>?_)
     · obtain⟨s,hs⟩:∃s,rules[i]? =some s:=⟨_,List.getElem?_eq_getElem (by omega)⟩
       have hdr:rules.drop i=s::rules.drop (i+1):=by
        obtain⟨hi',rfl⟩:=List.getElem?_eq_some_iff.1 hs;exact List.drop_eq_getElem_cons hi'
       rw[hdr,lT] at hcon;obtain⟨oa',n',c',hv',_,_,_,hget⟩:=id (hr.ah e0g);cases hv';obtain⟨b,o,cs,ha,hob,hrow,rfl⟩:=hget i s hs
       iterate 4 refine aX ?_
       refine cD ?_;refine aW ?_;refine xp rfl (cz rfl rfl i rfl ha) ?_;refine xp rfl (aA rfl (hrow 0 _ rfl)) ?_;refine af ?_;refine xo rfl (aE rfl (Ch (hg.ext e0g (fun _ k=>k.elim)) (by omega) s (hrl s (List.mem_of_getElem? hs)))) ?_;rintro _ g1 ⟨⟨w,rfl,hnd⟩,e01⟩;refine af ?_;refine xo rfl (cO) ?_;rintro _ g2 ⟨rfl,k9,e12,z12⟩;refine aM rfl (aY rfl rfl k9 (bE.one hnd)) ?_;rintro _ g3 ⟨rfl,k9',e23,z23⟩;refine af ?_;have k9':aD g3 g1.size 126 (dK (bC s).1.kind (bC s).1.set w):=k9';refine aR (fun herr=>?_) (fun herr=>?_)
       · rw[if_pos (by exact herr)] at hcon;refine af ?_;refine bp ?_;have e3:aj h g3:=(e0g.trans e01).trans (e12.only e23 (Nat.le_refl _));refine⟨_,rfl,?_,e3⟩;rw[<-hcon] at hmk;rw[zT,hmk];rfl
       · have h0:(bC s).2=0:=by simpa using herr
         rw[if_neg (by simpa using h0)] at hcon;have hsmall:=qP h0;have hbs:=aG s;have ecc:aj g1 g3:=e12.only e23 (Nat.le_refl _);have e03:aj g0 g3:=e01.trans ecc;have hz1:=e01.size;have hz3:=ecc.size;have hz13:g1.size<g3.size:=by omega
         iterate 2 refine aX ?_
         refine fL [(6,.int .i64 (yf (rules.take (i+1)):Nat))] rfl ?_ ?_
         · refine af ?_;exact aF rfl ⟨(by show some (Value.int _ _)=some (Value.int _ _);rw[yK hs];congr 2),sb rfl⟩
         · have hn3:bO g3 (fun b=>b<h.size\/cv tv.ownBlock b) h.size v ss 0:=hng.ah e03 (fun _ _ k=>k);have hO3:∀b,(b<h.size\/cv tv.ownBlock b)->b<g3.size:=fun b hb=>by rcases hb with k|k;omega;(have:=htv b k.symm;omega)
           have hnd3:bE g3 (eG h.size v) (dK (bC s).1.kind (bC s).1.set w) (bC s).1:=hnd.mv ⟨ecc.size,fun b hb hn=>⟨ecc.block b hb (fun k=>k),by
            rintro(k|k)
            · exact hn (by show b<g0.size;omega)
            · exact hn (by show b<g0.size;exact(hown b k.symm).2)⟩⟩
           have hK1:¬(eG h.size v g1.size\/False):=by
            rintro((k|k)|k)
            · omega
            · have:=hown _ k.symm;omega
            · exact k
           refine me 11 (fun b=>¬b=Array.size g1) (fun i=>Nat.blt i 11) ?_;refine aI 0 ?_;refine aI 1 ?_;refine bI 2 rfl (fun h' e=>bY rfl (e.rowAt (fun k=>k rfl) k9'.row)) ?_;refine aI 3 ?_;refine aI 4 ?_;refine bI 5 rfl (fun h' e=>av (H.Hp _ _) rfl) ?_;refine dH 6 rfl (aE rfl (Ke i hn3 hO3 (by omega))) ?_;rintro _ g4 ⟨v4,rfl,hn4,nx4⟩;refine⟨fun _=>nx4.ext.mono (fun b _ k e=>hK1 (e▸k)),?_⟩;have hz4:=nx4.ext.size
           have hK2:¬(eG h.size v4 g1.size\/False):=by
            rintro((k|k)|k)
            · omega
            · rcases nx4.own _ k.symm with k2|k2
              · exact hK1 (.inl (.inr k2.symm))
              · omega
            · exact k
           refine dH 7 rfl (aE rfl (Jh 401 (x:=(bC s).1) (to:=ss.length) hsmall.1 hn4 (fun b hb=>by have:=hO3 b hb;omega) (hnd3.mv nx4.tA) hsmall.2.1 (by have:=hsmall.1;simp only[List.length_append,List.length_singleton];omega))) ?_;rintro _ g5 ⟨v5,rfl,hn5,nx5⟩;refine⟨fun _=>nx5.ext.mono (fun b _ k e=>hK2 (e▸k)),?_⟩;have hz5:=nx5.ext.size;have nx45:Nx (fun _=>False) h.size g3 v g5 v5:=nx4.trans nx5 (fun _ _ k=>k)
           have ht5:cH iY (fun _=>True) g5 h1.size 3 tv t:=(htg.ah e03).qD nx45.ext (fun b hb=>by
            rintro((k1|k1)|k1)
            · have:=htv b hb;omega
            · exact hdist b hb k1.symm
            · exact k1) (fun _ _ _=>trivial) (fun _ _ _=>trivial)
           obtain⟨css,hc1,hc2,hc3⟩:=id ht5;have hKt:¬cv tv.ownBlock g1.size:=fun k=>by have:=htv _ k.symm;omega
           refine dH 8 rfl (iL [_]) ?_;rintro _ _ ⟨rfl,rfl⟩;refine⟨fun _=>by first|exact Ext.push _ _ _|assumption,?_⟩;refine dH 9 rfl (uH rfl rfl hc2 rfl rfl) ?_;rintro t6 g6 ⟨ho6,hx6,hx6',hv6⟩;refine⟨fun _=>hx6'.mono (fun b _ k e=>hKt (e▸k)),?_⟩;refine aI 10 ?_;refine iT ?_;refine af ?_;have ht6:=cH.gq hc1 hc3 ho6 hx6 hv6 (y:=(lay (bC s).1 (ss++[(⟨2,0,[],i⟩:aZ)]) ss.length).2) rfl
           have hn6:bO g6 (fun b=>b<h.size\/cv t6.ownBlock b) h.size v5 (lay (bC s).1 (ss++[⟨2,0,[],i⟩]) ss.length).1 0:=hn5.ext hx6 (fun k=>by have:=htv _ k.symm;omega) (fun b hb k=>by
            rcases nx45.own b hb with k'|k'
            · exact hdist b k.symm k'
            · have:=htv b k.symm;omega) (fun b _ k=>.inr k) (fun b hb k=>k.imp id (fun k=>by
              rcases hv6 b k.symm with k'|k'
              · exact k'.symm
              · omega))
           have hd6:∀b,t6.ownBlock=some b->v5.ownBlock≠some b:=fun b hb k=>by
            rcases hv6 b hb with k'|k'
            · rcases nx45.own b k with k2|k2
              · exact hdist b k' k2
              · have:=htv b k';omega
            · have:=(hn5.own b k).2;omega
           have nx05:Nx (fun _=>False) h.size h1 (.slice none 0 0) g5 v5:=(nxg.trans (Nx.NJ e03) (fun _ _ k=>k)).trans nx45 (fun _ _ k=>k);have nx06:Nx (fun _=>False) h.size h1 (.slice none 0 0) g6 v5:=⟨⟨by have:=hx6.size;omega,fun b hb hn=>by rw[hx6.block b (by omega) (fun k=>by have:=htv b k.symm;omega)];exact nx05.ext.block b hb hn⟩,nx05.own⟩
           have hlenl:=(fZ (bC s).1 (ss++[⟨2,0,[],i⟩]) ss.length).2;rw[List.length_append,List.length_singleton] at hlenl;have htt:=yK hs;exact ih (i+1,t6) ⟨by show i+1<=kn;omega,v5,_,_,hn6,ht6,nx06,hd6,⟨by have:=hsmall.1;show _<=402*(i+1);omega,by have:=hsmall.2.2;show yf (rules.take (i+1))<=200*(i+1);omega,by simp[htl]⟩,hcon⟩
     · obtain rfl:i=kn:=by omega
       have hall:rules.take i=rules:=List.take_of_length_le (by omega);have hnil:rules.drop i=[]:=List.drop_of_length_le (by omega);rw[hnil,lT] at hcon;rw[<-hcon] at hmk;rw[hall] at htot;simp only[hall];refine af ?_;refine aR (fun hbig2=>?_) (fun hbig2=>?_)
       · refine af ?_;refine bp ?_;refine⟨_,rfl,?_,e0g⟩;have:eX rules= .inl 70:=by rw[hmk];exact if_pos (by omega)
         rw[zT,this];rfl
       · have hmk2:eX rules= .inr (ss++[⟨0,0,t,0⟩],ss.length):=by rw[hmk];exact if_neg (by omega)
         have hrd:aT iY g0 (fun b=>eG h.size v b\/b<h.size) tv t:=htg.vq (fun b hb=>by
          rintro((k1|k1)|k1)
          · have:=htv b hb;omega
          · exact hdist b hb k1.symm
          · have:=htv b hb;omega) (fun _ _ _=>trivial)
         obtain⟨oa9,n9,c9,rfl,_⟩:=id hrd;refine af ?_;refine xp rfl (av (H.Bo _ _ _) rfl) ?_;refine xo rfl (aE rfl (oy (O:=fun b=>b<h.size) (to:=t) (hng.ah (Ext.refl _ _) (fun b _ k=>.inl k)) (fun b hb=>by omega) hrd (by omega))) ?_;rintro _ g4 ⟨v4,rfl,hn4,nx4⟩;refine af ?_;refine aM rfl (mj rfl rfl hn4.blk) ?_;rintro _ g5 ⟨rfl,hk5,hx5,hz5⟩;refine af ?_;refine bp ?_;have hn5:bO g5 (fun b=>b<h.size) h.size v4 (ss++[⟨0,0,t,0⟩]) ss.length:=⟨hk5,hn4.row.qD hx5 (fun b hb k=>by have:=(hn4.own b hb).1;omega) (fun b _ k=>.inl k) (fun b _ k=>k)⟩
         have e4:aj h g5:=⟨by have:=hx5.size;have:=nx4.ext.size;omega,fun b hb _=>by
          rw[hx5.block b (by have:=nx4.ext.size;omega) (by omega),nx4.ext.block b (by omega) ?_]
          · exact e0g.block b hb (fun k=>k)
          · rintro((k|k)|k)
            · omega
            · rcases nxg.own b k.symm with k2|k2
              · cases k2
              · omega
            · exact k⟩
         refine⟨_,rfl,?_,e4⟩;rw[zT,hmk2];exact⟨h.size,v4,rfl,Nat.le_refl _,hn5⟩
theorem qa {O:Nat->Prop}{nb:Nat}{v:Value}{ss:List aZ}{st:Nat}(hn:bO h O nb v ss st):aq Tryz.prog 103 #[.pointer (some ⟨nb,0,none⟩)] h (bw fun r h'=>r= .bool (decide (ss.length=0))/\h'=h):=by
 obtain⟨css,hc1,hc2,hc3⟩:=id hn.row;obtain⟨oa,c,rfl,_⟩:=hc2.open;refine bL ?_;refine aX ?_;refine cD ?_;refine aW ?_;refine cX ?_;refine aX ?_;refine fL [(2,.bool (decide (ss.length=0)))] rfl ?_ ?_
 · refine aW ?_;refine xp rfl (ay.n8 underlying75 rfl rfl) ?_;refine af ?_;refine RW.cV (d:=5) (b':=false) rfl (rfl) ?_;refine af ?_;refine xp rfl (aA rfl (hn.blk.cell (i:=0) rfl)) ?_;refine af ?_;exact aF rfl ⟨au rfl (by simp only[decide_eq_decide];omega),sb rfl⟩
 · refine bp ?_;exact⟨_,rfl,rfl,rfl⟩
end
end Go.Proofs.YtoickfdopobmgaaGreatDoor
namespace Go.Proofs.YtoickfdopobmgaaGreatDoor
open Go Go.Lw
set_option maxRecDepth 20000
section
variable {h:ai}
theorem IK {base:Nat}{t:TypeId}{v:Value}{todo:List Nat}{m:Nat}(k:bN dZ h base t v todo) (hm:todo.length=m+1) :
    ∃g c x,v= .slice (some ⟨g,0,none⟩) (m+1) c/\m+1<=c/\g<h.size/\base<=g/\cellAt h ⟨g,0+m*1,none⟩=some (.int .i64 (x:Nat))/\todo=todo.dropLast++[x] /\
      bN dZ h base t (.slice (cw (some ⟨g,0,none⟩) 0 1 c) m c) todo.dropLast/\(Value.slice (cw (some ⟨g,0,none⟩) 0 1 c) m c).ownBlock=some g:=by
  have k':aB h base t 1 v todo.length (todo.map dZ):=k;obtain⟨oa,c,rfl,ho⟩:=k'.open;have hne:todo≠[]:=by intro e;rw[e] at hm;cases hm
  have hlast:todo=todo.dropLast++[todo.getLast hne]:=(List.dropLast_concat_getLast hne).symm
  have hx:(todo.map dZ)[m]? =some (dZ (todo.getLast hne)):=by
    rw[List.getElem?_map,List.getLast_eq_getElem,List.getElem?_eq_getElem (by omega)];simp[hm]
  obtain⟨g,rfl,hb,hlt,hc,_⟩:=ho.at hx;have ht:=ho.take (m:=m) (by omega) 1
  have hd:(todo.map dZ).take (m*1)=todo.dropLast.map dZ:=by
    rw[Nat.mul_one,List.dropLast_eq_take,hm,Nat.add_sub_cancel,List.map_take]
  rw[hd] at ht;refine⟨g,c,todo.getLast hne,by rw[hm],by have:=ho.le;omega,hlt,hb,hc,hlast,?_,?_⟩
  · have hl:todo.dropLast.length=m:=by simp[hm]
    unfold bN;rw[hl];exact ht
  · unfold cw;split<;>simp[Value.ownBlock,Addr.add]
theorem bO.get {O:Nat->Prop}{nb:Nat}{v:Value}{ss:List aZ}{st i:Nat}{x:aZ}(k:bO h O nb v ss st) (hx:ss[i]? =some x) :
    ∃g c w,v= .slice (some ⟨g,0,none⟩) ss.length c/\g<h.size/\Lw.rowAt h g (0+i*7) (Gl x.kind x.set w x.rule)/\aT iY h (fun b=>cv v.ownBlock b\/b=nb\/O b) w x.to:=by
  obtain⟨g,c,cs,rfl,_,hg,hrow,_,⟨w,rfl,hw⟩,_⟩:=k.row.put hx;exact⟨g,c,w,rfl,hg,hrow,hw⟩
theorem Dj {O:Nat->Prop}{oa:Option Addr}{n c:Nat}{xs:List Nat}(k:aT iY h O (.slice oa n c) xs):xs.length=n/\(n=0\/∃b o,oa=some ⟨b,o,none⟩/\Lw.rowAt h b o (xs.map dZ))/\n<=maxLen:=by
  obtain⟨oa',n',c',hv,hl,hc,hm,hg⟩:=k;cases hv;have hs:Sl iY h O oa n c xs:=⟨hl,hc,hm,hg⟩
  exact⟨hl,Sl.row hs,by omega⟩
end
end Go.Proofs.YtoickfdopobmgaaGreatDoor
namespace Go.Proofs.YtoickfdopobmgaaGreatDoor
open Go.Proofs.Tryz
open Go Go.Lw
set_option maxRecDepth 20000 set_option maxHeartbeats 4000000
section
variable {n nb st:Nat}{todo:List Nat}{seen:List Bool}{h:ai}{O:Nat->Prop}{v:Value}
theorem EF {ss:List aZ}{i:Nat}(ht:todo.getLast? =some i) (hs:seen[i]? =some true):jg ss (n+1) todo seen=jg ss n todo.dropLast seen:=by
 rw[jg,ht];simp[hs]
theorem Hl {ss:List aZ}{i:Nat}{x:aZ}(ht:todo.getLast? =some i) (hs:seen[i]? =some false) (hx:ss[i]? =some x):jg ss (n+1) todo seen=jg ss n (if x.kind=0 then todo.dropLast++x.to else todo.dropLast) (seen.set i true):=by
 rw[jg,ht];simp[hs,hx]
theorem Hj {ss:List aZ}:jg ss n [] seen=seen:=by cases n<;>simp[jg]
def HC (ss:List aZ) (seen:List Bool) (i:Nat):Bool:=seen[i]? ==some true && (ss[i]?.map (·.kind)) !=some 0
theorem rG {tv:Value}{ss:List aZ}{base:Nat}{tb:Option Nat}(hn:bO h O nb v ss st) (hgood:Good ss) (hss:ss.length<=1000000) (htd:bN dZ h base 3 tv todo) (htb:tv.ownBlock=tb)
 (hbase:base<=h.size) (hOt:∀b,tb=some b->O b/\b≠nb/\v.ownBlock≠some b) (hlt:∀j∈todo,j<ss.length) (hpot:todo.length+tn ss (List.replicate ss.length false)<=1000000) :
 aq Tryz.prog 104 #[.pointer (some ⟨nb,0,none⟩),tv] h (bw fun r h'=>bN dZ h' h.size 3 r (closed ss todo)/\Ext (cv tb) h h'):=by
 obtain⟨css,hc1,hc2,hc3⟩:=id hn.row;obtain⟨va,vc,rfl,_⟩:=hc2.open
 have htl:tb=none\/∃b,tb=some b/\b<h.size:=by
  cases tb with
  |none=>exact .inl rfl
  |some b=>exact .inr ⟨b,rfl,(aB.lt htd htb).2⟩
 obtain⟨oa,c,rfl,_⟩:=(show aB h base 3 1 tv todo.length (todo.map dZ) from htd).open;generalize htgt:jg ss (todo.length+tn ss (List.replicate ss.length false)) todo (List.replicate ss.length false)=tgt;refine bL ?_;refine af ?_;refine aR (fun hz=>?_) (fun hz=>?_)
 · refine af ?_;refine bp ?_;have:closed ss todo=[]:=by unfold closed;rw[if_pos (by omega)]
   rw[this];exact⟨_,rfl,bN.nil _ _ _ _,Ext.refl _ _⟩
 · refine af ?_;refine xp rfl (aA rfl (hn.blk.cell (i:=0) rfl)) ?_;refine af ?_;refine xo rfl (aQ.qT underlying151 H.Rl H.Q5 rfl rfl rfl (by omega) (by decide)) ?_;rintro _ h1 ⟨rfl,hk1,e1⟩;refine af ?_;refine gY (σ:=Nat×Value×List Nat×List Bool) (fun q=>[(1,q.2.1)]) (fun q h'=>Ext (cv tb) h h'/\bN dZ h' base 3 q.2.1 q.2.2.1/\(∀b,q.2.1.ownBlock=some b->tb=some b\/h1.size<=b)/\aB h' h.size 4 1 (.slice (some ⟨h.size,0,none⟩) ss.length ss.length) ss.length (q.2.2.2.map .bool)/\q.2.2.2.length=ss.length/\(∀j∈q.2.2.1,j<ss.length)/\(q.2.2.1.length+tn ss q.2.2.2<=q.1/\q.1<=1000000/\h1.size<=h'.size)/\jg ss q.1 q.2.2.1 q.2.2.2=tgt) (fun q=>q.1) ((todo.length+tn ss (List.replicate ss.length false),.slice oa todo.length c,todo,List.replicate ss.length false)) ⟨e1.mono fun _ _ k=>k.elim,aB.CW htd e1,fun b hb=>.inl (htb.symm.trans hb),by simpa using hk1,by simp,hlt,⟨Nat.le_refl _,hpot,Nat.le_refl _⟩,htgt⟩ rfl ?_;rintro⟨n,dv,td,seen⟩ g ⟨eg,hd,hdo,hs,hsl,hlt',⟨hp,hn1,hgz⟩,hcon⟩ ih
   try dsimp only
   dsimp only at hd hdo hs hsl hlt' hp hn1 hcon;have hz1:h.size<h1.size:=by have:=(aB.lt hk1 rfl).2;exact this
   have hsow:=hs.open;obtain⟨sa,sc,hsv,hsow⟩:=hsow;cases hsv
   rcases Nat.eq_zero_or_pos td.length with hpos|hpos
   · obtain rfl:td=[]:=List.eq_nil_of_length_eq_zero hpos;obtain⟨oad,cd,rfl,_⟩:=(show aB g base 3 1 dv ([]:List Nat).length (([]:List Nat).map dZ) from hd).open;rw[Hj] at hcon;refine af ?_;refine fe rfl (by simp) ?_;have hnc:∀{h':ai},Ext (cv tb) h h'->bO h' O nb (.slice va ss.length vc) ss st:=fun e=>hn.ext e (fun k=>(hOt nb k.symm).2.1 rfl) (fun b hb k=>(hOt b k.symm).2.2 hb) (fun b _ k=>(hOt b k.symm).1) (fun _ _ k=>k)
     have hcl:closed ss todo=(List.range ss.length).filter (HC ss seen):=by
      unfold closed;rw[if_neg (by omega),htgt,<-hcon];rfl
     refine af ?_;refine gY (σ:=Nat×Value) (fun q=>[(7,q.2),(61,.int .i64 (q.1:Nat))]) (fun q h'=>q.1<=ss.length/\aj g h'/\bN dZ h' g.size 3 q.2 ((List.range q.1).filter (HC ss seen))) (fun q=>ss.length-q.1) ((0,.slice none 0 0)) ⟨Nat.zero_le _,Ext.refl _ _,bN.nil _ _ _ _⟩ rfl ?_;rintro⟨i,ov⟩ g2 ⟨hi,e2,ho2⟩ ih2
     try dsimp only
     dsimp only at hi ho2;have eg2:Ext (cv tb) h g2:=eg.trans (e2.mono fun _ _ k=>k.elim);have hn2:=hnc eg2;have hz2:=e2.size;refine af ?_;refine aR (fun hlti=>?_) (fun hlti=>?_)
     · have hil:i<ss.length:=by omega
       obtain⟨bx,hbx⟩:∃bx,seen[i]? =some bx:=⟨_,List.getElem?_eq_getElem (by omega)⟩
       obtain⟨y,hy⟩:∃y,ss[i]? =some y:=⟨_,List.getElem?_eq_getElem hil⟩
       obtain⟨sa2,sc2,hsv2,hsow2⟩:=(aB.CW hs e2).open;cases hsv2;obtain⟨g',hg',_,hsg,hscell,hsnf⟩:=hsow2.at (i:=i) (x:=.bool bx) (by rw[List.getElem?_map,hbx];rfl);cases hg';obtain⟨gs,cs,ws,hvs,hgs,hrow,hws⟩:=hn2.get hy;cases hvs;have hlen2:((List.range i).filter (HC ss seen)).length<=i:=by have:=List.length_filter_le (HC ss seen) (List.range i);simpa using this
       have hnext:(List.range (i+1)).filter (HC ss seen)=(List.range i).filter (HC ss seen)++(if HC ss seen i then [i] else []):=by
        rw[List.range_succ,List.filter_append];cases hpr:HC ss seen i<;>simp[hpr]
       iterate 4 refine aX ?_
       refine cD ?_;refine aW ?_;refine xp rfl (cz rfl rfl i rfl rfl) ?_;refine xp rfl (aA rfl hscell) ?_
       iterate 2 refine aW ?_
       refine cX ?_;refine aX ?_;refine fL [(77,.bool (HC ss seen i))] rfl ?_ ?_
       · refine af ?_;refine dG 67 (fun hg=>?_) (fun hg=>?_)
         · refine af ?_;refine xp rfl (aA rfl (hn2.blk.cell (i:=0) rfl)) ?_;refine aW ?_;refine xp rfl (cz rfl rfl i rfl rfl hil) ?_;refine af ?_;refine xp rfl (aA rfl (hrow 0 _ rfl)) ?_;refine af ?_;exact aF rfl ⟨au rfl (by subst hg;simp[HC,hbx,hy];by_cases hk0:y.kind=0<;>simp[hk0]),sb rfl⟩
         · refine af ?_;exact aF rfl ⟨au rfl (by subst hg;simp[HC,hbx]),sb rfl⟩
       · refine iM (fun hb=>?_) (fun hb=>?_)
         · rw[if_pos hb] at hnext;refine af ?_;refine xo rfl (iL [_]) ?_;rintro _ _ ⟨rfl,rfl⟩;refine xo rfl (uH rfl rfl ho2 rfl rfl) ?_;rintro ov3 g3 ⟨ho3,hx3,-,hv3⟩;refine af ?_;have ho3':bN dZ g3 g.size 3 ov3 ((List.range (i+1)).filter (HC ss seen)):=by rw[hnext];exact bN.of (ys:=[i]) ho3 rfl rfl rfl
           have e3:aj g g3:=bN.grown e2 ho2 (Nat.le_refl _) hx3;exact ih2 (i+1,ov3) ⟨by show i+1<=_;omega,e3,ho3'⟩
         · rw[if_neg (by rw[hb];decide)] at hnext;rw[List.append_nil] at hnext;rw[<-hnext] at ho2;refine af ?_;exact ih2 (i+1,ov) ⟨by show i+1<=_;omega,e2,ho2⟩
     · obtain rfl:i=ss.length:=by omega
       refine af ?_;refine bp ?_;rw[hcl];exact⟨_,rfl,aB.lower ho2 (by omega),eg2⟩
   · obtain⟨m,hm⟩:∃m,td.length=m+1:=⟨td.length-1,by omega⟩
     obtain⟨gd,cd,x,rfl,hcd,hgd,hbd,hcell,hlast,hcut,hcb⟩:=IK hd hm;have hgl:td.getLast? =some x:=by rw[hlast];simp
     have hxl:x<ss.length:=hlt' x (by rw[hlast];simp);have hltd:∀j∈td.dropLast,j<ss.length:=fun j hj=>hlt' j (List.dropLast_subset _ hj)
     have hdl:td.dropLast.length=m:=by simp[hm]
     obtain⟨n,rfl⟩:∃n',n=n'+1:=⟨n-1,by omega⟩
     obtain⟨bx,hbx⟩:∃bx,seen[x]? =some bx:=⟨_,List.getElem?_eq_getElem (by omega)⟩
     obtain⟨y,hy⟩:∃y,ss[x]? =some y:=⟨_,List.getElem?_eq_getElem hxl⟩
     obtain⟨g',hg',_,hsg,hscell,hsnf⟩:=hsow.at (i:=x) (x:=.bool bx) (by rw[List.getElem?_map,hbx];rfl);cases hg';refine af ?_;refine fF rfl (by simp only[decide_eq_false_iff_not];omega) ?_
     iterate 3 refine aX ?_
     refine cD ?_
     iterate 4 refine aW ?_
     refine xp rfl (cz rfl rfl m (by omega) rfl) ?_;refine xp rfl (aA rfl hcell) ?_;refine af ?_;refine xp rfl (ay.mE underlying121 H.nD rfl rfl m (by omega) (by omega)) ?_;refine aW ?_;refine cX ?_
     iterate 2 refine aX ?_
     refine cD ?_
     iterate 2 refine aW ?_
     refine xp rfl (cz rfl rfl x rfl rfl) ?_;refine xp rfl (aA rfl hscell) ?_;refine af ?_;refine iM (fun hb=>?_) (fun hb=>?_)
     · subst hb;rw[EF hgl hbx] at hcon;refine af ?_;exact ih (n,_,td.dropLast,seen) ⟨eg,hcut,fun b hb=>hdo b (by rw[<-hb];exact hcb▸rfl),hs,hsl,hltd,⟨by show td.dropLast.length+tn ss seen<=n;omega,by show n<=_;omega,hgz⟩,hcon⟩
     · subst hb;rw[Hl hgl hbx hy] at hcon;have hpt:=AE ss seen x y hy hbx
       have hgne:¬gd=h.size:=fun k=>by
        rcases hdo gd rfl with k2|k2
        · rcases htl with k3|⟨b3,k3,k4⟩
          · rw[k3] at k2;cases k2
          · rw[k3] at k2;cases k2;omega
        · omega
       iterate 2 refine aX ?_
       refine cD ?_
       iterate 2 refine aW ?_
       refine xp rfl (cz rfl rfl x rfl rfl) ?_;refine aM rfl (bX H.Mz rfl rfl rfl hscell hsnf) ?_;rintro _ g2 ⟨rfl,hg2⟩;have x2:Ext (fun b=>b=h.size) g g2:=by rw[hg2];exact Ext.dV _ _ _ rfl
       have hz2:=x2.size;have eg2:Ext (cv tb) h g2:=⟨by omega,fun b hb hn=>by rw[x2.block b (by omega) (by omega)];exact eg.block b hb hn⟩
       have hs2:aB g2 h.size 4 1 (.slice (some ⟨h.size,0,none⟩) ss.length ss.length) ss.length ((seen.set x true).map .bool):=by
        have k:=(hsow.set (i:=x) rfl hxl (.bool true)).own;rw[<-hg2] at k;rw[List.map_set];exact k
       have hcut2:aB g2 base 3 1 _ td.dropLast.length (td.dropLast.map dZ):=aB.ext x2 hcut (fun b hb k=>hgne (by have:=hcb.symm.trans hb;cases this;exact k));have hn2:bO g2 O nb _ ss st:=hn.ext eg2 (fun k=>(hOt nb k.symm).2.1 rfl) (fun b hb k=>(hOt b k.symm).2.2 hb) (fun b _ k=>(hOt b k.symm).1) (fun _ _ k=>k);obtain⟨gs,cs,ws,hvs,hgs,hrow,hws⟩:=hn2.get hy;cases hvs;have hsl2:(seen.set x true).length=ss.length:=by simpa using hsl
       refine af ?_;refine xp rfl (aA rfl (hn2.blk.cell (i:=0) rfl)) ?_;refine aW ?_;refine xp rfl (cz rfl rfl x rfl rfl hxl) ?_;refine af ?_;refine xp rfl (aA rfl (hrow 0 _ rfl)) ?_;refine af ?_;refine aR (fun hk=>?_) (fun hk=>?_)
       · rw[if_pos (by omega)] at hcon;obtain⟨wa,wn,wc,rfl,_⟩:=id hws;obtain⟨hwl,hwn,hwm⟩:=Dj hws;rw[hdl] at hcut2;refine af ?_;refine xp rfl (aA rfl (hn2.blk.cell (i:=0) rfl)) ?_;refine aW ?_;refine xp rfl (cz rfl rfl x rfl rfl hxl) ?_;refine af ?_;refine xp rfl (aA rfl (hrow 5 _ rfl)) ?_;refine xo rfl (aQ.append underlying121 H.OS rfl rfl hcut2 (by simp[hwl]) hwn (by intro u hu;simp at hu;obtain⟨j,_,rfl⟩:=hu;rfl) (by simp only[maxLen];omega) (by omega) (by omega)) ?_;rintro dv3 g3 ⟨hd3,ex3,-,ho3⟩;refine af ?_;have hz3:=ex3.size;rw[hcb] at ex3 ho3
         have hd3':bN dZ g3 base 3 dv3 (td.dropLast++y.to):=by
          unfold bN;rw[List.length_append,hdl,hwl,List.map_append];exact hd3
         have hdo3:∀b,dv3.ownBlock=some b->tb=some b\/h1.size<=b:=fun b hb=>by
          rcases ho3 b hb with k|k
          · exact hdo b k
          · exact .inr (by omega)
         have eg3:Ext (cv tb) h g3:=⟨by omega,fun b hb hn=>by
          rw[ex3.block b (by omega) ?_]
          · exact eg2.block b hb hn
          · intro k;cases k
            rcases hdo gd rfl with k2|k2
            · exact hn k2.symm
            · omega⟩
         have hgood':∀j∈td.dropLast++y.to,j<ss.length:=fun j hj=>by
          rcases List.mem_append.1 hj with k|k
          · exact hltd j k
          · exact hgood y (List.mem_of_getElem? hy) j k
         exact ih (n,dv3,td.dropLast++y.to,seen.set x true) ⟨eg3,hd3',hdo3,aB.ext ex3 hs2 (fun b hb k=>by cases k;cases hb;exact hgne rfl),hsl2,hgood',⟨by show (td.dropLast++y.to).length+tn ss (seen.set x true)<=n;rw[List.length_append];omega,by show n<=_;omega,by show h1.size<=g3.size;omega⟩,hcon⟩
       · rw[if_neg (by omega)] at hcon;refine af ?_;exact ih (n,_,td.dropLast,seen.set x true) ⟨eg2,hcut2,fun b hb=>hdo b (by rw[<-hb];exact hcb▸rfl),hs2,hsl2,hltd,⟨by show td.dropLast.length+tn ss (seen.set x true)<=n;omega,by show n<=_;omega,by show h1.size<=g2.size;omega⟩,hcon⟩
theorem BY {ss:List aZ}(hn:bO h O nb v ss st) (hgood:Good ss) (hss:ss.length<=1000000) (hst:ss.length=0\/st<ss.length) (hpot:1+tn ss (List.replicate ss.length false)<=1000000) :
 aq Tryz.prog 54 #[.pointer (some ⟨nb,0,none⟩)] h (bw fun r h'=>bN dZ h' h.size 3 r (bR ss st)/\aj h h'):=by
 have hown:=hn.own;have hnlt:=hn.blk.lt;refine bL ?_;refine af ?_;refine xo rfl (aE rfl (qa hn)) ?_;rintro _ h0 ⟨rfl,hh0⟩;refine af ?_;subst hh0;refine aR (fun hz=>?_) (fun hz=>?_)
 · refine af ?_;refine bp ?_;rw[bR,if_pos hz];exact⟨_,rfl,bN.nil _ _ _ _,Ext.refl _ _⟩
 · have hn1:bO (h0.push (.cells #[.int .i64 (st:Nat)] 3)) (fun b=>O b\/b=h0.size) nb v ss st:=hn.ah (Ext.push _ _ _) (fun b hb k=>k.elim id (fun k=>by omega));have ho1:bN dZ (h0.push (.cells #[.int .i64 (st:Nat)] 3)) h0.size 3 (.slice (some ⟨h0.size,0,none⟩) 1 1) [st]:=ku dZ h0 3 [st] 1 rfl (by simp[maxLen]) h0.size (Nat.le_refl _) rfl;refine af ?_;refine xp rfl (aA rfl (hn.blk.cell (i:=1) rfl)) ?_;refine xo rfl (iL [_]) ?_;rintro _ _ ⟨rfl,rfl⟩;refine xo rfl (aE rfl (rG (tb:=some h0.size) hn1 hgood hss ho1 rfl (by simp) (fun b hb=>by cases hb;exact⟨.inr rfl,by omega,fun k=>by have:=(hown _ k).2;omega⟩) (fun j hj=>by simp at hj;omega) hpot)) ?_;rintro _ h2 ⟨ho2,hx2⟩;refine af ?_;refine bp ?_;rw[bR,if_neg hz];have hps:(h0.push (.cells #[.int .i64 (st:Nat)] 3)).size=h0.size+1:=by simp
   refine⟨_,rfl,aB.lower ho2 (by omega),⟨by have:=hx2.size;omega,fun b hb _=>?_⟩⟩;rw[hx2.block b (by omega) (fun k=>by cases k;omega)];exact(Ext.push (fun _=>False) h0 _).block b hb (fun k=>k)
theorem yB {nv:Value}{ss:List aZ}{now:List Nat}(hn:bO h O nb v ss st) (_hss:ss.length<=1000000) (hnow:aT iY h (fun _=>False) nv now) (hlt:∀j∈now,j<ss.length) (hnn:now.length<=1000000) :
 aq Tryz.prog 57 #[.pointer (some ⟨nb,0,none⟩),nv] h (bw fun r h'=>r= .int .i64 (aL ss now)/\h'=h):=by
 obtain⟨css,hc1,hc2,hc3⟩:=id hn.row;obtain⟨va,vc,rfl,_⟩:=hc2.open;obtain⟨na,nn,nc,rfl,hnl,hnc,hnm,hget⟩:=id hnow;generalize htgt:rL ss now (-1)=tgt;refine bL ?_;refine af ?_;refine xo rfl (aE rfl (qa hn)) ?_;rintro _ h0 ⟨rfl,hh0⟩;refine af ?_;subst hh0;refine aR (fun hz=>?_) (fun hz=>?_)
 · refine af ?_;refine bp ?_;rw[aL,if_pos hz];exact⟨_,rfl,rfl,rfl⟩
 · refine af ?_;refine gY (σ:=Nat×Int) (fun q=>[(5,.int .i64 q.2),(13,.int .i64 (q.1:Nat))]) (fun q h'=>h'=h0/\q.1<=nn/\rL ss (now.drop q.1) q.2=tgt) (fun q=>nn-q.1) ((0,-1)) ⟨rfl,Nat.zero_le _,htgt⟩ rfl ?_;rintro⟨i,b⟩ h1 ⟨rfl,hi,hcon⟩ ih
   try dsimp only
   dsimp only at hi hcon;refine af ?_;refine aR (fun hlti=>?_) (fun hlti=>?_)
   · obtain⟨j,hj⟩:∃j,now[i]? =some j:=⟨_,List.getElem?_eq_getElem (by omega)⟩
     obtain⟨bb,o,cs,ha,_,hrow,rfl⟩:=hget i j hj;have hjl:j<ss.length:=hlt j (List.mem_of_getElem? hj);obtain⟨y,hy⟩:∃y,ss[j]? =some y:=⟨_,List.getElem?_eq_getElem hjl⟩
     obtain⟨gs,cs,ws,hvs,hgs,hrw,hws⟩:=hn.get hy;cases hvs
     have hdr:now.drop i=j::now.drop (i+1):=by
      obtain⟨hi',rfl⟩:=List.getElem?_eq_some_iff.1 hj;exact List.drop_eq_getElem_cons hi'
     rw[hdr,rL,hy] at hcon;simp only at hcon
     iterate 4 refine aX ?_
     refine cD ?_;refine xp rfl (cz rfl rfl i rfl ha) ?_;refine xp rfl (aA rfl (hrow 0 _ rfl)) ?_;refine aW ?_;refine cX ?_;refine aX ?_;refine fL [(54,.bool (rK y b))] rfl ?_ ?_
     · refine af ?_;refine RW.cV (d:=19) (b':=true) rfl (decide_eq_true (by omega)) ?_;refine af ?_;refine xp rfl (aA rfl (hn.blk.cell (i:=0) rfl)) ?_;refine af ?_;refine RW.cV (d:=28) (b':=true) rfl (decide_eq_true (by omega)) ?_;refine af ?_;refine xp rfl (aA rfl (hn.blk.cell (i:=0) rfl)) ?_;refine aW ?_;refine xp rfl (cz rfl rfl j rfl rfl hjl) ?_;refine af ?_;refine xp rfl (aA rfl (hrw 0 _ rfl)) ?_;refine af ?_;refine dG 39 (fun hk=>?_) (fun hk=>?_)
       · have hk':=of_decide_eq_true hk;refine af ?_;refine dG 42 (fun hb=>?_) (fun hb=>?_)
         · have hb':=of_decide_eq_true hb;refine af ?_;exact aF rfl ⟨au rfl (by simp[rK];omega),sb rfl⟩
         · have hb':=of_decide_eq_false hb;refine af ?_;refine xp rfl (aA rfl (hn.blk.cell (i:=0) rfl)) ?_;refine aW ?_;refine xp rfl (cz rfl rfl j rfl rfl hjl) ?_;refine af ?_;refine xp rfl (aA rfl (hrw 6 _ rfl)) ?_;refine af ?_;exact aF rfl ⟨au rfl (by simp only[rK,decide_eq_decide];omega),sb rfl⟩
       · have hk':=of_decide_eq_false hk;refine af ?_;exact aF rfl ⟨au rfl (by simp[rK];omega),sb rfl⟩
     · refine iM (fun hb=>?_) (fun hb=>?_)
       · rw[if_pos hb] at hcon;refine af ?_;refine xp rfl (aA rfl (hn.blk.cell (i:=0) rfl)) ?_;refine aW ?_;refine xp rfl (cz rfl rfl j rfl rfl hjl) ?_;refine af ?_;refine xp rfl (aA rfl (hrw 6 _ rfl)) ?_;refine af ?_;exact ih (i+1,(y.rule:Int)) ⟨rfl,by show i+1<=nn;omega,hcon⟩
       · rw[if_neg (by rw[hb];decide)] at hcon;refine af ?_;exact ih (i+1,b) ⟨rfl,by show i+1<=nn;omega,hcon⟩
   · have hnil:now.drop i=[]:=List.drop_of_length_le (by omega);rw[hnil,rL] at hcon;refine af ?_;refine bp ?_;rw[aL,if_neg hz,htgt];exact⟨_,rfl,by rw[hcon];rfl,rfl⟩
theorem DQ {nv:Value}{ss:List aZ}{now:List Nat}(c:UInt8) (hn:bO h O nb v ss st) (hgood:Good ss) (hss:ss.length<=1000000) (hnow:aT iY h (fun _=>False) nv now) (hlt:∀j∈now,j<ss.length) (hnn:now.length<=1000000)
 (hpot:(stepG ss c now []).length+tn ss (List.replicate ss.length false)<=1000000) :
 aq Tryz.prog 56 #[.pointer (some ⟨nb,0,none⟩),nv,.int .u8 (c.toNat:Nat)] h (bw fun r h'=>bN dZ h' h.size 3 r (bV ss c now)/\aj h h'):=by
 have hown:=hn.own;have hnlt:=hn.blk.lt;obtain⟨css,hc1,hc2,hc3⟩:=id hn.row;obtain⟨va,vc,rfl,_⟩:=hc2.open;obtain⟨na,nn,nc,rfl,hnl,hnc,hnm,hget⟩:=id hnow;generalize htgt:stepG ss c now []=tgt at *;refine bL ?_;refine af ?_;refine xo rfl (aE rfl (qa hn)) ?_;rintro _ h0 ⟨rfl,hh0⟩;refine af ?_;subst hh0;refine aR (fun hz=>?_) (fun hz=>?_)
 · refine af ?_;refine bp ?_;rw[bV,if_pos hz];exact⟨_,rfl,bN.nil _ _ _ _,Ext.refl _ _⟩
 · refine af ?_;refine gY (σ:=Nat×Value×List Nat) (fun q=>[(7,q.2.1),(14,.int .i64 (q.1:Nat))]) (fun q h'=>aj h0 h'/\q.1<=nn/\bN dZ h' h0.size 3 q.2.1 q.2.2/\(∀j∈q.2.2,j<ss.length)/\stepG ss c (now.drop q.1) q.2.2=tgt) (fun q=>nn-q.1) ((0,.slice none 0 0,[])) ⟨Ext.refl _ _,Nat.zero_le _,bN.nil _ _ _ _,(fun j hj=>by cases hj),htgt⟩ rfl ?_;rintro⟨i,ov,acc⟩ h1 ⟨e1,hi,ho,hal,hcon⟩ ih
   try dsimp only
   dsimp only at hi ho hal hcon;have hz1:=e1.size;have hn1:bO h1 O nb (.slice va ss.length vc) ss st:=hn.ah e1 (fun _ _ k=>k);have hacc:acc.length<=tgt.length:=by rw[<-hcon];exact rV _ _ _ _
   refine af ?_;refine aR (fun hlti=>?_) (fun hlti=>?_)
   · obtain⟨j,hj⟩:∃j,now[i]? =some j:=⟨_,List.getElem?_eq_getElem (by omega)⟩
     obtain⟨bb,o,cs,ha,_,hrow,rfl⟩:=hget i j hj;have hjl:j<ss.length:=hlt j (List.mem_of_getElem? hj);obtain⟨y,hy⟩:∃y,ss[j]? =some y:=⟨_,List.getElem?_eq_getElem hjl⟩
     obtain⟨gs,cs,ws,hvs,hgs,hrw,hws⟩:=hn1.get hy;cases hvs
     have hdr:now.drop i=j::now.drop (i+1):=by
      obtain⟨hi',rfl⟩:=List.getElem?_eq_some_iff.1 hj;exact List.drop_eq_getElem_cons hi'
     rw[hdr,stepG,hy] at hcon;simp only at hcon;have hrow1:Lw.rowAt h1 bb (o+i*1) [dZ j]:=e1.rowAt (fun k=>k) hrow
     have hset:Lw.rowAt h1 gs (0+j*7+1) (wT y.set):=fun q u hu=>by
      have hq:(Gl y.kind y.set ws y.rule)[1+q]? =some u:=by
       match q with
       | 0=>exact hu
       | 1=>exact hu
       | 2=>exact hu
       | 3=>exact hu
       |q+4=>simp[wT] at hu
      have:=hrw (1+q) u hq
      rwa [<-Nat.add_assoc] at this
     iterate 4 refine aX ?_
     refine cD ?_;refine xp rfl (cz rfl rfl i rfl ha) ?_;refine xp rfl (aA rfl (hrow1 0 _ rfl)) ?_;refine aW ?_;refine cX ?_;refine aX ?_;refine PK (fun(_u:Unit) (h':ai)=>aj h1 h') (fun(_u:Unit)=>[(51,.bool (jI y c))]) rfl ?_ ?_
     · refine af ?_;refine RW.cV (d:=20) (b':=true) rfl (decide_eq_true (by omega)) ?_;refine af ?_;refine xp rfl (aA rfl (hn1.blk.cell (i:=0) rfl)) ?_;refine af ?_;refine RW.cV (d:=29) (b':=true) rfl (decide_eq_true (by omega)) ?_;refine af ?_;refine xp rfl (aA rfl (hn1.blk.cell (i:=0) rfl)) ?_;refine aW ?_;refine xp rfl (cz rfl rfl j rfl rfl hjl) ?_;refine af ?_;refine xp rfl (aA rfl (hrw 0 _ rfl)) ?_;refine af ?_;refine dG 40 (fun hk=>?_) (fun hk=>?_)
       · have hk':=of_decide_eq_true hk;have hk2:y.kind=1:=by omega
         refine af ?_;refine xp rfl (aA rfl (hn1.blk.cell (i:=0) rfl)) ?_;refine aW ?_;refine xp rfl (cz rfl rfl j rfl rfl hjl) ?_;refine af ?_;refine xp rfl (bY rfl hset) ?_;refine af ?_;refine xo rfl (aE rfl (G5 y.set c)) ?_;rintro _ h2 ⟨rfl,e2⟩;refine af ?_;exact zV () e2 ⟨au rfl (by simp[jI,hk2]),sb rfl⟩
       · have hk':=of_decide_eq_false hk;have hk2:¬y.kind=1:=by omega
         refine af ?_;exact zV () (Ext.refl _ _) ⟨au rfl (by simp[jI,hk2]),sb rfl⟩
     · rintro _ h2 e2;have e02:=e1.trans e2;have ho2:bN dZ h2 h0.size 3 ov acc:=bN.ah ho e2;have hn2:bO h2 O nb _ ss st:=hn.ah e02 (fun _ _ k=>k);have hz2:=e02.size;refine iM (fun hb=>?_) (fun hb=>?_)
       · rw[if_pos hb] at hcon;have hacc2:(acc++y.to).length<=tgt.length:=by rw[<-hcon];exact rV _ _ _ _
         rw[List.length_append] at hacc2;obtain⟨gs,cs,ws,hvs,hgs,hrw2,hws2⟩:=hn2.get hy;cases hvs;obtain⟨wa,wn,wc,rfl,_⟩:=id hws2;obtain⟨hwl,hwn,hwm⟩:=Dj hws2;refine af ?_;refine xp rfl (aA rfl (hn2.blk.cell (i:=0) rfl)) ?_;refine aW ?_;refine xp rfl (cz rfl rfl j rfl rfl hjl) ?_;refine af ?_;refine xp rfl (aA rfl (hrw2 5 _ rfl)) ?_;refine xo rfl (aQ.append underlying121 H.OS rfl rfl ho2 (by simp[hwl]) hwn (by intro u hu;simp at hu;obtain⟨j,_,rfl⟩:=hu;rfl) (by simp only[maxLen];omega) (by omega) (by omega)) ?_;rintro ov3 h3 ⟨ho3,hx3,-,hv3⟩;refine af ?_
         have ho3':bN dZ h3 h0.size 3 ov3 (acc++y.to):=by
          unfold bN;rw[List.length_append,hwl,List.map_append];exact ho3
         have e3:aj h0 h3:=bN.grown e02 ho2 (Nat.le_refl _) hx3
         have hal3:∀j∈acc++y.to,j<ss.length:=fun j hj=>by
          rcases List.mem_append.1 hj with k|k
          · exact hal j k
          · exact hgood y (List.mem_of_getElem? hy) j k
         exact ih (i+1,ov3,acc++y.to) ⟨e3,by show i+1<=nn;omega,ho3',hal3,hcon⟩
       · rw[if_neg (by rw[hb];decide)] at hcon;refine af ?_;exact ih (i+1,ov,acc) ⟨e02,by show i+1<=nn;omega,ho2,hal,hcon⟩
   · have hnil:now.drop i=[]:=List.drop_of_length_le (by omega);rw[hnil,stepG] at hcon;subst hcon;have hol:∀b,ov.ownBlock=some b->h0.size<=b/\b<h1.size:=fun b hb=>aB.lt ho hb
     have hn':bO h1 (fun b=>O b\/cv ov.ownBlock b) nb (.slice va ss.length vc) ss st:=hn.ah e1 (fun b hb k=>k.elim id (fun k=>by have:=(hol b k.symm).1;omega));refine af ?_;refine xo rfl (aE rfl (rG (tb:=ov.ownBlock) hn' hgood hss ho rfl (by omega) (fun b hb=>⟨.inr hb.symm,by have:=hol b hb;omega,fun k=>by have:=hol b hb;have:=(hown b k).2;omega⟩) hal hpot)) ?_;rintro _ h2 ⟨ho2,hx2⟩;refine af ?_;refine bp ?_;rw[bV,if_neg hz,htgt];refine⟨_,rfl,aB.lower ho2 (by omega),⟨by have:=hx2.size;omega,fun b hb _=>?_⟩⟩;rw[hx2.block b (by omega) (fun k=>by have:=hol b k.symm;omega)];exact e1.block b hb (fun k=>k)
theorem rN {α:Type}{e:fQ α}{Q Q':Nat->Prop}{xs:List α}(k:aT e h Q v xs) (hq:∀b,Q' b->Q b):aT e h Q' v xs:=k.mv ⟨Nat.le_refl _,fun b _ hn=>⟨rfl,fun k=>hn (hq b k)⟩⟩
end
end Go.Proofs.YtoickfdopobmgaaGreatDoor
namespace Go.Proofs.YtoickfdopobmgaaGreatDoor
section
variable {fin:Nat->Prop}{n to i st:Nat}{w:By}{todo:List Nat}
inductive zS (A:By->Prop):By->Prop where
  |nil:zS A []
  |cons {u v:By}:A u->zS A v->zS A (u++v)
end
mutual
def Ks:Nd->By->Prop
  |.mk k s kids=>fun w =>
    if k=1 then ∃c:UInt8,w=[c]/\s.testBit c.toNat=true
    else if k=2 then xP kids w
    else if k=3 then sQ kids w
    else if k=6 then w=[]\/qz kids w
    else if k=4 then zS (qz kids) w
    else if k=5 then ∃u v,w=u++v/\qz kids u/\zS (qz kids) v
    else w=[]
def xP:List Nd->By->Prop
  | []=>fun w=>w=[]
  |x::r=>fun w=>∃u v,w=u++v/\Ks x u/\xP r v
def sQ:List Nd->By->Prop
  | []=>fun _=>False
  |x::r=>fun w=>Ks x w\/sQ r w
def qz:List Nd->By->Prop
  | []=>fun w=>w=[]
  |x::_=>fun w=>Ks x w
end
section
variable {fin:Nat->Prop}{n to i st:Nat}{w:By}{todo:List Nat}
inductive Acc (F:List aZ) (fin:Nat->Prop):Nat->Nat->By->Prop where
  |done {q:Nat}:fin q->Acc F fin 0 q []
  |eps {n q q':Nat}{x:aZ}{w:By}:F[q]? =some x->x.kind=0->q'∈x.to->Acc F fin n q' w->Acc F fin (n+1) q w
  |eat {n q q':Nat}{x:aZ}{c:UInt8}{w:By}:F[q]? =some x->x.kind=1->x.set.testBit c.toNat=true->q'∈x.to->Acc F fin n q' w->Acc F fin (n+1) q (c::w)
def l9 (F:List aZ) (fin:Nat->Prop):Prop:=∀q,fin q->∃x,F[q]? =some x/\x.kind=2
theorem Acc.fork {F:List aZ}(hf:l9 F fin){q:Nat}{x:aZ}(hx:F[q]? =some x) (hk:x.kind=0) (h:Acc F fin n q w):∃m q',m<n/\q'∈x.to/\Acc F fin m q' w:=by
  cases h with
  |done hq=>obtain⟨y,hy,hk2⟩:=hf _ hq;rw[hx] at hy;cases hy;omega
  |eps hy _ hq h=>rw[hx] at hy;cases hy;exact⟨_,_,Nat.lt_succ_self _,hq,h⟩
  |eat hy hk1 _ _ _=>rw[hx] at hy;cases hy;omega
theorem Acc.QK {F:List aZ}(hf:l9 F fin){q:Nat}{x:aZ}(hx:F[q]? =some x) (hk:x.kind=1) (h:Acc F fin n q w):∃m q' c w',m<n/\w=c::w'/\x.set.testBit c.toNat=true/\q'∈x.to/\Acc F fin m q' w':=by
  cases h with
  |done hq=>obtain⟨y,hy,hk2⟩:=hf _ hq;rw[hx] at hy;cases hy;omega
  |eps hy hk1 _ _=>rw[hx] at hy;cases hy;omega
  |eat hy _ hc hq h=>rw[hx] at hy;cases hy;exact⟨_,_,_,_,Nat.lt_succ_self _,rfl,hc,hq,h⟩
def Splits (F:List aZ) (fin:Nat->Prop) (b to:Nat) (A:By->Prop):Prop :=
  (∀n w,Acc F fin n b w->∃u v m,w=u++v/\A u/\m<=n/\Acc F fin m to v)/\(∀u v m,A u->Acc F fin m to v->∃n,Acc F fin n b (u++v))
def Hv (F ss':List aZ) (lo:Nat):Prop:=∀i,lo<=i->i<ss'.length->F[i]? =ss'[i]?
theorem pU {F:List aZ}:Splits F fin to to (fun w=>w=[]) :=
  ⟨fun n w h=>⟨[],w,n,rfl,rfl,Nat.le_refl _,h⟩,fun u v m hu h=>⟨m,by subst hu;exact h⟩⟩
theorem BZ {F:List aZ}(hf:l9 F fin){first again:Nat}{A:By->Prop}{x:aZ}(hx:F[again]? =some x) (hk:x.kind=0) (ht:x.to=[first,to]) (h:Splits F fin first again A):Splits F fin again to (zS A):=by
  constructor
  · intro n
    induction n using Nat.strongRecOn with
    |_ n ih =>
      intro w hw;obtain⟨m,q',hm,hq,hw'⟩:=hw.fork hf hx hk;rw[ht] at hq
      rcases List.mem_cons.1 hq with rfl|hq
      · obtain⟨u1,v1,m1,rfl,hu1,hm1,hv1⟩:=h.1 _ _ hw';obtain⟨u2,v2,m2,rfl,hu2,hm2,hv2⟩:=ih m1 (by omega) _ hv1;exact⟨u1++u2,v2,m2,by simp,.cons hu1 hu2,by omega,hv2⟩
      · have:q'=to:=by simpa using hq
        subst this;exact⟨[],w,m,rfl,.nil,by omega,hw'⟩
  · intro u v m hu hv
    induction hu with
    |nil=>exact⟨m+1,.eps hx hk (by rw[ht];simp) hv⟩
    |cons hA _ ih =>
      obtain⟨n,hn⟩:=ih;obtain⟨n',hn'⟩:=h.2 _ _ _ hA hn;exact⟨n'+1,.eps (q':=first) hx hk (by rw[ht];simp) (by rw[List.append_assoc];exact hn')⟩
theorem uV {F:List aZ}{b c:Nat}{A B:By->Prop}(h1:Splits F fin b c A) (h2:Splits F fin c to B):Splits F fin b to (fun w=>∃u v,w=u++v/\A u/\B v):=by
  constructor
  · intro n w hw;obtain⟨u1,v1,m1,rfl,hu1,hm1,hv1⟩:=h1.1 _ _ hw;obtain⟨u2,v2,m2,rfl,hu2,hm2,hv2⟩:=h2.1 _ _ hv1;exact⟨u1++u2,v2,m2,by simp,⟨_,_,rfl,hu1,hu2⟩,by omega,hv2⟩
  · rintro u v m ⟨u1,u2,rfl,hA,hB⟩ hv;obtain⟨n,hn⟩:=h2.2 _ _ _ hB hv;obtain⟨n',hn'⟩:=h1.2 _ _ _ hA hn;exact⟨n',by rw[List.append_assoc];exact hn'⟩
end
mutual
theorem mP {F:List aZ}{fin:Nat->Prop}(hf:l9 F fin):∀(x:Nd) (ss:List aZ) (to:Nat),Hv F (lay x ss to).1 ss.length->Splits F fin (lay x ss to).2 to (Ks x)
  |.mk k s kids,ss,to,hs=>by
    rw[lay] at hs ⊢;unfold Ks
    by_cases h1:k=1
    · simp only[if_pos h1] at hs ⊢;have hx:F[ss.length]? =some ⟨1,s,[to],0⟩:=by rw[hs _ (Nat.le_refl _) (by simp)];simp
      constructor
      · intro n w hw;obtain⟨m,q',c,w',hm,rfl,hc,hq,hw'⟩:=hw.QK hf hx rfl;have:q'=to:=by simpa using hq
        subst this;exact⟨[c],w',m,rfl,⟨c,rfl,hc⟩,by omega,hw'⟩
      · rintro u v m ⟨c,rfl,hc⟩ hv;exact⟨m+1,.eat hx rfl hc (by simp) hv⟩
    · simp only[if_neg h1] at hs ⊢
      by_cases h2:k=2
      · simp only[if_pos h2] at hs ⊢;exact pI hf kids ss to hs
      · simp only[if_neg h2] at hs ⊢
        by_cases h3:k=3
        · simp only[if_pos h3] at hs ⊢;have hl:=fy kids ss to;have hx:F[(aO kids ss to).1.length]? =some ⟨0,0,(aO kids ss to).2,0⟩:=by rw[hs _ (by omega) (by simp)];simp
          have ih:=pJ hf kids ss to (fun i h1 h2=>by rw[hs i h1 (by simp;omega),List.getElem?_append_left h2]);constructor
          · intro n w hw;obtain⟨m,q',hm,hq,hw'⟩:=hw.fork hf hx rfl;obtain⟨u,v,m',hu⟩:=ih.1 _ _ _ hq hw';exact⟨u,v,m',hu.1,hu.2.1,by omega,hu.2.2.2⟩
          · intro u v m hu hv;obtain⟨n,q',hq,hn⟩:=ih.2 _ _ _ hu hv;exact⟨n+1,.eps hx rfl hq hn⟩
        · simp only[if_neg h3] at hs ⊢
          by_cases h6:k=6
          · simp only[if_pos h6] at hs ⊢;have hl:=gy kids ss to;have hx:F[(bS kids ss to).1.length]? =some ⟨0,0,[(bS kids ss to).2,to],0⟩:=by rw[hs _ (by omega) (by simp)];simp
            have ih:=pH hf kids ss to (fun i h1 h2=>by rw[hs i h1 (by simp;omega),List.getElem?_append_left h2]);constructor
            · intro n w hw;obtain⟨m,q',hm,hq,hw'⟩:=hw.fork hf hx rfl
              rcases List.mem_cons.1 hq with rfl|hq
              · obtain⟨u,v,m',h1,h2,h3,h4⟩:=ih.1 _ _ hw';exact⟨u,v,m',h1,.inr h2,by omega,h4⟩
              · have:q'=to:=by simpa using hq
                subst this;exact⟨[],w,m,rfl,.inl rfl,by omega,hw'⟩
            · rintro u v m (rfl|hu) hv
              · exact⟨m+1,.eps hx rfl (by simp) hv⟩
              · obtain⟨n,hn⟩:=ih.2 _ _ _ hu hv;exact⟨n+1,.eps hx rfl (by simp) hn⟩
          · simp only[if_neg h6] at hs ⊢
            by_cases h45:k=4\/k=5
            · simp only[if_pos h45] at hs ⊢;have hl:=gy kids (ss++[⟨0,0,[],0⟩]) ss.length;simp only[List.length_append,List.length_singleton] at hl
              have hx:F[ss.length]? =some ⟨0,0,[(bS kids (ss++[⟨0,0,[],0⟩]) ss.length).2,to],0⟩:=by
                rw[hs _ (Nat.le_refl _) (by simp;omega)];simp[List.getElem?_set];omega
              have ih:=pH hf kids (ss++[⟨0,0,[],0⟩]) ss.length (fun i h1 h2=>by
                simp only[List.length_append,List.length_singleton] at h1;rw[hs i (by omega) (by simp;omega),List.getElem?_set_ne (by omega)])
              have hst:=BZ hf hx rfl rfl ih
              by_cases h4:k=4
              · have h5:¬k=5:=by omega
                simp only[if_pos h4,if_neg h5];exact hst
              · have h5:k=5:=by omega
                simp only[if_neg h4,if_pos h5];exact uV ih hst
            · simp only[if_neg h45] at hs ⊢;have h4:¬k=4:=fun e=>h45 (.inl e)
              have h5:¬k=5:=fun e=>h45 (.inr e)
              simp only[if_neg h4,if_neg h5];exact pU
theorem pI {F:List aZ}{fin:Nat->Prop}(hf:l9 F fin):∀(l:List Nd) (ss:List aZ) (to:Nat),Hv F (bh l ss to).1 ss.length->Splits F fin (bh l ss to).2 to (xP l)
  | [],ss,to,hs=>by
    rw[bh];unfold xP;exact pU
  |x::r,ss,to,hs=>by
    rw[bh] at hs ⊢;unfold xP;have hl:=jW r ss to;have hl2:=fZ x (bh r ss to).1 (bh r ss to).2;have h2:=pI hf r ss to (fun i h1 h2=>by rw[hs i h1 (by omega),mQ x _ _ i h2]);have h1:=mP hf x (bh r ss to).1 (bh r ss to).2 (fun i h1 h2=>hs i (by omega) h2);exact uV h1 h2
theorem pJ {F:List aZ}{fin:Nat->Prop}(hf:l9 F fin):∀(l:List Nd) (ss:List aZ) (to:Nat),Hv F (aO l ss to).1 ss.length ->
    (∀n q w,q∈(aO l ss to).2->Acc F fin n q w->∃u v m,w=u++v/\sQ l u/\m<=n/\Acc F fin m to v)/\(∀u v m,sQ l u->Acc F fin m to v->∃n q,q∈(aO l ss to).2/\Acc F fin n q (u++v))
  | [],ss,to,hs=>by
    rw[aO];unfold sQ;exact⟨fun n q w h=>absurd h List.not_mem_nil,fun u v m h=>False.elim h⟩
  |x::r,ss,to,hs=>by
    rw[aO] at hs ⊢;unfold sQ;have hl:=fZ x ss to;have hl2:=fy r (lay x ss to).1 to;have h1:=mP hf x ss to (fun i h1 h2=>by rw[hs i h1 (by simp only;omega)];exact qg r _ _ i h2);have h2:=pJ hf r (lay x ss to).1 to (fun i h1 h2=>hs i (by omega) h2);constructor
    · intro n q w hq hw
      rcases List.mem_cons.1 hq with rfl|hq
      · obtain⟨u,v,m,a,b,c,d⟩:=h1.1 _ _ hw;exact⟨u,v,m,a,.inl b,c,d⟩
      · obtain⟨u,v,m,a,b,c,d⟩:=h2.1 _ _ _ hq hw;exact⟨u,v,m,a,.inr b,c,d⟩
    · rintro u v m (hu|hu) hv
      · obtain⟨n,hn⟩:=h1.2 _ _ _ hu hv;exact⟨n,_,List.mem_cons_self,hn⟩
      · obtain⟨n,q,hq,hn⟩:=h2.2 _ _ _ hu hv;exact⟨n,q,List.mem_cons_of_mem _ hq,hn⟩
theorem pH {F:List aZ}{fin:Nat->Prop}(hf:l9 F fin):∀(l:List Nd) (ss:List aZ) (to:Nat),Hv F (bS l ss to).1 ss.length->Splits F fin (bS l ss to).2 to (qz l)
  | [],ss,to,hs=>by
    rw[bS];unfold qz;exact pU
  |x::r,ss,to,hs=>by
    rw[bS] at hs ⊢;unfold qz;exact mP hf x ss to hs
end
section
variable {fin:Nat->Prop}{n to i st:Nat}{w:By}{todo:List Nat}
inductive Km (ss:List aZ):Nat->Nat->Prop where
  |refl (i:Nat):Km ss i i
  |step {i j k:Nat}{x:aZ}:ss[i]? =some x->x.kind=0->j∈x.to->Km ss j k->Km ss i k
theorem Km.snoc {ss:List aZ}{j k:Nat}{x:aZ}(h:Km ss i j) (hx:ss[j]? =some x) (hk:x.kind=0) (ht:k∈x.to):Km ss i k:=by
  induction h with
  |refl=>exact .step hx hk ht (.refl _)
  |step a b c _ ih=>exact .step a b c (ih hx)
structure Kn (ss:List aZ) (T todo:List Nat) (seen:List Bool):Prop where
  len:seen.length=ss.length
  inn:∀j∈todo,j<ss.length
  sound:∀i,(seen[i]? =some true\/i∈todo)->∃t∈T,Km ss t i
  cl:∀(i:Nat) (x:aZ),seen[i]? =some true->ss[i]? =some x->x.kind=0->∀j∈x.to,seen[j]? =some true\/j∈todo
  all:∀t∈T,seen[t]? =some true\/t∈todo
theorem Em {l:List Nat}(h:l.getLast? =some i):l=l.dropLast++[i]:=by
  obtain⟨h0,rfl⟩:=List.getLast?_eq_some_iff.1 h;simp
theorem sB {ss:List aZ}{T:List Nat}(hg:Good ss):∀(n:Nat) (todo:List Nat) (seen:List Bool),todo.length+tn ss seen<=n->Kn ss T todo seen->Kn ss T [] (jg ss n todo seen)
  | 0,todo,seen,hn,k=>by
    have:todo=[]:=List.length_eq_zero_iff.1 (by omega);subst this;exact k
  |n+1,todo,seen,hn,k=>by
    unfold jg;split
    · rename_i h;have:todo=[]:=List.getLast?_eq_none_iff.1 h;subst this;exact k
    · rename_i i h;have hsp:=Em h;have hlen:todo.length=todo.dropLast.length+1:=by rw[hsp];simp
      have hi:i∈todo:=by rw[hsp];simp
      have hmem:∀j,j∈todo->j∈todo.dropLast\/j=i:=fun j hj=>by rw[hsp] at hj;simpa using hj
      have hsub:∀j,j∈todo.dropLast->j∈todo:=fun j hj=>by rw[hsp];simp[hj]
      split
      · rename_i hs;refine sB hg n _ _ (by omega) ⟨k.len,fun j hj=>k.inn j (hsub j hj),fun j hj=>k.sound j (hj.imp id (hsub j)),fun j x a b c d e=>?_,fun t ht=>?_⟩
        · rcases k.cl j x a b c d e with h1|h1
          · exact .inl h1
          · rcases hmem d h1 with h2|rfl
            · exact .inr h2
            · exact .inl hs
        · rcases k.all t ht with h1|h1
          · exact .inl h1
          · rcases hmem t h1 with h2|rfl
            · exact .inr h2
            · exact .inl hs
      · rename_i hs;have hil:=k.inn i hi;obtain⟨x,hx⟩:∃x,ss[i]? =some x:=⟨_,List.getElem?_eq_getElem hil⟩
        have hf:seen[i]? =some false:=by
          obtain⟨b,hb⟩:∃b,seen[i]? =some b:=⟨_,List.getElem?_eq_getElem (by rw[k.len];exact hil)⟩
          cases b
          · exact hb
          · exact absurd hb hs
        have hp:=AE ss seen i x hx hf;have hself:(seen.set i true)[i]? =some true:=by rw[List.getElem?_set_self (by rw[k.len];exact hil)]
        have hset:∀j,seen[j]? =some true->(seen.set i true)[j]? =some true:=fun j hj=>by
          by_cases e:i=j
          · subst e;exact hself
          · rw[List.getElem?_set_ne e];exact hj
        have hget:∀j,(seen.set i true)[j]? =some true->j=i\/seen[j]? =some true:=fun j hj=>by
          by_cases e:i=j
          · exact .inl e.symm
          · rw[List.getElem?_set_ne e] at hj;exact .inr hj
        rw[hx];simp only;obtain⟨t0,NL,he0⟩:=k.sound i (.inr hi);have hxm:x∈ss:=List.mem_of_getElem? hx;generalize hnew:(if x.kind=0 then todo.dropLast++x.to else todo.dropLast)=new
        have hin:∀j,j∈new->j∈todo.dropLast\/(x.kind=0/\j∈x.to):=fun j hj=>by
          subst hnew;split at hj
          · rename_i hk
            rcases List.mem_append.1 hj with h1|h1
            · exact .inl h1
            · exact .inr ⟨hk,h1⟩
          · exact .inl hj
        have hold:∀j,j∈todo.dropLast->j∈new:=fun j hj=>by
          subst hnew;split
          · exact List.mem_append_left _ hj
          · exact hj
        have hbig:new.length<=todo.dropLast.length+x.to.length:=by
          subst hnew;split<;>simp
        refine sB hg n _ _ (by omega) ⟨by rw[List.length_set];exact k.len,fun j hj=>?_,fun j hj=>?_,fun j y a b c d e=>?_,fun t ht=>?_⟩
        · rcases hin j hj with h1|⟨_,h1⟩
          · exact k.inn j (hsub j h1)
          · exact hg x hxm j h1
        · rcases hj with h1|h1
          · rcases hget j h1 with rfl|h2
            · exact⟨t0,NL,he0⟩
            · exact k.sound j (.inl h2)
          · rcases hin j h1 with h2|⟨hk,h2⟩
            · exact k.sound j (.inr (hsub j h2))
            · exact⟨t0,NL,he0.snoc hx hk h2⟩
        · rcases hget j a with rfl|a
          · rw[hx] at b;cases b;refine .inr ?_;rw[if_pos c] at hnew;subst hnew;exact List.mem_append_right _ e
          · rcases k.cl j y a b c d e with h1|h1
            · exact .inl (hset d h1)
            · rcases hmem d h1 with h2|rfl
              · exact .inr (hold d h2)
              · exact .inl hself
        · rcases k.all t ht with h1|h1
          · exact .inl (hset t h1)
          · rcases hmem t h1 with h2|rfl
            · exact .inr (hold t h2)
            · exact .inl hself
theorem qu {ss:List aZ}(hg:Good ss) (ht:∀j∈todo,j<ss.length) (j:Nat):j∈closed ss todo↔∃x,ss[j]? =some x/\x.kind≠0/\∃t∈todo,Km ss t j:=by
  unfold closed;split
  · rename_i h;have:todo=[]:=List.length_eq_zero_iff.1 h;subst this;simp
  · have h0:∀i:Nat,(List.replicate ss.length false)[i]? ≠some true:=fun i hi=>by rw[List.getElem?_replicate] at hi;split at hi<;>cases hi
    have hi0:Kn ss todo todo (List.replicate ss.length false):=⟨by simp,ht,fun i hi=>hi.elim (fun hi=>absurd hi (h0 i)) fun hi=>⟨i,hi,.refl i⟩,fun i x hi=>absurd hi (h0 i),fun t h=>.inr h⟩
    have hi:=sB hg (todo.length+tn ss (List.replicate ss.length false)) todo _ (Nat.le_refl _) hi0;generalize jg ss (todo.length+tn ss (List.replicate ss.length false)) todo (List.replicate ss.length false)=out at hi;simp only[List.mem_filter,List.mem_range,Bool.and_eq_true,bne_iff_ne,ne_eq];constructor
    · rintro⟨hj,h1,h2⟩;obtain⟨x,hx⟩:∃x,ss[j]? =some x:=⟨_,List.getElem?_eq_getElem hj⟩
      rw[hx] at h2;have h1:out[j]? =some true:=by simpa using h1
      exact⟨x,hx,by simpa using h2,hi.sound j (.inl h1)⟩
    · rintro⟨x,hx,hk,t,ht',he⟩
      have key:∀a b,Km ss a b->out[a]? =some true->out[b]? =some true:=by
        intro a b he
        induction he with
        |refl=>exact id
        |step hy hk hm _ ih =>
          intro ha;refine ih ?_
          rcases hi.cl _ _ ha hy hk _ hm with h1|h1
          · exact h1
          · cases h1
      have h1:=key _ _ he (by
        rcases hi.all t ht' with h1|h1
        · exact h1
        · cases h1)
      refine⟨(List.getElem?_eq_some_iff.1 hx).1,by rw[h1];rfl,by rw[hx];simpa using hk⟩
theorem Acc.through {ss:List aZ}{j:Nat}(h:Km ss i j) (k:Acc ss fin n j w):∃m,Acc ss fin m i w:=by
  induction h with
  |refl=>exact⟨n,k⟩
  |step a b c _ ih=>obtain⟨m,hm⟩:=ih k;exact⟨m+1,.eps a b c hm⟩
theorem Acc.stop {ss:List aZ}(hf:l9 ss fin) (k:Acc ss fin n i w):∃j x,Km ss i j/\ss[j]? =some x/\x.kind≠0/\∃m,Acc ss fin m j w:=by
  induction k with
  |done hq=>obtain⟨x,hx,hk⟩:=hf _ hq;exact⟨_,x,.refl _,hx,by omega,_,.done hq⟩
  |eps a b c _ ih=>obtain⟨j,x,he,hr⟩:=ih;exact⟨j,x,.step a b c he,hr⟩
  |eat a b c d e _=>exact⟨_,_,.refl _,a,by omega,_,.eat a b c d e⟩
def yE (ss:List aZ) (fin:Nat->Prop) (T:List Nat) (w:By):Prop:=∃j∈T,∃n,Acc ss fin n j w
theorem wY {ss:List aZ}(hf:l9 ss fin) (hg:Good ss) (ht:∀j∈todo,j<ss.length) (w:By):yE ss fin (closed ss todo) w↔yE ss fin todo w:=by
  constructor
  · rintro⟨j,hj,n,h⟩;obtain⟨x,hx,hk,t,ht',he⟩:=(qu hg ht j).1 hj;exact⟨t,ht',h.through he⟩
  · rintro⟨t,ht',n,h⟩;obtain⟨j,x,he,hx,hk,hm⟩:=h.stop hf;exact⟨j,(qu hg ht j).2 ⟨x,hx,hk,t,ht',he⟩,hm⟩
theorem oJ (ss:List aZ) (c:UInt8) (k:Nat):∀(l a:List Nat),k∈stepG ss c l a↔k∈a\/∃j∈l,∃x,ss[j]? =some x/\jI x c=true/\k∈x.to
  | [],a=>by simp[stepG]
  |j::r,a=>by
    rw[stepG,oJ ss c k r];cases hx:ss[j]? with
    |none=>simp[hx]
    |some x =>
      simp only;cases ho:jI x c with
      |true=>simp[hx,ho,or_assoc]
      |false=>simp[hx,ho]
def Flat (ss:List aZ) (T:List Nat):Prop:=∀j∈T,∃x,ss[j]? =some x/\x.kind≠0
theorem om {ss:List aZ}(hg:Good ss) (ht:∀j∈todo,j<ss.length):Flat ss (closed ss todo):=fun j hj=>by
  obtain⟨x,hx,hk,_⟩:=(qu hg ht j).1 hj;exact⟨x,hx,hk⟩
theorem BX {ss:List aZ}(hg:Good ss) (c:UInt8) (T:List Nat):∀j∈stepG ss c T [],j<ss.length:=fun j hj=>by
  rcases (oJ ss c j T []).1 hj with h|⟨i,_,x,hx,_,hm⟩
  · cases h
  · exact hg x (List.mem_of_getElem? hx) j hm
theorem uU {ss:List aZ}(hg:Good ss) (c:UInt8) (T:List Nat):Flat ss (bV ss c T):=by
  unfold bV;split
  · intro j hj;cases hj
  · exact om hg (BX hg c T)
theorem Gj {ss:List aZ}(hf:l9 ss fin) (hg:Good ss){T:List Nat}(hT:Flat ss T) (c:UInt8) (w:By):yE ss fin (bV ss c T) w↔yE ss fin T (c::w):=by
  unfold bV;split
  · rename_i h0;constructor
    · rintro⟨j,hj,_⟩;cases hj
    · rintro⟨j,hj,_⟩;obtain⟨x,hx,_⟩:=hT j hj;have:=(List.getElem?_eq_some_iff.1 hx).1;omega
  · rw[wY hf hg (BX hg c T)];constructor
    · rintro⟨k,hk,n,h⟩
      rcases (oJ ss c k T []).1 hk with h1|⟨j,hj,x,hx,ho,hm⟩
      · cases h1
      · simp only[jI,Bool.and_eq_true,decide_eq_true_eq] at ho;exact⟨j,hj,n+1,.eat hx ho.1 ho.2 hm h⟩
    · rintro⟨j,hj,n,h⟩;obtain⟨x,hx,hk⟩:=hT j hj;cases h with
      |eps hy hk0 _ _=>rw[hx] at hy;cases hy;exact absurd hk0 hk
      |eat hy hk1 hc hm h=>exact⟨_,(oJ ss c _ T []).2 (.inr ⟨j,hj,_,hy,by simp[jI,hk1,hc],hm⟩),_,h⟩
def nw (ss:List aZ) (r:Nat) (q:Nat):Prop:=∃x,ss[q]? =some x/\x.kind=2/\x.rule=r
theorem uC (ss:List aZ) (r:Nat):l9 ss (nw ss r):=fun _ ⟨x,hx,hk,_⟩=>⟨x,hx,hk⟩
theorem Kf {ss:List aZ}{r:Nat}{T:List Nat}(hT:Flat ss T):yE ss (nw ss r) T []↔∃j∈T,nw ss r j:=by
  constructor
  · rintro⟨j,hj,n,h⟩;obtain⟨x,hx,hk⟩:=hT j hj;cases h with
    |done hq=>exact⟨j,hj,hq⟩
    |eps hy hk0 _ _=>rw[hx] at hy;cases hy;exact absurd hk0 hk
  · rintro⟨j,hj,hq⟩;exact⟨j,hj,0,.done hq⟩
def oD (p:Nat->Prop) (r:Int):Prop:=(r= -1/\∀i,¬p i)\/∃n:Nat,r=n/\p n/\∀i,p i->n<=i
theorem xH (ss:List aZ):∀(l:List Nat) (b:Int) (p:Nat->Prop),oD p b->oD (fun r=>p r\/∃j∈l,nw ss r j) (rL ss l b)
  | [],b,p,h=>by
    rw[rL]
    rcases h with ⟨rfl,h1⟩|⟨n,rfl,h1,h2⟩
    · exact .inl ⟨rfl,fun i h=>by rcases h with h|⟨_,h,_⟩;exact h1 i h;cases h⟩
    · exact .inr ⟨n,rfl,.inl h1,fun i h=>by rcases h with h|⟨_,h,_⟩;exact h2 i h;cases h⟩
  |j::l,b,p,h=>by
    rw[rL]
    have key:∀b',oD (fun r=>p r\/nw ss r j) b'->oD (fun r=>p r\/∃k∈j::l,nw ss r k) (rL ss l b'):=fun b' hb'=>by
      have:=xH ss l b' _ hb'
      have e:(fun r=>(p r\/nw ss r j)\/∃k∈l,nw ss r k)=(fun r=>p r\/∃k∈j::l,nw ss r k):=by
        funext r;simp[or_assoc]
      rwa [e] at this
    have no:(∀r,¬nw ss r j)->oD (fun r=>p r\/nw ss r j) b:=fun hno=>by
      have e:(fun r=>p r\/nw ss r j)=p:=by funext r;simp[hno r]
      rw[e];exact h
    cases hx:ss[j]? with
    |none=>exact key b (no fun r ⟨x,hx',_⟩=>by rw[hx] at hx';cases hx')
    |some x =>
      simp only
      by_cases hk:x.kind=2
      · have hfin:∀r,nw ss r j↔x.rule=r:=fun r=>⟨fun⟨y,hy,_,hr⟩=>by rw[hx] at hy;cases hy;exact hr,fun hr=>⟨x,hx,hk,hr⟩⟩
        by_cases hb:rK x b=true
        · rw[if_pos hb];refine key _ (.inr ⟨x.rule,rfl,.inr ((hfin _).2 rfl),fun i hi=>?_⟩);simp only[rK,decide_eq_true_eq] at hb
          rcases hi with hi|hi
          · rcases h with ⟨rfl,h1⟩|⟨n,rfl,h1,h2⟩
            · exact absurd hi (h1 i)
            · have:=h2 i hi;omega
          · rw[(hfin i).1 hi];exact Nat.le_refl _
        · rw[if_neg hb];refine key _ ?_;simp only[rK,decide_eq_true_eq] at hb
          rcases h with ⟨rfl,h1⟩|⟨n,rfl,h1,h2⟩
          · exact absurd ⟨hk,.inl (by decide)⟩ hb
          · refine .inr ⟨n,rfl,.inl h1,fun i hi=>?_⟩
            rcases hi with hi|hi
            · exact h2 i hi
            · have:=(hfin i).1 hi;omega
      · rw[if_neg (by simp[rK,hk])];exact key b (no fun r ⟨y,hy,hk2,_⟩=>by rw[hx] at hy;cases hy;exact hk hk2)
def lf (ss:List aZ) (st:Nat) (w:By):List Nat:=w.foldl (fun T c=>bV ss c T) (bR ss st)
theorem Gr {ss:List aZ}(hg:Good ss) (hst:st<ss.length) (w:By):Flat ss (lf ss st w):=by
  have h0:Flat ss (bR ss st):=by
    unfold bR;split
    · intro j hj;cases hj
    · exact om hg (fun j hj=>by simp at hj;omega)
  unfold lf;generalize bR ss st=T at h0
  induction w generalizing T with
  |nil=>exact h0
  |cons c w ih=>exact ih _ (uU hg c T)
theorem Iu {ss:List aZ}(hf:l9 ss fin) (hg:Good ss) (hst:st<ss.length) (w v:By):yE ss fin (lf ss st w) v↔∃n,Acc ss fin n st (w++v):=by
  have h0:Flat ss (bR ss st)/\∀v,yE ss fin (bR ss st) v↔∃n,Acc ss fin n st v:=by
    unfold bR;rw[if_neg (by omega)];have ht:∀j∈[st],j<ss.length:=fun j hj=>by simp at hj;omega
    refine⟨om hg ht,fun v=>?_⟩;rw[wY hf hg ht];simp[yE]
  unfold lf
  have key:∀(w:By) (T:List Nat),Flat ss T->(yE ss fin (w.foldl (fun T c=>bV ss c T) T) v↔yE ss fin T (w++v)):=by
    intro w
    induction w with
    |nil=>intro T _;rfl
    |cons c w ih =>
      intro T hT;rw[List.foldl_cons,ih _ (uU hg c T),Gj hf hg hT];rfl
  rw[key w _ h0.1,h0.2]
theorem yA {ss:List aZ}(hg:Good ss) (hst:st<ss.length) (w:By):oD (fun r=>∃n,Acc ss (nw ss r) n st w) (aL ss (lf ss st w)):=by
  unfold aL;rw[if_neg (by omega)];have h:=xH ss (lf ss st w) (-1) (fun _=>False) (.inl ⟨rfl,fun _ h=>h⟩)
  have e:(fun r=>False\/∃j∈lf ss st w,nw ss r j)=(fun r=>∃n,Acc ss (nw ss r) n st w):=by
    funext r
    have:=Iu (uC ss r) hg hst w [];rw[Kf (Gr hg hst w),List.append_nil] at this;simpa using this
  rw[e] at h;exact h
def fh (ss:List aZ):Nat:=(ss.map fun x=>x.to.length+1).sum
theorem gE (a b:List aZ):fh (a++b)=fh a+fh b:=by simp[fh]
theorem BR:∀(ss:List aZ) (i:Nat) (y x:aZ),ss[i]? =some y->fh (ss.set i x)+y.to.length=fh ss+x.to.length
  | [],i,y,x,h=>by simp at h
  |z::r,0,y,x,h=>by simp at h;subst h;simp[fh];omega
  |z::r,i+1,y,x,h=>by have:=BR r i y x (by simpa using h);simp[fh] at *;omega
theorem IB:∀(ss:List aZ) (seen:List Bool),tn ss seen<=fh ss
  | [],_=>by simp[tn]
  |x::r,[]=>by simp[tn]
  |x::r,b::s=>by
    have:=IB r s;simp only[tn,fh,List.map_cons,List.sum_cons] at *;split<;>omega
end
mutual
theorem uB:∀(x:Nd) (ss:List aZ) (to:Nat),fh (lay x ss to).1+1<=fh ss+4*oX x
  |.mk k s kids,ss,to=>by
    rw[lay];simp only[oX];split
    · rw[gE];simp[fh];omega
    · split
      · have:=vZ kids ss to;omega
      · split
        · have:=wg kids ss to;have hl:=nS kids ss to;simp only[gE];simp[fh] at *;omega
        · split
          · have:=vY kids ss to;simp only[gE];simp[fh] at *;omega
          · split
            · have:=vY kids (ss++[⟨0,0,[],0⟩]) ss.length;have h2:=BR (bS kids (ss++[⟨0,0,[],0⟩]) ss.length).1 ss.length ⟨0,0,[],0⟩ ⟨0,0,[(bS kids (ss++[⟨0,0,[],0⟩]) ss.length).2,to],0⟩ (by rw[qf kids _ _ _ (by simp)];simp);rw[gE] at this;simp[fh] at *;omega
            · simp;omega
theorem vZ:∀(l:List Nd) (ss:List aZ) (to:Nat),fh (bh l ss to).1<=fh ss+4*gJ l
  | [],ss,to=>by simp[bh]
  |x::r,ss,to=>by
    rw[bh];have h1:=vZ r ss to;have h2:=uB x (bh r ss to).1 (bh r ss to).2;simp only[gJ];omega
theorem wg:∀(l:List Nd) (ss:List aZ) (to:Nat),fh (aO l ss to).1+l.length<=fh ss+4*gJ l
  | [],ss,to=>by simp[aO]
  |x::r,ss,to=>by
    rw[aO];have h1:=uB x ss to;have h2:=wg r (lay x ss to).1 to;simp only[gJ,List.length_cons];omega
theorem vY:∀(l:List Nd) (ss:List aZ) (to:Nat),fh (bS l ss to).1<=fh ss+4*gJ l
  | [],ss,to=>by simp[bS]
  |x::r,ss,to=>by
    rw[bS];have h1:=uB x ss to;simp only[gJ];omega
end
section
variable {fin:Nat->Prop}{n to i st:Nat}{w:By}{todo:List Nat}
theorem Good.append {a b:List aZ}(ha:Good a) (hb:∀x∈b,∀j∈x.to,j<(a++b).length):Good (a++b):=fun x hx j hj=>by
  rcases List.mem_append.1 hx with h|h
  · have:=ha x h j hj;simp;omega
  · exact hb x h j hj
theorem Good.set {a:List aZ}(ha:Good a){i:Nat}{y:aZ}(hy:∀j∈y.to,j<a.length):Good (a.set i y):=fun x hx j hj=>by
  rw[List.length_set]
  rcases List.mem_or_eq_of_mem_set hx with h|rfl
  · exact ha x h j hj
  · exact hy j hj
end
mutual
theorem qY:∀(x:Nd) (ss:List aZ) (to:Nat),Good ss->to<ss.length->Good (lay x ss to).1/\(lay x ss to).2<(lay x ss to).1.length
  |.mk k s kids,ss,to,hg,ht=>by
    rw[lay];split
    · exact⟨hg.append (by intro x hx j hj;simp at hx;subst hx;simp at hj;subst hj;simp;omega),by simp⟩
    · split
      · exact tC kids ss to hg ht
      · split
        · have h:=tF kids ss to hg ht;exact⟨h.1.append (by intro x hx j hj;simp at hx;subst hx;have:=h.2 j hj;simp;omega),by simp⟩
        · split
          · have h:=tB kids ss to hg ht;have hl:=gy kids ss to;exact⟨h.1.append (by intro x hx j hj;simp at hx;subst hx;simp at hj;simp;rcases hj with rfl|rfl<;>omega),by simp⟩
          · split
            · have h:=tB kids (ss++[⟨0,0,[],0⟩]) ss.length (hg.append (by intro x hx j hj;simp at hx;subst hx;cases hj)) (by simp);have hl:=gy kids (ss++[⟨0,0,[],0⟩]) ss.length;simp only[List.length_append,List.length_singleton] at hl;refine⟨h.1.set (by intro j hj;simp at hj;rcases hj with rfl|rfl;exact h.2;omega),?_⟩;simp only[List.length_set];split
              · exact h.2
              · omega
            · exact⟨hg,ht⟩
theorem tC:∀(l:List Nd) (ss:List aZ) (to:Nat),Good ss->to<ss.length->Good (bh l ss to).1/\(bh l ss to).2<(bh l ss to).1.length
  | [],ss,to,hg,ht=>by rw[bh];exact⟨hg,ht⟩
  |x::r,ss,to,hg,ht=>by
    rw[bh];have h1:=tC r ss to hg ht;exact qY x _ _ h1.1 h1.2
theorem tF:∀(l:List Nd) (ss:List aZ) (to:Nat),Good ss->to<ss.length->Good (aO l ss to).1/\∀j∈(aO l ss to).2,j<(aO l ss to).1.length
  | [],ss,to,hg,ht=>by rw[aO];exact⟨hg,fun j hj=>by cases hj⟩
  |x::r,ss,to,hg,ht=>by
    rw[aO];have h1:=qY x ss to hg ht;have hl:=fZ x ss to;have h2:=tF r (lay x ss to).1 to h1.1 (by omega);have hl2:=fy r (lay x ss to).1 to;refine⟨h2.1,fun j hj=>?_⟩
    rcases List.mem_cons.1 hj with rfl|hj
    · simp only;omega
    · exact h2.2 j hj
theorem tB:∀(l:List Nd) (ss:List aZ) (to:Nat),Good ss->to<ss.length->Good (bS l ss to).1/\(bS l ss to).2<(bS l ss to).1.length
  | [],ss,to,hg,ht=>by rw[bS];exact⟨hg,ht⟩
  |x::r,ss,to,hg,ht=>by rw[bS];exact qY x ss to hg ht
end
section
variable {fin:Nat->Prop}{n to i st:Nat}{w:By}{todo:List Nat}
structure PD (i:Nat) (rules:List By) (ss:List aZ) (t:List Nat) (ss':List aZ) (t':List Nat):Prop where
  pre:∀j,j<ss.length->ss'[j]? =ss[j]?
  len:ss.length<=ss'.length/\ss'.length<=ss.length+402*rules.length
  tot:fh ss'<=fh ss+1605*rules.length
  good:Good ss->(∀j∈t,j<ss.length)->Good ss'/\∀j∈t',j<ss'.length
  starts:∃t2,t'=t++t2/\t2.length=rules.length/\∀k s,rules[k]? =some s->(bC s).2=0/\∃a b,t2[k]? =some b/\ss.length<=a/\ss'[a]? =some ⟨2,0,[],i+k⟩/\∀F fin,Hv F ss' ss.length->l9 F fin->Splits F fin b a (Ks (bC s).1)
theorem vP:∀(rules:List By) (i:Nat) (ss:List aZ) (t:List Nat) (ss':List aZ) (t':List Nat),lT i rules ss t= .inr (ss',t')->PD i rules ss t ss' t'
  | [],i,ss,t,ss',t',h=>by
    rw[lT] at h;cases h;exact⟨fun _ _=>rfl,by simp,by simp,fun a b=>⟨a,b⟩,[],by simp,rfl,fun k s h=>by simp at h⟩
  |s::r,i,ss,t,ss',t',h=>by
    rw[lT] at h;split at h
    · cases h
    · rename_i he;have he:(bC s).2=0:=by simpa using he
      have hsm:=qP he;have ih:=vP r _ _ _ _ _ h;have hpre:=mQ (bC s).1 (ss++[⟨2,0,[],i⟩]) ss.length;have hlen:=fZ (bC s).1 (ss++[⟨2,0,[],i⟩]) ss.length;have htot:=uB (bC s).1 (ss++[⟨2,0,[],i⟩]) ss.length;simp only[List.length_append,List.length_singleton,gE] at hpre hlen htot;have hL:fh [(⟨2,0,[],i⟩:aZ)]=1:=by simp[fh]
      generalize hly:lay (bC s).1 (ss++[⟨2,0,[],i⟩]) ss.length=ly at *;obtain⟨t2,ht2,htl,hst⟩:=ih.starts;refine⟨fun j hj=>?_,⟨?_,?_⟩,?_,fun hg ht=>?_,ly.2::t2,by simp[ht2],by simp[htl],fun k s' hk=>?_⟩
      · rw[ih.pre j (by omega),hpre j (by omega),List.getElem?_append_left hj]
      · have:=ih.len.1;omega
      · have:=ih.len.2;simp only[List.length_cons];omega
      · have:=ih.tot;simp only[List.length_cons];omega
      · have hgl:=qY (bC s).1 (ss++[⟨2,0,[],i⟩]) ss.length (hg.append (by intro x hx j hj;simp at hx;subst hx;cases hj)) (by simp);rw[hly] at hgl
        exact ih.good hgl.1 (fun j hj=>by
          rcases List.mem_append.1 hj with h1|h1
          · have:=ht j h1;omega
          · have:j=ly.2:=by simpa using h1
            rw[this];exact hgl.2)
      · cases k with
        |zero =>
          simp at hk;subst hk;refine⟨he,ss.length,ly.2,rfl,Nat.le_refl _,?_,fun F fin hS hF=>?_⟩
          · rw[ih.pre _ (by omega),hpre _ (by omega)];simp
          · have:=mP hF (bC s).1 (ss++[⟨2,0,[],i⟩]) ss.length (fun j h1 h2=>by
              rw[hly] at h2 ⊢;simp only[List.length_append,List.length_singleton] at h1;rw[hS j (by omega) (by have:=ih.len.1;omega)];exact ih.pre j h2)
            rwa [hly] at this
        |succ k =>
          obtain⟨h0,a,b,hb,hla,ha,hsp⟩:=hst k s' (by simpa using hk);exact⟨h0,a,b,by simpa using hb,by omega,by rw[ha];simp;omega,fun F fin hS hF=>hsp F fin (fun j h1 h2=>hS j (by omega) h2) hF⟩
structure Made (rules:List By) (ss:List aZ) (st:Nat):Prop where
  good:Good ss
  stl:st<ss.length
  len:ss.length<=30000
  tot:fh ss<=110000
  num:rules.length<=64
  lng:∀r w,(∃n,Acc ss (nw ss r) n st w)↔∃s,rules[r]? =some s/\Ks (bC s).1 w
theorem gw {rules:List By}{ss:List aZ}(h:eX rules= .inr (ss,st)):Made rules ss st:=by
  unfold eX at h;split at h
  · cases h
  · rename_i hn;split at h
    · cases h
    · rename_i ss0 t hm;split at h
      · cases h
      · cases h;have k:=vP _ _ _ _ _ _ hm;obtain⟨t2,ht2,htl,hst⟩:=k.starts;have ht:t=t2:=by simpa using ht2
        subst ht;have hl:=k.len.2;have htot:=k.tot;have hgd:=k.good (by intro x hx;cases hx) (by intro j hj;cases hj);simp only[List.length_nil] at hl;have h0:fh ([]:List aZ)=0:=rfl;have hF:(ss0++[⟨0,0,t,0⟩])[ss0.length]? =some ⟨0,0,t,0⟩:=by simp
        have hS:Hv (ss0++[⟨0,0,t,0⟩]) ss0 ([]:List aZ).length:=fun i _ h2=>List.getElem?_append_left h2
        refine⟨hgd.1.append (by intro x hx j hj;simp at hx;subst hx;have:=hgd.2 j hj;simp;omega),by simp,by simp;omega,?_,by omega,fun r w=>?_⟩
        · have hq:fh [(⟨0,0,t,0⟩:aZ)]=t.length+1:=by simp[fh]
          rw[gE,hq];omega
        · constructor
          · rintro⟨n,hw⟩;obtain⟨m,q',_,hq,hw'⟩:=hw.fork (uC _ r) hF rfl;obtain⟨k',hk'⟩:=List.getElem?_of_mem hq;have hkl:k'<t.length:=(List.getElem?_eq_some_iff.1 hk').1;obtain⟨s,hs⟩:∃s,rules[k']? =some s:=⟨_,List.getElem?_eq_getElem (by omega)⟩
            obtain⟨_,a,b,hb,_,ha,hsp⟩:=hst k' s hs;rw[hk'] at hb;cases hb;obtain⟨u,v,m',rfl,hu,_,hv⟩:=(hsp _ _ hS (uC _ r)).1 _ _ hw';have ha':(ss0++[(⟨0,0,t,0⟩:aZ)])[a]? =some ⟨2,0,[],0+k'⟩:=by rw[hS a (Nat.zero_le _) (List.getElem?_eq_some_iff.1 ha).1,ha]
            cases hv with
            |done hfin =>
              obtain⟨x,hx,_,hr⟩:=hfin;rw[ha'] at hx;cases hx;simp only[Nat.zero_add] at hr;subst hr;exact⟨s,hs,by rw[List.append_nil];exact hu⟩
            |eps hx hk _ _=>rw[ha'] at hx;cases hx;cases hk
            |eat hx hk _ _ _=>rw[ha'] at hx;cases hx;cases hk
          · rintro⟨s,hs,hw⟩;obtain⟨_,a,b,hb,_,ha,hsp⟩:=hst r s hs;have ha':(ss0++[(⟨0,0,t,0⟩:aZ)])[a]? =some ⟨2,0,[],0+r⟩:=by rw[hS a (Nat.zero_le _) (List.getElem?_eq_some_iff.1 ha).1,ha]
            obtain⟨n,hn⟩:=(hsp _ _ hS (uC _ r)).2 w [] 0 hw (.done ⟨_,ha',rfl,by simp⟩);rw[List.append_nil] at hn;exact⟨n+1,.eps (q':=b) hF rfl (show b∈t from List.mem_of_getElem? hb) hn⟩
theorem Ak {f:Nat->Nat}:∀{a b:List Nat},a.Sublist b->(a.map f).sum<=(b.map f).sum
  |_,_,.slnil=>by simp
  |_,_,.cons _ h=>by have:=Ak (f:=f) h;simp;omega
  |_,_,.cons_cons _ h=>by have:=Ak (f:=f) h;simp;omega
theorem FA:∀ss:List aZ,(ss.map fun x=>x.to.length).sum<=fh ss
  | []=>by simp[fh]
  |x::r=>by have:=FA r;simp[fh] at *;omega
theorem Gy (ss:List aZ):((List.range ss.length).map fun i=>match ss[i]? with|some x=>x.to.length|none=>0).sum<=fh ss:=by
  have:((List.range ss.length).map fun i=>match ss[i]? with|some x=>x.to.length|none=>0)=ss.map fun x=>x.to.length:=by
    apply List.ext_getElem
    · simp
    · intro i h1 h2;simp at h2;simp[h2]
  rw[this];exact FA ss
theorem yP (ss:List aZ) (c:UInt8):∀(l a:List Nat),(stepG ss c l a).length<=a.length+(l.map fun i=>match ss[i]? with|some x=>x.to.length|none=>0).sum
  | [],a=>by simp[stepG]
  |j::r,a=>by
    rw[stepG];refine Nat.le_trans (yP ss c r _) ?_;simp only[List.map_cons,List.sum_cons];cases ss[j]? with
    |none=>simp
    |some x=>simp only;split<;>simp<;>omega
theorem Gk {ss:List aZ}(c:UInt8){now:List Nat}(h:now.Sublist (List.range ss.length)):(stepG ss c now []).length<=fh ss:=by
  have h1:=yP ss c now [];have h2:=Ak (f:=fun i=>match ss[i]? with|some x=>x.to.length|none=>0) h;have h3:=Gy ss;simp only[List.length_nil] at h1;omega
def IsMatch (P:Nat->Nat->Prop) (n:Nat) (o:Int×Int):Prop :=
  (o=(0,-1)/\∀k r,k<=n->¬P k r)\/∃k r:Nat,o=((k:Int),(r:Int))/\k<=n/\P k r/\(∀k' r',k'<=n->P k' r'->k'<=k)/\∀r',P k r'->r<=r'
def ow (ac:Nat->Int):Nat->Nat->Int×Int->Int×Int
  | 0,k,b=>if 0<=ac k then ((k:Int),ac k) else b
  |n+1,k,b=>ow ac n (k+1) (if 0<=ac k then ((k:Int),ac k) else b)
def qA (P:Nat->Nat->Prop) (m:Nat) (o:Int×Int):Prop :=
  (o=(0,-1)/\∀k r,k<m->¬P k r)\/∃k r:Nat,o=((k:Int),(r:Int))/\k<m/\P k r/\(∀k' r',k'<m->P k' r'->k'<=k)/\∀r',P k r'->r<=r'
theorem qA.next {P:Nat->Nat->Prop}{m:Nat}{o:Int×Int}{a:Int}(h:qA P m o) (ha:oD (P m) a):qA P (m+1) (if 0<=a then ((m:Int),a) else o):=by
  rcases ha with ⟨rfl,h1⟩|⟨r,rfl,h1,h2⟩
  · rw[if_neg (by decide)]
    rcases h with ⟨rfl,h3⟩|⟨k,r,rfl,hk,hp,h3,h4⟩
    · exact .inl ⟨rfl,fun k r hk hp=>by
        by_cases e:k=m
        · subst e;exact h1 _ hp
        · exact h3 k r (by omega) hp⟩
    · exact .inr ⟨k,r,rfl,by omega,hp,fun k' r' hk' hp'=>by
        by_cases e:k'=m
        · subst e;exact absurd hp' (h1 _)
        · exact h3 k' r' (by omega) hp',h4⟩
  · rw[if_pos (by omega)];exact .inr ⟨m,r,rfl,by omega,h1,fun k' r' hk' _=>by omega,h2⟩
theorem xm {P:Nat->Nat->Prop}{ac:Nat->Int}:∀(n k:Nat) (b:Int×Int),qA P k b->(∀j,k<=j->j<=k+n->oD (P j) (ac j))->qA P (k+n+1) (ow ac n k b)
  | 0,k,b,h,ha=>by rw[ow];exact h.next (ha k (Nat.le_refl _) (by omega))
  |n+1,k,b,h,ha=>by
    rw[ow];have:=xm n (k+1) _ (h.next (ha k (Nat.le_refl _) (by omega))) (fun j h1 h2=>ha j (by omega) (by omega))
    rwa [show k+(n+1)+1=k+1+n+1 by omega]
theorem qA.match {P:Nat->Nat->Prop}{o:Int×Int}(h:qA P (n+1) o):IsMatch P n o:=by
  rcases h with ⟨rfl,h1⟩|⟨k,r,rfl,hk,hp,h1,h2⟩
  · exact .inl ⟨rfl,fun k r hk=>h1 k r (by omega)⟩
  · exact .inr ⟨k,r,rfl,by omega,hp,fun k' r' hk'=>h1 k' r' (by omega),h2⟩
theorem yO (ss:List aZ) (c:UInt8):bV ss c []=[]:=by simp[bV,stepG,closed]
theorem tg (ss:List aZ) (st:Nat) (a b:By):lf ss st (a++b)=b.foldl (fun T c=>bV ss c T) (lf ss st a):=by simp[lf,List.foldl_append]
theorem Fm (ss:List aZ):∀w:By,w.foldl (fun T c=>bV ss c T) ([]:List Nat)=[]
  | []=>rfl
  |c::w=>by rw[List.foldl_cons,yO,Fm ss w]
theorem xl {ac:Nat->Int}:∀(n k:Nat) (b:Int×Int),(∀j,k<=j->j<=k+n->ac j<0)->ow ac n k b=b
  | 0,k,b,h=>by rw[ow,if_neg (by have:=h k (Nat.le_refl _) (by omega);omega)]
  |n+1,k,b,h=>by
    rw[ow,if_neg (by have:=h k (Nat.le_refl _) (by omega);omega)];exact xl n (k+1) b (fun j h1 h2=>h j (by omega) (by omega))
theorem Cy {ss:List aZ}:∀(l a:By) (b:Int×Int),gv ss l (lf ss st a) a.length b=ow (fun k=>aL ss (lf ss st ((a++l).take k))) l.length a.length b:=by
  have none_:∀(l a:By) (b:Int×Int),lf ss st a=[]->gv ss l (lf ss st a) a.length b=ow (fun k=>aL ss (lf ss st ((a++l).take k))) l.length a.length b:=by
    intro l a b h;rw[qd (by rw[h];rfl),xl];intro j h1 h2;have:(a++l).take j=a++l.take (j-a.length):=by rw[List.take_append,List.take_of_length_le h1]
    rw[this,tg,h,Fm];unfold aL;split
    · decide
    · simp[rL]
  intro l
  induction l with
  |nil =>
    intro a b
    by_cases h:lf ss st a=[]
    · exact none_ [] a b h
    · rw[gv,if_neg (by simpa using h),List.length_nil,ow];simp
  |cons c r ih =>
    intro a b
    by_cases h:lf ss st a=[]
    · exact none_ (c::r) a b h
    · rw[gv,if_neg (by simpa using h)];simp only[List.length_cons,ow];have h1:=ih (a++[c]) (if 0<=aL ss (lf ss st a) then ((a.length:Int),aL ss (lf ss st a)) else b);rw[tg] at h1;simp only[List.foldl_cons,List.foldl_nil,List.length_append,List.length_singleton,List.append_assoc,List.singleton_append] at h1;rw[h1];have e:(a++c::r).take a.length=a:=by simp
      rw[e]
theorem Cx {rules:List By}{ss:List aZ}(k:Made rules ss st) (l:By):IsMatch (fun n r=>∃s,rules[r]? =some s/\Ks (bC s).1 (l.take n)) l.length (cY ss st l):=by
  have hst:=k.stl;unfold cY;rw[if_neg (by omega)];have h:=Cy (ss:=ss) (st:=st) l [] (0,-1);have e:lf ss st []=bR ss st:=rfl;rw[e] at h;simp only[List.length_nil,List.nil_append] at h;rw[h]
  have:=xm (P:=fun n r=>∃s,rules[r]? =some s/\Ks (bC s).1 (l.take n)) (ac:=fun k=>aL ss (lf ss st (l.take k))) l.length 0 (0,-1) (.inl ⟨rfl,fun k r hk=>by omega⟩) (fun j _ _=>by
    have h1:=yA k.good k.stl (l.take j)
    have e:(fun r=>∃n,Acc ss (nw ss r) n st (l.take j))=(fun r=>∃s,rules[r]? =some s/\Ks (bC s).1 (l.take j)):=by
      funext r;exact propext (k.lng r _)
    rw[e] at h1;exact h1)
  rw[Nat.zero_add] at this;exact this.match
end
end Go.Proofs.YtoickfdopobmgaaGreatDoor
namespace Go.Proofs.YtoickfdopobmgaaGreatDoor
open Go Go.Lw
set_option maxRecDepth 20000
def Nz (h:ai) (p:Value) (rules:List By):Prop:=∃(O:Nat->Prop) (nb:Nat) (v:Value) (ss:List aZ) (st:Nat),p= .pointer (some ⟨nb,0,none⟩)/\bO h O nb v ss st/\eX rules= .inr (ss,st)
def L5 (rules:List By):Int:=match eX rules with|.inl e=>e|.inr _=>0
def AL (rules:List By) (s:By) (a:Int):Int×Int:=match eX rules with|.inl _=>(0,-1)|.inr (ss,st)=>Ef ss st s a
theorem GP {h:ai}{lim:Nat}(hg:Sg h lim) (hlim:lim<=h.size){rv:Value}{rules:List By}(hr:aT oe h (fun _=>False) rv rules) (hrl:∀s∈rules,s.length<=1000000) :
    aq Tryz.prog 28 #[rv] h (bw fun r h'=>(∃p,r= .tuple #[p,.int .i64 (L5 rules)]/\((∃e,eX rules= .inl e/\p= .pointer none)\/Nz h' p rules))/\aj h h') :=
  (Eg hg hlim hr hrl).ret fun r h' k=>by
    obtain⟨k1,k2⟩:=k;refine⟨?_,k2⟩;unfold zT at k1;unfold L5;cases hm:eX rules with
    |inl e=>rw[hm] at k1;exact⟨_,k1,.inl ⟨e,rfl,rfl⟩⟩
    |inr q =>
      obtain⟨ss,st⟩:=q;rw[hm] at k1;obtain⟨nb,v,h1,_,h3⟩:=k1;exact⟨_,h1,.inr ⟨_,nb,v,ss,st,rfl,h3,hm⟩⟩
theorem CB {rules:List By}{ss:List aZ}{st:Nat}(k:Made rules ss st):ss.length<=1000000/\1+tn ss (List.replicate ss.length false)<=1000000/\∀c now,List.Sublist now (List.range ss.length)->(stepG ss c now []).length+tn ss (List.replicate ss.length false)<=1000000:=by
  have h1:=k.len;have h2:=k.tot;have h3:=IB ss (List.replicate ss.length false);refine⟨by omega,by omega,fun c now hs=>?_⟩;have:=Gk c hs;omega
end Go.Proofs.YtoickfdopobmgaaGreatDoor

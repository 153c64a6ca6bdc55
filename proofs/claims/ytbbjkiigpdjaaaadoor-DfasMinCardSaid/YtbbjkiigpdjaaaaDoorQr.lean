/- What the proof of the statement leans on (part 18). -/
import Derived.Lib.Split
import Derived.Test.YtbbjkiigpdjaaaaDoorQq

namespace Go.Proofs.YtbbjkiigpdjaaaaDoor
open Go Go.Lw
theorem jN {h:af}(s:ByteArray) (c:Int):an Tryd.prog 91 #[.string s,.int .u8 c] h (b8 fun r h'=>r= .int .i64 (Lib.indexByte s.data.toList c.toNat.toUInt8)/\h'=h) :=
  an.B4 fun w=>Tryd.strings_IndexByte s c w
theorem wrap_u8 {i:Int}(h:0<=i/\i<=255):IntKind.u8.wrap i=i:=by
  have h8:(2:Int) ^ 8=256:=rfl;simp only[IntKind.wrap,IntKind.bits,IntKind.signed,h8,Bool.false_and,Bool.false_eq_true,if_false];omega
end Go.Proofs.YtbbjkiigpdjaaaaDoor
namespace Go.Proofs.YtbbjkiigpdjaaaaDoor
open Go.Proofs.Tryd
open Go Go.Lw
set_option maxRecDepth 20000 set_option maxHeartbeats 4000000
section
variable {rb n m d lim:Nat}{h h':af}{c a:UInt8}{l r:By}{x:Nd}{M:Nat->Prop}
def qQ:Value:=.iface 109 (.agg #[])
def yw (c:List PanicEntry):Prop:=c=[{ v:=qQ,recovered:=false }]
def St (h:af) (rb:Nat) (l:By):Prop:=aB h rb 112 [.string (bs l)]
abbrev w7 (rb:Nat):Value:=.pointer (some ⟨rb,0,none⟩)
abbrev only (rb:Nat):Nat->Prop:=fun b=>b=rb
def PR {α:Type}(rb:Nat) (h:af) (p:Option (α×By)) (Φ:α->Value->af->Prop):Ending->af->Prop :=
 yp (fun v h'=>∃x r,p=some (x,r)/\Φ x v h'/\St h' rb r/\Ext (only rb) h h') (fun ch h'=>yw ch/\p=none/\Ext (only rb) h h')
theorem cF {α:Type}{p:Option (α×By)}{Φ:α->Value->af->Prop}{c:List PanicEntry}(hc:yw c) (hp:p=none) (hx:Ext (only rb) h h'):PR rb h p Φ (.panicked c) h':=⟨hc,hp,hx⟩
theorem Cm {Φ:Value->af->Prop}{X:List PanicEntry->af->Prop}{c:List PanicEntry}(k:X c h):yp Φ X (.panicked c) h:=k
theorem St.cell {h:af}{rb:Nat}{l:By}(k:St h rb l):cellAt h ⟨rb,0,none⟩=some (.string (bs l)):=aB.cell k (i:=0) rfl
theorem St.lt {h:af}{rb:Nat}{l:By}(k:St h rb l):rb<h.size:=aB.lt k
def Aq:By->Option (UInt8×By)| []=>none|c::r=>some (c,r)
theorem gJ (h:Aq l=none):l=[]:=by cases l with|nil=>rfl|cons c r=>cases h
theorem dX (h:Aq l=some (c,r)):l=c::r:=by cases l with|nil=>cases h|cons d t=>cases h;rfl
theorem qR (hs:St h rb l):an Tryd.prog 74 #[w7 rb] h (b8 fun r h'=>r= .int .u8 ((l.head?.getD 0).toNat:Nat)/\h'=h):=by
 refine cV ?_;refine aa ?_;refine xp rfl (aE rfl hs.cell) ?_;refine aa ?_;refine bF (fun he=>?_) (fun he=>?_)
 · have hl:l=[]:=mQ he;subst hl;refine aa ?_;refine bU ?_;exact⟨_,rfl,rfl,rfl⟩
 · obtain⟨c,r,rfl⟩:=List.exists_cons_of_ne_nil (fun(e:l=[])=>he (by rw[e];rfl));refine aa ?_;refine xp rfl (aE rfl hs.cell) ?_;refine xp rfl (Al rfl rfl 0 rfl (jS rfl)) ?_;refine aa ?_;refine bU ?_;exact⟨_,rfl,rfl,rfl⟩
theorem dW (hs:St h rb l) (hl:l.length<=1000000):an Tryd.prog 75 #[w7 rb] h (PR rb h (Aq l) fun c v _=>v= .int .u8 (c.toNat:Nat)):=by
 refine cV ?_;refine aa ?_;refine xp rfl (aE rfl hs.cell) ?_;refine aa ?_;refine bF (fun he=>?_) (fun he=>?_)
 · have hl:l=[]:=mQ he;subst hl;refine aa ?_;refine xp rfl (aq (H.fB ) rfl) ?_;refine aa ?_;refine bN rfl (cq (Φ:=fun _ _=>False) rfl (cF rfl rfl (Ext.refl _ _))) ?_;rintro _ _ hpn;exact hpn.elim
 · obtain⟨c,r,rfl⟩:=List.exists_cons_of_ne_nil (fun(e:l=[])=>he (by rw[e];rfl));have hz:(bs (c::r)).size=r.length+1:=by rw[dF];rfl
   have hd:=yU (c::r) 1;simp only[List.length_cons] at hl;refine aa ?_;refine xp rfl (aE rfl hs.cell) ?_;refine xp rfl (Al rfl rfl 0 rfl (jS rfl)) ?_;refine aa ?_;refine xp rfl (aE rfl hs.cell) ?_;refine xp rfl (av.qC underlying9 rfl rfl 1 rfl (by omega)) ?_;refine aa ?_;refine bN rfl (n8 rfl rfl hs) ?_;rintro _ h1 ⟨rfl,hk,hx,hz1⟩;refine aa ?_;refine bU ?_;exact⟨c,r,rfl,rfl,by rw[hd] at hk;exact hk,hx⟩
theorem jm (c:UInt8) (hs:St h rb l) (hl:l.length<=1000000):an Tryd.prog 63 #[w7 rb,.int .u8 (c.toNat:Nat)] h (b8 fun v h' =>
 ((l.head? =some c/\v= .bool true/\St h' rb l.tail)\/(l.head? ≠some c/\v= .bool false/\St h' rb l))/\Ext (only rb) h h'):=by
 refine cV ?_;refine bT ?_;refine cU ?_;refine aY ?_;refine eW ?_
 iterate 2 refine bT ?_
 refine jY [(18,.bool (decide (l.head? ≠some c)))] rfl ?_ ?_
 · refine aa ?_;refine xp rfl (aE rfl hs.cell) ?_;refine aa ?_;refine ie 10 (fun he=>?_) (fun he=>?_)
   · have hl:l=[]:=mQ (of_decide_eq_true he);refine aa ?_;exact bH rfl ⟨au rfl (by subst hl;simp),sb rfl⟩
   · obtain⟨d,r,rfl⟩:=List.exists_cons_of_ne_nil (fun(e:l=[])=>(of_decide_eq_false he) (by rw[e];rfl));refine aa ?_;refine xp rfl (aE rfl hs.cell) ?_;refine xp rfl (Al rfl rfl 0 rfl (jS rfl)) ?_;refine aa ?_;exact bH rfl ⟨au rfl (by simp only[List.head?_cons,Option.some.injEq,ne_eq];exact DU d c),sb rfl⟩
 · refine bF (fun hn=>?_) (fun hn=>?_)
   · refine aa ?_;refine bU ?_;exact⟨_,rfl,.inr ⟨hn,rfl,hs⟩,Ext.refl _ _⟩
   · have hn:=Classical.not_not.1 hn;obtain⟨d,r,rfl⟩:=List.exists_cons_of_ne_nil (fun(e:l=[])=>by rw[e] at hn;cases hn);have hz:(bs (d::r)).size=r.length+1:=by rw[dF];rfl
     have hd:=yU (d::r) 1;simp only[List.length_cons] at hl;refine aa ?_;refine xp rfl (aE rfl hs.cell) ?_;refine xp rfl (av.qC underlying9 rfl rfl 1 rfl (by omega)) ?_;refine aa ?_;refine bN rfl (n8 rfl rfl hs) ?_;rintro _ h1 ⟨rfl,hk,hx,hz1⟩;refine aa ?_;refine bU ?_;exact⟨_,rfl,.inl ⟨hn,rfl,by rw[hd] at hk;exact hk⟩,hx⟩
theorem qS (c:UInt8) (hs:St h rb l) (hl:l.length<=1000000):an Tryd.prog 80 #[w7 rb,.int .u8 (c.toNat:Nat)] h (PR rb h (if l.head? =some c then some ((),l.tail) else none) fun _ _ _=>True):=by
 refine cV ?_;refine aa ?_;refine xo rfl (bz rfl (jm c hs hl)) ?_;rintro _ h1 ⟨hor,hx⟩
 rcases hor with ⟨h1,rfl,h2⟩|⟨h1,rfl,h2⟩
 · refine aa ?_;refine oe rfl (by decide) ?_;refine aa ?_;refine DK ?_;exact⟨(),_,if_pos h1,trivial,h2,hx⟩
 · refine aa ?_;refine n6 rfl (by decide) ?_;refine aa ?_;refine xp rfl (aq (H.fB ) rfl) ?_;refine aa ?_;refine bN rfl (cq (Φ:=fun _ _=>False) rfl (cF rfl (if_neg h1) hx)) ?_;rintro _ _ hpn;exact hpn.elim
theorem jZ (x:UInt8):an Tryd.prog 91 #[.string ⟨#[40,41,91,93,124,42,43,63,46,92,45,94]⟩,.int .u8 (x.toNat:Nat)] h (b8 fun r h'=>r= .int .i64 (Lib.indexByte aR x)/\h'=h) :=
 (jN _ _).ret fun _ _ ⟨ho,he⟩=>⟨by rw[ho];simp[aR],he⟩
theorem iu:∀x:UInt8,(0<=Lib.indexByte aR x)↔x∈aR:=by
 have h:∀n:Fin 256,(0<=Lib.indexByte aR (UInt8.ofNat n.val))↔(UInt8.ofNat n.val)∈aR:=by decide +kernel
 intro x;have:=h ⟨x.toNat,x.toNat_lt⟩;simpa using this
def uQ:By:=[48,49,50,51,52,53,54,55,56,57,97,98,99,100,101,102]
theorem uP (x:UInt8):an Tryd.prog 91 #[.string ⟨#[48,49,50,51,52,53,54,55,56,57,97,98,99,100,101,102]⟩,.int .u8 (x.toNat:Nat)] h (b8 fun r h'=>r= .int .i64 (Lib.indexByte uQ x)/\h'=h) :=
 (jN _ _).ret fun _ _ ⟨ho,he⟩=>⟨by rw[ho];simp[uQ],he⟩
theorem Ca:∀n:Fin 256,IntKind.u8.wrap ((BitVec.ofInt IntKind.u8.bits (n.val:Int) |||BitVec.ofInt IntKind.u8.bits 32).toNat)=(((UInt8.ofNat n.val) ||| 32).toNat:Nat):=by decide +kernel
theorem low (x:UInt8):IntKind.u8.wrap ((BitVec.ofInt IntKind.u8.bits (x.toNat:Int) |||BitVec.ofInt IntKind.u8.bits 32).toNat)=((x ||| 32).toNat:Nat):=by
 have:=Ca ⟨x.toNat,x.toNat_lt⟩;simpa using this
theorem Ci:∀n:Fin 256,bX (UInt8.ofNat n.val)=if Lib.indexByte uQ ((UInt8.ofNat n.val) ||| 32)<0\/n.val<48 then none else some (Lib.indexByte uQ ((UInt8.ofNat n.val) ||| 32)).toNat:=by decide +kernel
theorem Gn (x:UInt8):bX x=if Lib.indexByte uQ (x ||| 32)<0\/x.toNat<48 then none else some (Lib.indexByte uQ (x ||| 32)).toNat:=by
 have:=Ci ⟨x.toNat,x.toNat_lt⟩;simpa using this
theorem iU {x:UInt8}(h:bX x=some n):n<16:=by
 unfold bX at h;split at h
 · cases h;omega
 · split at h
   · cases h;omega
   · split at h
     · cases h;omega
     · cases h
theorem pN (x:UInt8):an Tryd.prog 90 #[.int .u8 (x.toNat:Nat)] h (yp (fun v h'=>∃n:Nat,bX x=some n/\n<16/\v= .int .u8 n/\h'=h) (fun ch h'=>yw ch/\bX x=none/\h'=h)):=by
 have hd:=Gn x;refine cV ?_;refine bT ?_;refine cU ?_;refine aY ?_;refine eW ?_;refine bT ?_;refine cU ?_;refine aY ?_;refine xp rfl (av.uT rfl rfl) ?_;refine xo rfl (bz rfl ((low x▸uP (x ||| 32)))) ?_;rintro _ _ ⟨rfl,rfl⟩;refine aY ?_;refine eW ?_
 iterate 2 refine bT ?_
 refine jY [(12,.bool (decide (Lib.indexByte uQ (x ||| 32)<0\/x.toNat<48)))] rfl ?_ ?_
 · refine aa ?_;refine ie 9 (fun hg=>?_) (fun hg=>?_)
   · refine aa ?_;exact bH rfl ⟨au rfl (by have:=of_decide_eq_true hg;simp[this]),sb rfl⟩
   · refine aa ?_;exact bH rfl ⟨au rfl (by have:=of_decide_eq_false hg;simp only[decide_eq_decide];omega),sb rfl⟩
 · refine bF (fun hn=>?_) (fun hn=>?_)
   · rw[if_pos hn] at hd;refine aa ?_;refine xp rfl (aq (H.fB ) rfl) ?_;refine aa ?_;refine bN rfl (cq (Φ:=fun _ _=>False) rfl (Cm ⟨rfl,hd,rfl⟩)) ?_;rintro _ _ hpn;exact hpn.elim
   · rw[if_neg hn] at hd;have h16:=iU hd;refine aa ?_;refine bU ?_;refine⟨_,hd,h16,?_,rfl⟩
     show Value.int .u8 _=_
     congr 1
     have:IntKind.u8.wrap (Lib.indexByte uQ (x ||| 32))=Lib.indexByte uQ (x ||| 32):=wrap_u8 (by omega);rw[this];omega
theorem Bd:∀m n:Fin 16,IntKind.u8.wrap ((BitVec.ofInt IntKind.u8.bits (IntKind.u8.wrap ((m.val:Int)*2 ^ min (4:Int).toNat IntKind.u8.bits)) |||BitVec.ofInt IntKind.u8.bits (n.val:Int)).toNat)=((UInt8.ofNat (m.val*16+n.val)).toNat:Nat):=by decide +kernel
theorem Fq (hm:m<16) (hn:n<16):IntKind.u8.wrap ((BitVec.ofInt IntKind.u8.bits (IntKind.u8.wrap ((m:Int)*2 ^ min (4:Int).toNat IntKind.u8.bits)) |||BitVec.ofInt IntKind.u8.bits (n:Int)).toNat)=((UInt8.ofNat (m*16+n)).toNat:Nat):=Bd ⟨m,hm⟩ ⟨n,hn⟩
theorem Dj {x:UInt8}(t:By) (h:bX x=none):eB (120::x::t)=none:=by
 unfold eB;cases t with
 |nil=>rfl
 |cons y t=>simp[h]
theorem lZ (hs:St h rb l) (hl:l.length<=1000000):an Tryd.prog 83 #[w7 rb] h (PR rb h (eB l) fun c v _=>v= .int .u8 (c.toNat:Nat)):=by
 refine cV ?_;refine aa ?_;refine xo rfl (sQ rfl (dW hs hl) ((fun _ _ ⟨hc,hp,hx⟩=>cF hc (by rw[gJ hp];rfl) hx))) ?_;rintro _ h1 ⟨c,r,hp,rfl,hs1,hx1⟩;refine aa ?_;obtain rfl:=dX hp;simp only[List.length_cons] at hl;refine bF (fun e1=>?_) (fun e1=>?_)
 · have e1:c=110:=(bf rfl).1 e1;refine aa ?_;refine bU ?_;exact⟨10,r,by unfold eB;simp[e1],rfl,hs1,hx1⟩
 · have e1:¬c=110:=fun e=>e1 ((bf rfl).2 e)
   refine aa ?_;refine bF (fun e2=>?_) (fun e2=>?_)
   · have e2:c=116:=(bf rfl).1 e2;refine aa ?_;refine bU ?_;exact⟨9,r,by unfold eB;simp[e2],rfl,hs1,hx1⟩
   · have e2:¬c=116:=fun e=>e2 ((bf rfl).2 e)
     refine aa ?_;refine bF (fun e3=>?_) (fun e3=>?_)
     · have e3:c=114:=(bf rfl).1 e3;refine aa ?_;refine bU ?_;exact⟨13,r,by unfold eB;simp[e3],rfl,hs1,hx1⟩
     · have e3:¬c=114:=fun e=>e3 ((bf rfl).2 e)
       refine aa ?_;refine bF (fun e4=>?_) (fun e4=>?_)
       · have e4:c=120:=(bf rfl).1 e4;subst e4;refine aa ?_;refine xo rfl (sQ rfl (dW hs1 (by omega)) ((fun _ _ ⟨hc,hp,hx⟩=>cF hc (by rw[gJ hp];rfl) (hx1.trans hx)))) ?_;rintro _ h2 ⟨x,r2,hp2,rfl,hs2,hx2⟩;refine xo rfl (sQ rfl (pN x) ((fun _ h' ⟨hc,hq,hh⟩=>cF hc (by obtain rfl:=dX hp2;exact Dj _ hq) (by subst hh;exact hx1.trans hx2)))) ?_;rintro _ _ ⟨m,hm,hm16,rfl,rfl⟩;refine aY ?_;refine eW ?_;refine bT ?_;refine cU ?_;refine aY ?_;refine xp rfl (u0 rfl rfl (by omega)) ?_;refine aa ?_;obtain rfl:=dX hp2;simp only[List.length_cons] at hl;refine xo rfl (sQ rfl (dW hs2 (by omega)) ((fun _ _ ⟨hc,hp,hx⟩=>cF hc (by rw[gJ hp];rfl) ((hx1.trans hx2).trans hx)))) ?_;rintro _ h3 ⟨y,r3,hp3,rfl,hs3,hx3⟩;refine xo rfl (sQ rfl (pN y) ((fun _ h' ⟨hc,hq,hh⟩=>cF hc (by obtain rfl:=dX hp3;unfold eB;simp[hm,hq]) (by subst hh;exact(hx1.trans hx2).trans hx3)))) ?_;rintro _ _ ⟨n,hn,hn16,rfl,rfl⟩;refine xp rfl (av.uT rfl rfl) ?_;refine aa ?_;obtain rfl:=dX hp3;refine bU ?_;exact⟨UInt8.ofNat (m*16+n),r3,by unfold eB;simp[hm,hn],by show Value.int _ _=_;rw[Fq hm16 hn16],hs3,(hx1.trans hx2).trans hx3⟩
       · have e4:¬c=120:=fun e=>e4 ((bf rfl).2 e)
         refine aa ?_;refine xo rfl (bz rfl (jZ c)) ?_;rintro _ _ ⟨rfl,rfl⟩;refine aa ?_;refine bF (fun e5=>?_) (fun e5=>?_)
         · have e5:=(iu c).1 e5;refine aa ?_;refine bU ?_;exact⟨c,r,by unfold eB;simp[e1,e2,e3,e4,e5],rfl,hs1,hx1⟩
         · have e5:¬c∈aR:=fun e=>e5 ((iu c).2 e)
           refine aa ?_;refine xp rfl (aq (H.fB ) rfl) ?_;refine aa ?_;refine bN rfl (cq (Φ:=fun _ _=>False) rfl (cF rfl (by unfold eB;simp[e1,e2,e3,e4,e5]) hx1)) ?_;rintro _ _ hpn;exact hpn.elim
theorem nF (hs:St h rb l) (hl:l.length<=1000000):an Tryd.prog 89 #[w7 rb] h (PR rb h (jw l) fun c v _=>v= .int .u8 (c.toNat:Nat)):=by
 refine cV ?_;refine aa ?_;refine xo rfl (sQ rfl (dW hs hl) ((fun _ _ ⟨hc,hp,hx⟩=>cF hc (by rw[gJ hp];rfl) hx))) ?_;rintro _ h1 ⟨c,r,hp,rfl,hs1,hx1⟩;refine aa ?_;obtain rfl:=dX hp;simp only[List.length_cons] at hl;refine bF (fun e1=>?_) (fun e1=>?_)
 · have e1:c=92:=(bf rfl).1 e1;refine aa ?_;refine xo rfl (sQ rfl (lZ hs1 (by omega)) ((fun _ _ ⟨hc,hp,hx⟩=>cF hc (by unfold jw;simp[e1,hp]) (hx1.trans hx)))) ?_;rintro _ h2 ⟨d,r2,hp2,rfl,hs2,hx2⟩;refine aa ?_;refine bU ?_;exact⟨d,r2,by unfold jw;simp[e1,hp2],rfl,hs2,hx1.trans hx2⟩
 · have e1:¬c=92:=fun e=>e1 ((bf rfl).2 e)
   refine aa ?_;refine xo rfl (bz rfl (jZ c)) ?_;rintro _ _ ⟨rfl,rfl⟩;refine aa ?_;refine bF (fun e5=>?_) (fun e5=>?_)
   · have e5:=(iu c).1 e5;refine aa ?_;refine xp rfl (aq (H.fB ) rfl) ?_;refine aa ?_;refine bN rfl (cq (Φ:=fun _ _=>False) rfl (cF rfl (by unfold jw;simp[e1,e5]) hx1)) ?_;rintro _ _ hpn;exact hpn.elim
   · have e5:¬c∈aR:=fun e=>e5 ((iu c).2 e)
     refine aa ?_;refine bU ?_;exact⟨c,r,by unfold jw;simp[e1,e5],rfl,hs1,hx1⟩
theorem vS (k s:Nat) (v:Value) (i:Nat) (hi:i<256):(aX k s v).set (1+i / 64*1) (.int .u64 ((tc s (i / 64) ||| 2 ^ (i%64):Nat):Int))=aX k (s |||(1 <<< i)) v:=by
 have h4:i / 64<4:=by omega
 have hw:=Am s i;have hs:∀q,q≠i / 64->cw (s |||(1 <<< i)) q=cw s q:=fun q hq=>by unfold cw;rw[An s i q hq]
 have he:cw (s |||(1 <<< i)) (i / 64)= .int .u64 ((tc s (i / 64) ||| 2 ^ (i%64):Nat):Int):=by unfold cw;rw[hw]
 rw[<-he];generalize i / 64=q at *;unfold aX
 match q,h4 with
 | 0,_=>rw[hs 1 (by decide),hs 2 (by decide),hs 3 (by decide)];rfl
 | 1,_=>rw[hs 0 (by decide),hs 2 (by decide),hs 3 (by decide)];rfl
 | 2,_=>rw[hs 0 (by decide),hs 1 (by decide),hs 3 (by decide)];rfl
 | 3,_=>rw[hs 0 (by decide),hs 1 (by decide),hs 2 (by decide)];rfl
theorem AV (k s:Nat) (v:Value) (q:Nat) (hq:q<4):(aX k s v)[1+q*1]? =some (cw s q):=by
 match q,hq with
 | 0,_=>rfl
 | 1,_=>rfl
 | 2,_=>rfl
 | 3,_=>rfl
theorem Dd {w i:Nat}(hw:w<18446744073709551616):IntKind.u64.wrap ((BitVec.ofInt IntKind.u64.bits (w:Int) |||BitVec.ofInt IntKind.u64.bits (IntKind.u64.wrap (1*2 ^ min (((i:Int)).tmod 64).toNat IntKind.u64.bits))).toNat:Int)=((w ||| 2 ^ (i%64):Nat):Int):=by
 have h1:((i:Int)).tmod 64=((i%64:Nat):Int):=by rw[Int.tmod_eq_emod_of_nonneg (by omega)];omega
 have hb:i%64<64:=Nat.mod_lt _ (by decide);have h2:2 ^ (i%64)<2 ^ 64:=Nat.pow_lt_pow_right (by decide) hb;rw[h1,CM,Fe hw h2]
theorem qA (s i n:Nat) (h:0<n):gk s i n=gk (s |||(1 <<< i)) (i+1) (n-1):=by
 cases n with
 |zero=>omega
 |succ n=>rfl
theorem fh {nb k s:Nat}{v:Value}(hk:aB h nb 86 (aX k s v)) (a b:UInt8):an Tryd.prog 82 #[.pointer (some ⟨nb,1,none⟩),.int .u8 (a.toNat:Nat),.int .u8 (b.toNat:Nat)] h (b8 fun _ h' =>
 aB h' nb 86 (aX k (gK s a b) v)/\Ext (only nb) h h'):=by
 have ha:=a.toNat_lt;have hb:=b.toNat_lt;refine cV ?_;refine bT ?_;refine cU ?_;refine aY ?_;refine xp rfl (vj rfl (wrap_i64 ⟨by omega,by omega⟩)) ?_;refine aa ?_;refine fG (σ:=Nat×Nat) (fun q=>[(6,.int .i64 (q.1:Nat))]) (fun q h'=>aB h' nb 86 (aX k q.2 v)/\Ext (only nb) h h'/\q.1<=256/\gk q.2 q.1 (b.toNat+1-q.1)=gK s a b) (fun q=>b.toNat+1-q.1) ((a.toNat,s)) ⟨hk,Ext.refl _ _,by show a.toNat<=256;omega,rfl⟩ rfl ?_;rintro⟨i,s'⟩ h1 ⟨hk1,hx1,hi,hsp⟩ ih
 try dsimp only
 dsimp only at hk1 hi hsp
 iterate 2 refine bT ?_
 refine cU ?_
 iterate 2 refine aY ?_
 refine xp rfl (vj rfl (wrap_i64 ⟨by omega,by omega⟩)) ?_;refine aa ?_;refine bF (fun hle=>?_) (fun hle=>?_)
 · have hi255:i<=b.toNat:=by omega
   rw[qA _ _ _ (by omega)] at hsp;have hq:i / 64<4:=by omega
   have hdiv:IntKind.i64.wrap (((i:Int)).tdiv 64)=((i / 64:Nat):Int):=by
    rw[Int.tdiv_eq_ediv_of_nonneg (by omega),wrap_i64 ⟨by omega,by omega⟩];omega
   have hw:=tZ s' (i / 64);have hset:=vS k s' v i (by omega);have hk1':aB h1 nb 86 [.int .i64 k,cw s' 0,cw s' 1,cw s' 2,cw s' 3,v]:=hk1;refine aa ?_;refine Af 13 12 ?_;refine aS 0 ?_;refine aS 1 ?_;refine bL 2 rfl (fun h' e=>nY rfl rfl (by decide)) ?_;refine aS 3 ?_;refine bL 4 rfl (fun h' e=>wZ rfl rfl (i / 64) hdiv hq) ?_;refine bL 5 rfl (fun h' e=>aE rfl (e.old (hk1.cell (AV k s' v _ hq)))) ?_;refine aS 6 ?_;refine bL 7 rfl (fun h' e=>nX rfl rfl (by decide)) ?_;refine bL 8 rfl (fun h' e=>u0 rfl rfl (by rw[Int.tmod_eq_emod_of_nonneg (by omega)];omega)) ?_;refine bL 9 rfl (fun h' e=>av.uT rfl rfl) ?_;refine BL 10 ?_;refine bL 11 rfl (fun h' e=>wZ rfl rfl (i / 64) hdiv hq) ?_;refine qp 12 rfl (n8 rfl rfl hk1') ?_;rintro _ h2 ⟨rfl,hk2,hx2,hz2⟩;refine⟨nofun,?_⟩;refine lg ?_;refine aa ?_;rw[Dd hw,show [.int .i64 (k:Int),cw s' 0,cw s' 1,cw s' 2,cw s' 3,v]=aX k s' v from rfl,hset] at hk2;exact ih (i+1,s' |||(1 <<< i)) ⟨hk2,hx1.trans hx2,by show i+1<=256;omega,by show gk _ (i+1) (b.toNat+1-(i+1))=_;rw[<-hsp];rfl⟩
 · have h0:b.toNat+1-i=0:=by omega
   rw[h0] at hsp;refine aa ?_;refine DK ?_;exact⟨_,rfl,by rw[<-hsp];exact hk1,hx1⟩
theorem zF (s:Nat) (b:UInt8):an Tryd.prog 55 #[.agg (bq s).toArray,.int .u8 (b.toNat:Nat)] h (b8 fun r h'=>r= .bool (s.testBit b.toNat)/\ak h h'):=by
 have hb:=b.toNat_lt;have hq:b.toNat / 64<4:=by omega
 have hdiv:IntKind.u8.wrap (((b.toNat:Int)).tdiv 64)=((b.toNat / 64:Nat):Int):=by
  rw[Int.tdiv_eq_ediv_of_nonneg (by omega),wrap_u8 (by omega)];omega
 have hmod:((b.toNat:Int)).tmod 64=((b.toNat%64:Nat):Int):=by rw[Int.tmod_eq_emod_of_nonneg (by omega)];omega
 have hm64:b.toNat%64<64:=Nat.mod_lt _ (by decide)
 have hword:∀q,q<4->(bq s)[0+q*1]? =some (cw s q):=fun q hq=>by
  match q,hq with
  | 0,_=>rfl
  | 1,_=>rfl
  | 2,_=>rfl
  | 3,_=>rfl
 refine cV ?_;refine aa ?_;refine xo rfl (wY) ?_;rintro _ h1 ⟨rfl,hk,he,hz⟩;refine aY ?_;refine eW ?_;refine bT ?_;refine cU ?_;refine aY ?_;refine xp rfl (nY rfl rfl (by decide)) ?_;have hk:aB h1 h.size 46 (bq s):=hk;refine xp rfl (wZ rfl rfl (b.toNat / 64) hdiv hq) ?_;refine xp rfl (aE rfl (hk.cell (hword _ hq))) ?_;refine aY ?_;refine xp rfl (nX rfl rfl (by decide)) ?_;refine xp rfl (yZ rfl rfl (by rw[hmod];omega)) ?_;refine xp rfl (av.Bp rfl rfl) ?_;refine aa ?_;refine bU ?_;refine⟨_,rfl,?_,he⟩;rw[hmod,CL _ _ hm64,Fz (Nat.lt_of_le_of_lt (Nat.shiftRight_le _ _) (tZ s _)),yA];cases s.testBit b.toNat<;>rfl
theorem iq.only {h0:af}{g:Nat}(e:Ext M h0 h) (x:Ext (fun b=>b=g) h h') (hg:h0.size<=g):Ext M h0 h' :=
 ⟨Nat.le_trans e.size x.size,fun b hb hm=>by rw[x.block b (Nat.lt_of_lt_of_le hb e.size) (by omega)];exact e.block b hb hm⟩
theorem iq.ah {h0:af}(e:Ext M h0 h) (x:ak h h'):Ext M h0 h':=e.trans (ak.of x)
theorem qF:∀(n m acc:Nat) (s:By),s.length<n->s.length<m->jM n acc s=jM m acc s
 | 0,_,_,_,h,_=>by omega
 |_,0,_,_,_,h=>by omega
 |n+1,m+1,acc,s,hn,hm=>by
  rw[jM,jM];cases hf:dw s with
  |none=>rfl
  |some p =>
   obtain⟨⟨a,b⟩,r⟩:=p;have hlen:=kF hf;simp only;split
   · rfl
   · exact qF n m _ _ (by omega) (by omega)
def iX (first:Bool) (acc:Nat) (l:By):Option (Nat×By):=if first=false/\l.head? =some 93 then some (acc,l.tail) else jM (l.length+1) acc l
theorem fu {first:Bool}{acc:Nat}(h:¬(first=false/\l.head? =some 93)) (hf:dw l=none):iX first acc l=none:=by
 unfold iX;rw[if_neg h,jM,hf]
theorem jC {first:Bool}{acc:Nat}{b:UInt8}(h:¬(first=false/\l.head? =some 93)) (hf:dw l=some ((a,b),r)):iX first acc l=iX false (gK acc a b) r:=by
 have hlen:=kF hf;unfold iX;rw[if_neg h,jM,hf];simp only[true_and];split
 · simp
 · rename_i hne
   rw[if_neg (fun e=>by
    cases r with
    |nil=>cases e
    |cons c t=>simp at e;subst e;exact hne t rfl)]
   exact qF _ _ _ _ (by omega) (by omega)
theorem CR (h:jw l=none):dw l=none:=by unfold dw;rw[h]
theorem CQ (h:jw l=some (a,r)) (hr:r.head? ≠some 45):dw l=some ((a,a),r):=by
 unfold dw;rw[h];simp only;split
 · exact absurd rfl hr
 · rfl
theorem CP (h:jw l=some (a,r)) (hr:r.head? =some 45) (hb:jw r.tail=none):dw l=none:=by
 unfold dw;rw[h];cases r with
 |nil=>cases hr
 |cons c t=>simp at hr;subst hr;simp at hb;simp[hb]
theorem CO {r':By}{b:UInt8}(h:jw l=some (a,r)) (hr:r.head? =some 45) (hb:jw r.tail=some (b,r')):dw l=if b.toNat<a.toNat then none else some ((a,b),r'):=by
 unfold dw;rw[h];cases r with
 |nil=>cases hr
 |cons c t=>simp at hr;subst hr;simp at hb;simp[hb]
theorem mc (l:By):bR l=(iX true 0 (if l.head? =some 94 then l.tail else l)).map fun p=>(.mk 1 (if l.head? =some 94 then fW p.1 else p.1) [],p.2):=by
 unfold bR iX;split
 · simp
 · rename_i hne
   have h1:l.head? ≠some 94:=fun e=>by
    cases l with
    |nil=>cases e
    |cons c t=>simp at e;subst e;exact hne t rfl
   simp[h1]
theorem BT (s q:Nat) (hq:q<4):tc (fW s) q=18446744073709551615 ^^^ tc s q:=by
 apply Nat.eq_of_testBit_eq
 intro i;rw[ir,Nat.testBit_xor,ir];unfold fW;rw[Nat.testBit_xor,show yl=2 ^ 256-1 from rfl,Nat.testBit_two_pow_sub_one,show (18446744073709551615:Nat)=2 ^ 64-1 from rfl,Nat.testBit_two_pow_sub_one]
 by_cases hi:i<64
 · have:64*q+i<256:=by omega
   simp[hi,this]
 · simp[hi]
theorem DT {x:Nat}(hx:x<18446744073709551616):IntKind.u64.wrap ((BitVec.ofInt IntKind.u64.bits (if IntKind.u64.signed then -1 else IntKind.u64.max) ^^^ BitVec.ofInt IntKind.u64.bits (x:Int)).toNat:Int)=((18446744073709551615 ^^^ x:Nat):Int):=by
 have e:(BitVec.ofInt IntKind.u64.bits (if IntKind.u64.signed then -1 else IntKind.u64.max) ^^^ BitVec.ofInt IntKind.u64.bits (x:Int)).toNat=18446744073709551615 ^^^ x:=by
  rw[BitVec.toNat_xor]
  have h1:(BitVec.ofInt IntKind.u64.bits (x:Int)).toNat=x:=by
   show (BitVec.ofInt 64 (x:Int)).toNat=x
   simp only[BitVec.toNat_ofInt];omega
  rw[h1];rfl
 rw[e];have:18446744073709551615 ^^^ x<2 ^ 64:=Nat.xor_lt_two_pow (by decide) hx;exact iM ⟨by omega,by omega⟩
def vT (s q i:Nat):Value:=if i<q then cw (fW s) i else cw s i
def Dh (s q:Nat):List Value:=[.int .i64 1,vT s q 0,vT s q 1,vT s q 2,vT s q 3,.slice none 0 0]
theorem AU (s q:Nat) (hq:q<4):(Dh s q)[1+q*1]? =some (cw s q):=by
 match q,hq with
 | 0,_=>rfl
 | 1,_=>rfl
 | 2,_=>rfl
 | 3,_=>rfl
theorem B7 (s q:Nat) (hq:q<4):(Dh s q).set (1+q*1) (.int .u64 ((18446744073709551615 ^^^ tc s q:Nat):Int))=Dh s (q+1):=by
 rw[<-BT s q hq]
 match q,hq with
 | 0,_=>rfl
 | 1,_=>rfl
 | 2,_=>rfl
 | 3,_=>rfl
abbrev vh (n:Nat):Nat->Prop:=fun b=>b<n
def yq (n:Nat) (x:Nd) (v:Value) (h':af):Prop:=∃w,v= .agg (aX x.kind x.set w).toArray/\aA h' (vh n) (aX x.kind x.set w) x
theorem bg (h:af) (O:Nat->Prop) (k s:Nat):aA h O (aX k s (.slice none 0 0)) (.mk k s []):=.of k s (aP.nil _ _ _)
theorem s5 (hs:St h rb l) (hl:l.length<=1000000):an Tryd.prog 81 #[w7 rb] h (PR rb h (bR l) (yq h.size)):=by
 have hlt:=hs.lt;have hbr:=mc l;refine cV ?_;refine aa ?_;refine xo rfl (jf) ?_;rintro _ h1 ⟨rfl,hkr,he1,hz1⟩;refine aa ?_;refine xp rfl (aq (H.Bs _) rfl) ?_;refine xo rfl (jf) ?_;rintro _ h2 ⟨rfl,hk2,he2,hz2⟩;refine bN rfl (dx rfl rfl hk2) ?_;rintro _ h3 ⟨rfl,hk3,hx3,hz3⟩;have hk3:aB h3 h1.size 86 (aX 1 0 (.slice none 0 0)):=hk3;have hkr:aB h1 h.size 86 (aX 0 0 (.slice none 0 0)):=hkr;have e3:ak h h3:=ak.only (he1.trans he2) hx3 (by omega);have hkr3:aB h3 h.size 86 (aX 0 0 (.slice none 0 0)):=(hkr.ah he2).ext hx3 (by show ¬_=_;omega);have hs3:St h3 rb l:=aB.ah hs e3;refine aa ?_;refine xo rfl (bz rfl (jm 94 hs3 hl)) ?_;rintro _ h4 ⟨hor,hx4⟩
 obtain⟨nt,l1,rfl,hnt,hl1,hs4⟩:∃(nt:Bool) (l1:By),_=Value.bool nt/\nt=decide (l.head? =some 94)/\l1=(if l.head? =some 94 then l.tail else l)/\St h4 rb l1:=by
  rcases hor with ⟨a1,a2,a3⟩|⟨a1,a2,a3⟩
  · exact⟨true,_,a2,by simp[a1],by rw[if_pos a1],a3⟩
  · exact⟨false,_,a2,by simp[a1],by rw[if_neg a1],a3⟩
 rw[<-hl1] at hbr;have hl1l:l1.length<=1000000:=by rw[hl1];split;(have:l.tail.length<=l.length:=by simp);omega;exact hl
 have hkr4:=hkr3.ext hx4 (by show ¬_=_;omega);have hk4:=hk3.ext hx4 (by show ¬_=_;omega);have e4:Ext (only rb) h h4:=(ak.of e3).trans hx4;have hz4:=hx4.size;generalize htg:iX true 0 l1=tgt at hbr;refine aa ?_;refine fG (σ:=Bool×Nat×By) (fun q=>[(5,.bool q.1)]) (fun q h'=>St h' rb q.2.2/\aB h' h1.size 86 (aX 1 q.2.1 (.slice none 0 0))/\aB h' h.size 86 (aX 0 0 (.slice none 0 0))/\Ext (only rb) h h'/\q.2.2.length<=1000000/\iX q.1 q.2.1 q.2.2=tgt) (fun q=>q.2.2.length) ((true,0,l1)) ⟨hs4,hk4,hkr4,e4,hl1l,htg⟩ rfl ?_;rintro⟨first,acc,m⟩ h5 ⟨hs5,hk5,hkr5,e5,hm,hcon⟩ ih
 try dsimp only
 dsimp only at hs5 hk5 hm hcon
 iterate 2 refine bT ?_
 refine jY [(17,.bool (decide (¬(first=false/\m.head? =some 93))))] rfl ?_ ?_
 · refine aa ?_;refine ie 13 (fun hf=>?_) (fun hf=>?_)
   · refine aa ?_;exact bH rfl ⟨au rfl (by simp[hf]),sb rfl⟩
   · refine aa ?_;refine xo rfl (bz rfl (qR hs5)) ?_;rintro _ _ ⟨rfl,rfl⟩;refine aa ?_;exact bH rfl ⟨au rfl (by cases m with|nil=>simp|cons c t=>simp only[hf,List.head?_cons,Option.getD_some,Option.some.injEq,true_and];exact decide_eq_decide.2 (not_congr (bf rfl))),sb rfl⟩
 · refine bF (fun hgo=>?_) (fun hgo=>?_)
   · refine aa ?_;refine xo rfl (sQ rfl (nF hs5 hm) ((fun _ _ ⟨hc,hp,hx⟩=>cF hc (by rw[hbr,<-hcon,fu hgo (CR hp)];rfl) (e5.trans hx)))) ?_;rintro _ h6 ⟨a,r,ha,rfl,hs6,hx6⟩;have hrl:=iT ha;have hk6:=hk5.ext hx6 (by show ¬_=_;omega);have hkr6:=hkr5.ext hx6 (by show ¬_=_;omega);have e6:=e5.trans hx6;refine aa ?_;refine xo rfl (bz rfl (jm 45 hs6 (by omega))) ?_;rintro _ h7 ⟨hor7,hx7⟩;have hk7:=hk6.ext hx7 (by show ¬_=_;omega);have hkr7:=hkr6.ext hx7 (by show ¬_=_;omega);have e7:=e6.trans hx7
     rcases hor7 with ⟨a1,rfl,hs7⟩|⟨a1,rfl,hs7⟩
     · have htl:r.tail.length<=r.length:=by simp
       refine aa ?_;refine n6 rfl (by decide) ?_;refine aa ?_;refine xo rfl (sQ rfl (nF hs7 (by omega)) ((fun _ _ ⟨hc,hp,hx⟩=>cF hc (by rw[hbr,<-hcon,fu hgo (CP ha a1 hp)];rfl) (e7.trans hx)))) ?_;rintro _ h8 ⟨b,r8,hb,rfl,hs8,hx8⟩;have hbl:=iT hb;have hk8:=hk7.ext hx8 (by show ¬_=_;omega);have hkr8:=hkr7.ext hx8 (by show ¬_=_;omega);have e8:=e7.trans hx8;have hf4:=CO ha a1 hb;refine aa ?_;refine bF (fun hlow=>?_) (fun hlow=>?_)
       · rw[if_pos (by omega)] at hf4;refine aa ?_;refine xp rfl (aq (H.fB ) rfl) ?_;refine aa ?_;refine bN rfl (cq (Φ:=fun _ _=>False) rfl (cF rfl (by rw[hbr,<-hcon,fu hgo hf4];rfl) e8)) ?_;rintro _ _ hpn;exact hpn.elim
       · rw[if_neg (by omega)] at hf4;refine aa ?_;refine xo rfl (bz rfl (fh hk8 a b)) ?_;rintro _ h9 ⟨hk9,hx9⟩;refine aa ?_;have hsp:=jC (acc:=acc) hgo hf4;exact ih (false,gK acc a b,r8) ⟨aB.ext hs8 hx9 (by show ¬_=_;omega),hk9,hkr8.ext hx9 (by show ¬_=_;omega),iq.only e8 hx9 (by omega),by show r8.length<=_;omega,by rw[<-hcon,hsp]⟩
     · have hf2:=CQ ha a1;refine aa ?_;refine oe rfl (by decide) ?_;refine aa ?_;refine oe rfl (by simp) ?_;refine aa ?_;refine xo rfl (bz rfl (fh hk7 a a)) ?_;rintro _ h9 ⟨hk9,hx9⟩;refine aa ?_;have hsp:=jC (acc:=acc) hgo hf2;exact ih (false,gK acc a a,r) ⟨aB.ext hs7 hx9 (by show ¬_=_;omega),hk9,hkr7.ext hx9 (by show ¬_=_;omega),iq.only e7 hx9 (by omega),by show r.length<=_;omega,by rw[<-hcon,hsp]⟩
   · have hgo:=Classical.not_not.1 hgo;have htgt:tgt=some (acc,m.tail):=by rw[<-hcon];unfold iX;rw[if_pos hgo]
     refine aa ?_;refine xo rfl (sQ rfl (qS 93 hs5 hm) ((fun _ _ ⟨hc,hp,hx⟩=>absurd hp (by rw[if_pos hgo.2];simp)))) ?_;rintro _ h6 ⟨_,r,hp,_,hs6,hx6⟩;refine aa ?_;rw[if_pos hgo.2] at hp;cases hp;have hk6:=hk5.ext hx6 (by show ¬_=_;omega);have hkr6:=hkr5.ext hx6 (by show ¬_=_;omega);have e6:=e5.trans hx6;have hk6:aB h6 h1.size 86 (Dh acc 0):=hk6;refine fG (σ:=Nat) (fun q=>[(36,.int .i64 (q:Nat))]) (fun q h'=>q<=4/\St h' rb m.tail/\aB h' h1.size 86 (Dh acc (if nt then q else 0))/\aB h' h.size 86 (aX 0 0 (.slice none 0 0))/\Ext (only rb) h h') (fun q=>4-q) (0) ⟨by omega,hs6,by cases nt<;>exact hk6,hkr6,e6⟩ rfl ?_;rintro q h7 ⟨hq,hs7,hk7,hkr7,e7⟩ ih;refine aa ?_;refine bF (fun hq4=>?_) (fun hq4=>?_)
     · have hq4':q<4:=by omega
       refine aa ?_;refine jX (fun hb=>?_) (fun hb=>?_)
       · rw[if_pos hb] at hk7;have hk7':aB h7 h1.size 86 [.int .i64 1,vT acc q 0,vT acc q 1,vT acc q 2,vT acc q 3,.slice none 0 0]:=hk7;refine cU ?_
         iterate 3 refine aY ?_
         refine xp rfl (wZ rfl rfl q rfl hq4') ?_;refine xp rfl (aE rfl (hk7.cell (AU acc q hq4'))) ?_;refine xp rfl (av.Et rfl) ?_;refine aY ?_;refine xp rfl (wZ rfl rfl q rfl hq4') ?_;refine bN rfl (n8 rfl rfl hk7') ?_;rintro _ h8 ⟨rfl,hk8,hx8,hz8⟩;refine aa ?_;have hk8:aB h8 h1.size 86 (Dh acc (q+1)):=by rw[<-B7 acc q hq4',<-DT (tZ acc q)];exact hk8
         exact ih (q+1) ⟨by omega,aB.ext hs7 hx8 (by show ¬_=_;omega),by rw[if_pos hb];exact hk8,hkr7.ext hx8 (by show ¬_=_;omega),iq.only e7 hx8 (by omega)⟩
       · rw[if_neg (by rw[hb];decide)] at hk7;refine aa ?_;exact ih (q+1) ⟨by omega,hs7,by rw[if_neg (by rw[hb];decide)];exact hk7,hkr7,e7⟩
     · obtain rfl:q=4:=by omega
       have hfin:Dh acc (if nt then 4 else 0)=aX 1 (if l.head? =some 94 then fW acc else acc) (.slice none 0 0):=by
        subst hnt
        by_cases hd:l.head? =some 94<;>simp[hd]<;>rfl
       rw[hfin] at hk7;have hbr2:bR l=some (.mk 1 (if l.head? =some 94 then fW acc else acc) [],m.tail):=by rw[hbr,htgt];rfl
       generalize (if l.head? =some 94 then fW acc else acc)=fs at hk7 hbr2;refine aa ?_;refine xp rfl (gj rfl hk7.row) ?_;refine bN rfl (dx rfl rfl hkr7 (aA.one (bg h7 (only rb) 1 fs))) ?_;rintro _ h8 ⟨rfl,hk8,hx8,hz8⟩;refine aa ?_;have hk8:aB h8 h.size 86 (aX 1 fs (.slice none 0 0)):=hk8;refine jK (jI rfl hk8.row jJ) ?_;exact⟨_,m.tail,hbr2,⟨_,rfl,bg _ _ _ _⟩,aB.ext hs7 hx8 (by show ¬_=_;omega),iq.only e7 hx8 (Nat.le_refl _)⟩
theorem cO {cs:List Value}(k:aA h (vh m) cs x) (hn:n<=m) (e:Ext M h h') (hM:∀b,b<h.size->M b->b<m):aA h' (vh n) cs x :=
 k.mv (Mv.gq e fun b hb ho=>⟨fun hm=>ho (hM b hb hm),fun k=>ho (Nat.lt_of_lt_of_le k hn)⟩)
theorem AP {cs ds:List Value}(h:cs.length=ds.length):over cs 0 ds=ds:=by
 unfold over;rw[List.drop_of_length_le (by omega)];simp
theorem nI {O:Nat->Prop}{v:Value}{xs:List Nd}(kind:Nat) (hv:aP jg h O v xs):an Tryd.prog 64 #[.int .i64 (kind:Nat),v] h (b8 fun r h'=>(∃w,r= .agg (aX (aG kind xs).kind (aG kind xs).set w).toArray/\aA h' O (aX (aG kind xs).kind (aG kind xs).set w) (aG kind xs))/\ak h h'):=by
 obtain⟨oa,n,c,rfl,hsl⟩:=hv.open;have hn:=hsl.len;refine cV ?_;refine aa ?_;refine xo rfl (jf) ?_;rintro _ h1 ⟨rfl,hk,he,hz⟩;refine aa ?_;have hk:aB h1 h.size 86 (aX 0 0 (.slice none 0 0)):=hk;have hsl1:=hsl.mv (Mv.ah he);have hv1:=hv.ah he;refine bF (fun e0=>?_) (fun e0=>?_)
 · obtain rfl:n=0:=by omega
   have hx:xs=[]:=List.eq_nil_of_length_eq_zero hn;subst hx;refine aa ?_;refine xp rfl (aq (H.Bt ) rfl) ?_;refine bN rfl (dx rfl rfl hk) ?_;rintro _ h2 ⟨rfl,hk2,hx2,hz2⟩;refine aa ?_;have hk2:aB h2 h.size 86 (aX 0 0 (.slice none 0 0)):=hk2;refine jK (jI rfl hk2.row jJ) ?_;exact⟨_,rfl,⟨_,rfl,bg _ _ 0 0⟩,ak.only he hx2 (Nat.le_refl _)⟩
 · refine aa ?_;refine bF (fun e1=>?_) (fun e1=>?_)
   · obtain rfl:n=1:=by omega
     obtain⟨x,rfl⟩:=List.length_eq_one_iff.1 hn;obtain⟨b,o,cs,ha,ho,hr,hR⟩:=hsl.get 0 x rfl;have hr:=he.rowAt (fun k=>k) hr;obtain⟨w,rfl,hw⟩:=aA.open hR;refine bT ?_;refine cU ?_;refine aY ?_;refine xp rfl (bK rfl rfl 0 rfl ha (by decide)) ?_;refine xp rfl (gj rfl hr) ?_;refine bN rfl (dx rfl rfl hk (jg.one hR)) ?_;rintro _ h2 ⟨rfl,hk2,hx2,hz2⟩;refine aa ?_;have hk2:aB h2 h.size 86 (aX x.kind x.set w):=hk2;refine jK (jI rfl hk2.row jJ) ?_;exact⟨_,rfl,⟨w,rfl,aA.ah hR (ak.only he hx2 (Nat.le_refl _))⟩,ak.only he hx2 (Nat.le_refl _)⟩
   · refine aa ?_;refine xp rfl (aq (H.sj _ _ _ _) rfl) ?_;refine bN rfl (dx rfl rfl hk) ?_;rintro _ h2 ⟨rfl,hk2,hx2,hz2⟩;refine aa ?_;have hk2:aB h2 h.size 86 (aX kind 0 (.slice oa n c)):=hk2;refine jK (jI rfl hk2.row jJ) ?_
     have hj:aG kind xs= .mk kind 0 xs:=by
      unfold aG;split
      · simp at hn;omega
      · simp at hn;omega
      · rfl
     rw[hj];exact⟨_,rfl,⟨.slice oa n c,rfl,aA.of kind 0 (hv.ah (ak.only he hx2 (Nat.le_refl _)))⟩,ak.only he hx2 (Nat.le_refl _)⟩
def Sg (h:af) (lim:Nat):Prop:=∃m,0<lim/\m<lim/\cellAt h ⟨0,0,none⟩=some (.map (some m)) /\
 ∃l:List (Int×Int),dG (Value.int .u8) (Value.int .i64) h m l/\∀c:UInt8,((jh (c.toNat:Int) l).map (Value.int .i64)).getD (Value.int .i64 0)=Value.int .i64 (bp c:Nat)
theorem Sg.ext {h h':af}{lim:Nat}(k:Sg h lim){M:Nat->Prop}(e:Ext M h h') (hM:∀b,M b->lim<=b):Sg h' lim:=by
 obtain⟨m,h1,h2,h3,l,h4,h5⟩:=k;exact⟨m,h1,h2,e.cell (fun k=>absurd (hM _ k) (by show ¬lim<=0;omega)) h3,l,h4.ext e (fun k=>by have:=hM _ k;omega),h5⟩
def sC (d lim:Nat):Prop:=∀(h:af) (rb:Nat) (l:By),Sg h lim->lim<=rb->St h rb l->l.length<d->l.length<=1000000 ->
 an Tryd.prog 47 #[w7 rb] h (PR rb h (bk d l) (yq h.size))
theorem yg (ih:sC d lim) (hg:Sg h lim) (hrb:lim<=rb) (hs:St h rb l) (hd:l.length<=d) (hl:l.length<=1000000):an Tryd.prog 73 #[w7 rb] h (PR rb h (bP (bk d) l) (yq h.size)):=by
 have hlt:=hs.lt;refine cV ?_;refine aa ?_;refine xo rfl (jf) ?_;rintro _ h1 ⟨rfl,hkr,he1,hz1⟩;refine aa ?_;refine xp rfl (aq (H.Bs _) rfl) ?_;refine xo rfl (jf) ?_;rintro _ h2 ⟨rfl,hk2,he2,hz2⟩;refine bN rfl (dx rfl rfl hk2) ?_;rintro _ h3 ⟨rfl,hk3,hx3,hz3⟩;have hk3:aB h3 h1.size 86 (aX 1 0 (.slice none 0 0)):=hk3;have hkr:aB h1 h.size 86 (aX 0 0 (.slice none 0 0)):=hkr;have e3:ak h h3:=ak.only (he1.trans he2) hx3 (by omega);have hkr3:aB h3 h.size 86 (aX 0 0 (.slice none 0 0)):=(hkr.ah he2).ext hx3 (by show ¬_=_;omega);have hs3:St h3 rb l:=aB.ah hs e3;refine aa ?_;refine xo rfl (sQ rfl (dW hs3 hl) ((fun _ _ ⟨hc,hp,hx⟩=>cF hc (by rw[gJ hp];rfl) ((ak.of e3).trans hx)))) ?_;rintro _ h4 ⟨c,r,hp,rfl,hs4,hx4⟩;obtain rfl:=dX hp;simp only[List.length_cons] at hl hd;have hkr4:=hkr3.ext hx4 (by show ¬_=_;omega);have hk4:=hk3.ext hx4 (by show ¬_=_;omega);have e4:Ext (only rb) h h4:=(ak.of e3).trans hx4;have hz4:=hx4.size;have hg4:Sg h4 lim:=hg.ext e4 (fun b (hb:b=rb)=>by omega);refine aa ?_
 have fin:∀(x:Nd) (w:Value) (m:By) (h':af) (ρ':Env),Sub [(0,w7 rb),(2,.pointer (some ⟨h.size,0,none⟩)),(3,.pointer (some ⟨h1.size,0,none⟩))] ρ'->aB h' h1.size 86 (aX x.kind x.set w)->aB h' h.size 86 (aX 0 0 (.slice none 0 0))->St h' rb m->aA h' (vh (h.size+1)) (aX x.kind x.set w) x->Ext (only rb) h h'->bP (bk d) (c::r)=some (x,m)->G Tryd.prog 73 f73 [.code [1,1,1]] ρ' h' (PR rb h (bP (bk d) (c::r)) (yq h.size)):=by
  rintro x w m hh ρ' hsub hkx hkrr hst hnd hee hat;refine G.sub (ρ':=[(0,w7 rb),(2,.pointer (some ⟨h.size,0,none⟩)),(3,.pointer (some ⟨h1.size,0,none⟩))]) hsub ?_;refine aa ?_;refine xp rfl (gj rfl hkx.row) ?_;refine bN rfl (dx rfl rfl hkrr (aA.one hnd)) ?_;rintro _ h9 ⟨rfl,hk9,hx9,hz9⟩;refine aa ?_;have hk9:aB h9 h.size 86 (aX x.kind x.set w):=hk9;refine jK (jI rfl hk9.row jJ) ?_;exact⟨x,m,hat,⟨w,rfl,cO hnd (Nat.le_succ _) hx9 (fun b _ (hb:b=h.size)=>by omega)⟩,aB.ext hst hx9 (by show ¬_=_;omega),iq.only hee hx9 (Nat.le_refl _)⟩
 refine bF (fun c1=>?_) (fun c1=>?_)
 · have c1:c=40:=(bf rfl).1 c1;subst c1;refine aa ?_;refine xo rfl (sQ rfl (ih h4 rb r hg4 hrb hs4 (by omega) (by omega)) ((fun _ _ ⟨hc,hp,hx⟩=>cF hc (by unfold bP;simp[hp]) (e4.trans hx)))) ?_;rintro _ h5 ⟨x,r5,hp5,⟨w,rfl,hnd5⟩,hs5,hx5⟩;have hk5:=hk4.ext hx5 (by show ¬_=_;omega);have hkr5:=hkr4.ext hx5 (by show ¬_=_;omega);have hr5:=gH d hp5;refine bN rfl (dx rfl rfl hk5 (aA.one hnd5)) ?_;rintro _ h6 ⟨rfl,hk6,hx6,hz6⟩;refine aa ?_;have hk6:aB h6 h1.size 86 (aX x.kind x.set w):=hk6;have hs6:St h6 rb r5:=aB.ext hs5 hx6 (by show ¬_=_;omega);have hnd6:aA h6 (vh (h.size+1)) (aX x.kind x.set w) x:=cO hnd5 (by omega) hx6 (fun b _ (hb:b=h1.size)=>by omega);have e6:=iq.only (e4.trans hx5) hx6 (by omega);refine xo rfl (sQ rfl (qS 41 hs6 (by omega)) ((fun _ _ ⟨hc,hp,hx⟩=>cF hc (by unfold bP;simp only[if_true,hp5];split;rename_i t ht;cases ht;simp at hp;rfl) (e6.trans hx)))) ?_;rintro _ h7 ⟨_,r7,hp7,_,hs7,hx7⟩;refine eW ?_;refine bT ?_
   have hcl:r5=41::r7:=by
    split at hp7
    · rename_i hh;cases hp7;cases r5 with|nil=>cases hh|cons a b=>simp at hh;subst hh;rfl
    · cases hp7
   subst hcl;exact fin x w r7 _ _ (by exact sb rfl) (hk6.ext hx7 (by show ¬_=_;omega)) ((hkr5.ext hx6 (by show ¬_=_;omega)).ext hx7 (by show ¬_=_;omega)) hs7 (cO hnd6 (Nat.le_refl _) hx7 (fun b _ (hb:b=rb)=>by omega)) (e6.trans hx7) (by unfold bP;simp[hp5])
 · have c1:¬c=40:=fun e=>c1 ((bf rfl).2 e)
   refine aa ?_;refine bF (fun c2=>?_) (fun c2=>?_)
   · have c2:c=91:=(bf rfl).1 c2;refine aa ?_;refine xo rfl (sQ rfl (s5 hs4 (by omega)) ((fun _ _ ⟨hc,hp,hx⟩=>cF hc (by unfold bP;simp[c2,hp]) (e4.trans hx)))) ?_;rintro _ h5 ⟨x,r5,hp5,⟨w,rfl,hnd5⟩,hs5,hx5⟩;have hk5:=hk4.ext hx5 (by show ¬_=_;omega);have hkr5:=hkr4.ext hx5 (by show ¬_=_;omega);refine bN rfl (dx rfl rfl hk5 (aA.one hnd5)) ?_;rintro _ h6 ⟨rfl,hk6,hx6,hz6⟩;refine eW ?_;refine bT ?_;have hk6:aB h6 h1.size 86 (aX x.kind x.set w):=hk6;exact fin x w r5 _ _ (by exact sb rfl) hk6 (hkr5.ext hx6 (by show ¬_=_;omega)) (aB.ext hs5 hx6 (by show ¬_=_;omega)) (cO hnd5 (by omega) hx6 (fun b _ (hb:b=h1.size)=>by omega)) (iq.only (e4.trans hx5) hx6 (by omega)) (by unfold bP;simp[c2,hp5])
   · have c2:¬c=91:=fun e=>c2 ((bf rfl).2 e)
     refine aa ?_;refine bF (fun c3=>?_) (fun c3=>?_)
     · have c3:c=46:=(bf rfl).1 c3;refine aa ?_;refine xo rfl (bz rfl (fh hk4 0 9)) ?_;rintro _ h5 ⟨hk5,hx5⟩;refine aa ?_;refine xo rfl (bz rfl (fh hk5 11 255)) ?_;rintro _ h6 ⟨hk6,hx6⟩;refine eW ?_;refine bT ?_;have hx56:=hx5.trans hx6;exact fin wH (.slice none 0 0) r _ _ (by exact sb rfl) hk6 (hkr4.ext hx56 (by show ¬_=_;omega)) (aB.ext hs4 hx56 (by show ¬_=_;omega)) (bg _ _ _ _) (iq.only e4 hx56 (by omega)) (by unfold bP;simp[c3])
     · have c3:¬c=46:=fun e=>c3 ((bf rfl).2 e)
       refine aa ?_;refine bF (fun c4=>?_) (fun c4=>?_)
       · have c4:c=92:=(bf rfl).1 c4;refine aa ?_;refine xo rfl (sQ rfl (lZ hs4 (by omega)) ((fun _ _ ⟨hc,hp,hx⟩=>cF hc (by unfold bP;simp[c4,hp]) (e4.trans hx)))) ?_;rintro _ h5 ⟨b,r5,hp5,rfl,hs5,hx5⟩;have hk5:=hk4.ext hx5 (by show ¬_=_;omega);have hkr5:=hkr4.ext hx5 (by show ¬_=_;omega);refine aa ?_;refine xo rfl (bz rfl (fh hk5 b b)) ?_;rintro _ h6 ⟨hk6,hx6⟩;refine eW ?_;refine bT ?_;exact fin (mP b) (.slice none 0 0) r5 _ _ (by exact sb rfl) hk6 (hkr5.ext hx6 (by show ¬_=_;omega)) (aB.ext hs5 hx6 (by show ¬_=_;omega)) (bg _ _ _ _) (iq.only (e4.trans hx5) hx6 (by omega)) (by unfold bP;simp[c4,hp5])
       · have c4:¬c=92:=fun e=>c4 ((bf rfl).2 e)
         refine aa ?_;refine bF (fun d41=>?_) (fun d41=>?_)
         · have d41:c=41:=(bf rfl).1 d41;refine aa ?_;refine n6 rfl (by rw[d41];decide) ?_;refine aa ?_;refine xp rfl (aq (H.fB ) rfl) ?_;refine aa ?_;refine bN rfl (cq (Φ:=fun _ _=>False) rfl (cF rfl (by unfold bP;simp[d41]) e4)) ?_;rintro _ _ hpn;exact hpn.elim
         · have d41:¬c=41:=fun e=>d41 ((bf rfl).2 e)
           refine aa ?_;refine bF (fun d93=>?_) (fun d93=>?_)
           · have d93:c=93:=(bf rfl).1 d93;refine aa ?_;refine n6 rfl (by rw[d93];decide) ?_;refine aa ?_;refine xp rfl (aq (H.fB ) rfl) ?_;refine aa ?_;refine bN rfl (cq (Φ:=fun _ _=>False) rfl (cF rfl (by unfold bP;simp[d93]) e4)) ?_;rintro _ _ hpn;exact hpn.elim
           · have d93:¬c=93:=fun e=>d93 ((bf rfl).2 e)
             refine aa ?_;refine bF (fun d124=>?_) (fun d124=>?_)
             · have d124:c=124:=(bf rfl).1 d124;refine aa ?_;refine n6 rfl (by rw[d124];decide) ?_;refine aa ?_;refine xp rfl (aq (H.fB ) rfl) ?_;refine aa ?_;refine bN rfl (cq (Φ:=fun _ _=>False) rfl (cF rfl (by unfold bP;simp[d124]) e4)) ?_;rintro _ _ hpn;exact hpn.elim
             · have d124:¬c=124:=fun e=>d124 ((bf rfl).2 e)
               refine aa ?_;refine bF (fun d42=>?_) (fun d42=>?_)
               · have d42:c=42:=(bf rfl).1 d42;refine aa ?_;refine n6 rfl (by rw[d42];decide) ?_;refine aa ?_;refine xp rfl (aq (H.fB ) rfl) ?_;refine aa ?_;refine bN rfl (cq (Φ:=fun _ _=>False) rfl (cF rfl (by unfold bP;simp[d42]) e4)) ?_;rintro _ _ hpn;exact hpn.elim
               · have d42:¬c=42:=fun e=>d42 ((bf rfl).2 e)
                 refine aa ?_;refine bF (fun d43=>?_) (fun d43=>?_)
                 · have d43:c=43:=(bf rfl).1 d43;refine aa ?_;refine n6 rfl (by rw[d43];decide) ?_;refine aa ?_;refine xp rfl (aq (H.fB ) rfl) ?_;refine aa ?_;refine bN rfl (cq (Φ:=fun _ _=>False) rfl (cF rfl (by unfold bP;simp[d43]) e4)) ?_;rintro _ _ hpn;exact hpn.elim
                 · have d43:¬c=43:=fun e=>d43 ((bf rfl).2 e)
                   refine aa ?_;refine bF (fun d63=>?_) (fun d63=>?_)
                   · have d63:c=63:=(bf rfl).1 d63;refine aa ?_;refine xp rfl (aq (H.fB ) rfl) ?_;refine aa ?_;refine bN rfl (cq (Φ:=fun _ _=>False) rfl (cF rfl (by unfold bP;simp[d63]) e4)) ?_;rintro _ _ hpn;exact hpn.elim
                   · have d63:¬c=63:=fun e=>d63 ((bf rfl).2 e)
                     refine aa ?_;refine xo rfl (bz rfl (fh hk4 c c)) ?_;rintro _ h6 ⟨hk6,hx6⟩;refine eW ?_;refine bT ?_;exact fin (mP c) (.slice none 0 0) r _ _ (by exact sb rfl) hk6 (hkr4.ext hx6 (by show ¬_=_;omega)) (aB.ext hs4 hx6 (by show ¬_=_;omega)) (bg _ _ _ _) (iq.only e4 hx6 (by omega)) (by unfold bP;simp[c1,c2,c3,c4,d41,d93,d124,d42,d43,d63])
theorem uo {ρ:Env}{dst:Option Nat}{ty:TypeId}{pos:String}{after:Array Edge}{guard:Option (Nat×Bool)}{x y:Operand}{l:List (Int×Int)}
 (hx:aO ρ x=some (.map (some m))) (hy:aO ρ y=some (.int .u8 (c.toNat:Nat))) (hm:dG (Value.int .u8) (Value.int .i64) h m l) (hv:∀c:UInt8,((jh (c.toNat:Int) l).map (Value.int .i64)).getD (Value.int .i64 0)=Value.int .i64 (bp c:Nat)) :
 av Tryd.prog ⟨dst,.lookup 142 x y false,ty,pos,after,guard⟩ ρ h (.int .i64 (bp c:Nat)):=by
 have:=av.lookup (P:=Tryd.prog) (ρ:=ρ) (h:=h) (dst:=dst) (ty:=ty) (pos:=pos) (after:=after) (guard:=guard) (gZ.int .u8) underlying142 underlying5 (z:=.int .i64 0) (et:=3) (by kernel_rfl) hx hy rfl hm
 rwa [hv c] at this
theorem oZ (h:0<bp c):cg x (c::r)=cg (.mk (bp c) 0 [x]) r:=by
 rw[cg,if_neg (by omega)]
theorem oY {m:By}(h:bp (m.head?.getD 0)=0):cg x m=(x,m):=by
 cases m with
 |nil=>rfl
 |cons c r=>rw[cg,if_pos (by simpa using h)]
theorem vM (ih:sC d lim) (hg:Sg h lim) (hrb:lim<=rb) (hs:St h rb l) (hd:l.length<=d) (hl:l.length<=1000000):an Tryd.prog 70 #[w7 rb] h (PR rb h (dh (bk d) l) (yq h.size)):=by
 have hlt:=hs.lt;refine cV ?_;refine aa ?_;refine xo rfl (jf) ?_;rintro _ h1 ⟨rfl,hkr,he1,hz1⟩;refine aa ?_;refine xo rfl (sQ rfl (yg ih (hg.ext he1 (fun _ k=>k.elim)) hrb (aB.ah hs he1) hd hl) ((fun _ _ ⟨hc,hp,hx⟩=>cF hc (by unfold dh;rw[hp];rfl) ((ak.of he1).trans hx)))) ?_;rintro _ h2 ⟨x0,m0,hp0,⟨w0,rfl,hnd2⟩,hs2,hx2⟩;refine xo rfl (jf) ?_;rintro _ h3 ⟨rfl,hk3,he3,hz3⟩;refine bN rfl (dx rfl rfl hk3 (aA.one hnd2)) ?_;rintro _ h4 ⟨rfl,hk4,hx4,hz4⟩;have hz2:=hx2.size;have hkr:aB h1 h.size 86 (aX 0 0 (.slice none 0 0)):=hkr;have hk4:aB h4 h2.size 86 (aX x0.kind x0.set w0):=hk4;have e2:Ext (only rb) h h2:=(ak.of he1).trans hx2;have hkr2:=hkr.ext hx2 (by show ¬_=_;omega);have e24:ak h2 h4:=ak.only he3 hx4 (Nat.le_refl _);have hnd4:aA h4 (fun b=>b<h.size+1\/b=h2.size) (aX x0.kind x0.set w0) x0:=hnd2.mv (Mv.gq e24 fun b hb hn=>⟨fun k=>k,fun k=>by have:¬b<h1.size:=hn;omega⟩);have hm0:=oL (fun h=>gH d h) hp0;have hpc:dh (bk d) l=some (cg x0 m0):=by unfold dh;rw[hp0];rfl
 generalize htg:cg x0 m0=tgt at hpc;generalize hnb:h2.size=nb at hk4 hnd4 hs2;have hnb1:h.size+1<=nb:=by omega
 refine aa ?_;refine C3 (σ:=Nd×Value×By) (fun q=>[(0,w7 rb),(2,.pointer (some ⟨h.size,0,none⟩)),(3,.pointer (some ⟨nb,0,none⟩))]) (fun q h'=>St h' rb q.2.2/\aB h' nb 86 (aX q.1.kind q.1.set q.2.1)/\aB h' h.size 86 (aX 0 0 (.slice none 0 0))/\Ext (only rb) h h'/\aA h' (fun b=>b<h.size+1\/b=nb) (aX q.1.kind q.1.set q.2.1) q.1/\q.2.2.length<=1000000/\cg q.1 q.2.2=tgt) (fun q=>q.2.2.length) ((x0,w0,m0)) ⟨aB.ah hs2 e24,hk4,hkr2.ah e24,iq.ah e2 e24,hnd4,by show m0.length<=_;omega,htg⟩ ?_;rintro⟨x,w,m⟩ h5 ⟨hs5,hk5,hkr5,e5,hnd5,hm,hsg⟩ ih
 try dsimp only
 dsimp only at hs5 hk5 hnd5 hm hsg;have hg5:Sg h5 lim:=hg.ext e5 (fun b (hb:b=rb)=>by omega);obtain⟨mp,hm1,hm2,hcell,lm,hmap,hval⟩:=hg5;refine aa ?_;refine EL ?_;refine me rfl (aE rfl hcell) ?_;refine aa ?_;refine EZ (qR hs5) ?_;refine me rfl (uo rfl rfl hmap hval) ?_;refine aa ?_;refine bF (fun hgo=>?_) (fun hgo=>?_)
 · have hgo:0<bp (m.head?.getD 0):=by omega
   obtain⟨c,r,rfl⟩:=List.exists_cons_of_ne_nil (fun(e:m=[])=>by rw[e] at hgo;revert hgo;decide);have hgo:0<bp c:=hgo;rw[oZ hgo] at hsg;simp only[List.length_cons] at hm;have hlt5:=hk5.lt;have hltr:=hkr5.lt
   have hn1:¬((⟨0,0,none⟩:Addr).block=rb\/Array.size h5<=(⟨0,0,none⟩:Addr).block):=by
    show ¬(0=rb\/Array.size h5<=0);omega
   have hn2:¬(nb=rb\/Array.size h5<=nb):=by omega
   have hn3:¬(mp=rb\/Array.size h5<=mp):=by omega
   have hO5:¬(h5.size<h.size+1\/h5.size=nb):=by have:=hkr5.lt;omega
   refine aa ?_;refine vg 8 (fun b=>b=rb\/Array.size h5<=b) (fun i=>Nat.blt i 7) ?_;refine bL 0 rfl (fun h' e=>aE rfl (e.cell hn1 hcell)) ?_;refine aS 1 ?_;refine bL 4 rfl (fun h' e=>gj rfl (e.rowAt hn2 hk5.row)) ?_;refine E1 2 5 rfl rfl (sQ rfl (dW hs5 (by simp only[List.length_cons];omega)) ((fun _ _ ⟨_,hp,_⟩=>by cases hp))) (y3) ?_ ?_
   · rintro _ h6 ⟨_,_,hp6,rfl,hs6,hx6⟩;refine⟨fun _=>hx6.mono (fun _ _ k=>.inl k),?_⟩;cases hp6;have hmap6:=hmap.ext hx6 (by show ¬_=_;omega);have hz6:=hx6.size;have hk6:=hk5.ext hx6 (by show ¬_=_;omega);have hnd6:aA h6 (fun b=>b<h.size+1\/b=nb) (aX x.kind x.set w) x:=hnd5.mv (Mv.gq hx6 fun b hb hn=>⟨fun(k:b=rb)=>hn (.inl (by omega)),hn⟩);refine bL 3 rfl (fun h' e=>uo rfl rfl (hmap6.ext e hn3) hval) ?_;refine eZ 5 rfl (y3) ?_;rintro _ _ ⟨rfl,rfl⟩;refine⟨fun _=>by first|exact Ext.push _ _ _|assumption,?_⟩;refine bL 6 rfl (fun h' e=>aq (H.sj _ _ _ _) rfl) ?_;have hsl:=aP.lT (e:=jg) (t:=86) hnd6 (show ¬(h6.size<h.size+1\/h6.size=nb) by omega);have ep:=Ext.push (fun _=>False) h6 (.cells (aX x.kind x.set w).toArray 86);have hk7:=hk6.ah ep;have hs7:St _ rb r:=aB.ah hs6 ep;have hkr7:=(hkr5.ext hx6 (by show ¬_=_;omega)).ah ep;have e7:=iq.ah (e5.trans hx6) ep;refine qp 7 rfl (dx rfl rfl hk7 (aA.one (aA.of (bp c) 0 hsl))) ?_;rintro _ h8 ⟨rfl,hk8,hx8,hz8⟩;refine⟨nofun,?_⟩;refine lg ?_;refine aa ?_;have hk8:aB h8 nb 86 (aX (bp c) 0 (.slice (some ⟨h6.size,0,none⟩) 1 1)):=hk8;exact ih (.mk (bp c) 0 [x],.slice (some ⟨h6.size,0,none⟩) 1 1,r) ⟨aB.ext hs7 hx8 (by show ¬_=_;omega),hk8,hkr7.ext hx8 (by show ¬_=_;omega),iq.only e7 hx8 (by omega),(aA.of (bp c) 0 hsl).mv (Mv.gq hx8 fun b hb hn=>⟨fun(k:b=nb)=>hn (.inr k),hn⟩),by show r.length<=_;omega,hsg⟩ (by show r.length<(c::r).length;simp)
   · rintro _ _ ⟨rfl,rfl⟩;refine⟨fun _=>by first|exact Ext.push _ _ _|assumption,?_⟩;have hsl:=aP.lT (e:=jg) (t:=86) hnd5 hO5;have ep:=Ext.push (fun _=>False) h5 (.cells (aX x.kind x.set w).toArray 86);refine eZ 2 rfl (sQ rfl (dW (aB.ah hs5 ep) (by simp only[List.length_cons];omega)) ((fun _ _ ⟨_,hp,_⟩=>by cases hp))) ?_;rintro _ h6 ⟨_,_,hp6,rfl,hs6,hx6⟩;refine⟨fun _=>hx6.mono (fun _ _ k=>.inl k),?_⟩;cases hp6;have hmap6:=(hmap.ext ep (fun k=>k)).ext hx6 (by show ¬_=_;omega);have hz6:=hx6.size;have hzp:(h5.push (.cells (aX x.kind x.set w).toArray 86)).size=h5.size+1:=by simp
     have hk6:=(hk5.ah ep).ext hx6 (by show ¬_=_;omega);have hkr6:=(hkr5.ah ep).ext hx6 (by show ¬_=_;omega);have hn4:¬(mp=rb\/Array.size h5<=mp):=hn3;refine bL 3 rfl (fun h' e=>uo rfl rfl (hmap6.ext e hn4) hval) ?_;refine bL 6 rfl (fun h' e=>aq (H.sj _ _ _ _) rfl) ?_;have hsl6:aP jg h6 (fun b=>b<h.size+1\/b=nb) (.slice (some ⟨h5.size,0,none⟩) 1 1) [x]:=hsl.mv (Mv.gq hx6 fun b hb hn=>⟨fun(k:b=rb)=>hn (.inl (by omega)),hn⟩);refine qp 7 rfl (dx rfl rfl hk6 (aA.one (aA.of (bp c) 0 hsl6))) ?_;rintro _ h8 ⟨rfl,hk8,hx8,hz8⟩;refine⟨nofun,?_⟩;refine lg ?_;refine aa ?_;have hk8:aB h8 nb 86 (aX (bp c) 0 (.slice (some ⟨h5.size,0,none⟩) 1 1)):=hk8;exact ih (.mk (bp c) 0 [x],.slice (some ⟨h5.size,0,none⟩) 1 1,r) ⟨aB.ext hs6 hx8 (by show ¬_=_;omega),hk8,hkr6.ext hx8 (by show ¬_=_;omega),iq.only ((iq.ah e5 ep).trans hx6) hx8 (by omega),(aA.of (bp c) 0 hsl6).mv (Mv.gq hx8 fun b hb hn=>⟨fun(k:b=nb)=>hn (.inr k),hn⟩),by show r.length<=_;omega,hsg⟩ (by show r.length<(c::r).length;simp)
 · rw[oY (by omega)] at hsg;refine aa ?_;refine xp rfl (gj rfl hk5.row) ?_;refine bN rfl (dx rfl rfl hkr5 (aA.one hnd5)) ?_;rintro _ h6 ⟨rfl,hk6,hx6,hz6⟩;refine aa ?_;have hk6:aB h6 h.size 86 (aX x.kind x.set w):=hk6;refine jK (jI rfl hk6.row jJ) ?_;exact⟨x,m,by rw[hpc,<-hsg],⟨w,rfl,hnd5.mv (Mv.gq hx6 fun b hb hn=>⟨fun(k:b=h.size)=>hn (.inl (by omega)),fun(k:b<h.size)=>hn (.inl (by omega))⟩)⟩,aB.ext hs5 hx6 (by show ¬_=_;omega),iq.only e5 hx6 (Nat.le_refl _)⟩
theorem tw (ih:sC d lim) (hg:Sg h lim) (hrb:lim<=rb) (hs:St h rb l) (hd:l.length<=d) (hl:l.length<=1000000):an Tryd.prog 62 #[w7 rb] h (PR rb h (uw (bk d) l) (yq h.size)):=by
 have hlt:=hs.lt;have hrl:∀{s x r},bk d s=some (x,r)->r.length<=s.length:=fun h=>gH d h
 refine cV ?_;refine aa ?_;refine xo rfl (jf) ?_;rintro _ h1 ⟨rfl,hkr,he1,hz1⟩;refine aa ?_;have hkr:aB h1 h.size 86 (aX 0 0 (.slice none 0 0)):=hkr;generalize htg:kf (bk d) (l.length+1) l=tgt;have hrow:uw (bk d) l=tgt.map fun p=>(aG 2 p.1,p.2):=by unfold uw;rw[htg]
 have htg0:tgt.map (fun p=>(([]:List Nd)++p.1,p.2))=tgt:=by cases tgt<;>rfl
 refine fG (σ:=List Nd×Value×By) (fun q=>[(3,q.2.1)]) (fun q h'=>St h' rb q.2.2/\cN jg (vh h1.size) h' h1.size 86 q.2.1 q.1/\aB h' h.size 86 (aX 0 0 (.slice none 0 0))/\Ext (only rb) h h'/\q.2.2.length+q.1.length<=l.length/\(kf (bk d) (q.2.2.length+1) q.2.2).map (fun p=>(q.1++p.1,p.2))=tgt) (fun q=>q.2.2.length) (([],.slice none 0 0,l)) ⟨aB.ah hs he1,cN.nil _ _ _ _ _,hkr,ak.of he1,by show l.length+0<=_;omega,by rw[htg];exact htg0⟩ rfl ?_;rintro⟨acc,v,m⟩ h5 ⟨hs5,hv5,hkr5,e5,hm,hcon⟩ ih'
 try dsimp only
 dsimp only at hs5 hv5 hm hcon
 iterate 2 refine bT ?_
 refine jY [(24,.bool (!fl m))] rfl ?_ ?_
 · refine aa ?_;refine xp rfl (aE rfl hs5.cell) ?_;refine aa ?_;refine ie 9 (fun he=>?_) (fun he=>?_)
   · have hne:¬bs m=⟨#[]⟩:=of_decide_eq_true he;obtain⟨c,r,rfl⟩:=List.exists_cons_of_ne_nil (fun(e:m=[])=>hne (by rw[e];rfl));refine aa ?_;refine xp rfl (aE rfl hs5.cell) ?_;refine xp rfl (Al rfl rfl 0 rfl (jS rfl)) ?_;refine aa ?_;refine ie 17 (fun h124=>?_) (fun h124=>?_)
     · have h124:¬c=124:=fun e=>(of_decide_eq_true h124) ((bf rfl).2 e)
       refine aa ?_;refine xp rfl (aE rfl hs5.cell) ?_;refine xp rfl (Al rfl rfl 0 rfl (jS rfl)) ?_;refine aa ?_;exact bH rfl ⟨au rfl (by simp only[fl];rw[show (c ==124)=false by simpa using h124,Bool.false_or,show (c ==41)=decide (c=41) by rw[Bool.eq_iff_iff];simp,<-decide_not];exact decide_eq_decide.2 (not_congr (bf rfl))),sb rfl⟩
     · have h124:c=124:=(bf rfl).1 (Classical.not_not.1 (of_decide_eq_false h124));refine aa ?_;exact bH rfl ⟨au rfl (by simp[fl,h124]),sb rfl⟩
   · have hne:bs m=⟨#[]⟩:=Classical.not_not.1 (of_decide_eq_false he);obtain rfl:m=[]:=mQ hne;refine aa ?_;exact bH rfl ⟨au rfl (by rfl),sb rfl⟩
 · obtain⟨css,hc1,hc2,hc3⟩:=id hv5;have hlt5:=hkr5.lt;have hz5:=e5.size;refine jX (fun hgo=>?_) (fun hgo=>?_)
   · have hend:fl m=false:=by simpa using hgo
     have hcon':tgt=(match dh (bk d) m with|none=>none|some (x,r)=>((kf (bk d) (r.length+1) r).map fun p=>(x::p.1,p.2)).map (fun p=>(acc++p.1,p.2))):=by
      rw[<-hcon,kf,if_neg (by rw[hend];decide)];cases hp:dh (bk d) m with
      |none=>rfl
      |some q =>
       obtain⟨x,r⟩:=q;have:=ec hrl hp;simp only;rw[tA hrl m.length (r.length+1) r (by omega) (by omega)]
     refine aa ?_;refine xo rfl (sQ rfl (vM ih (hg.ext e5 (fun b (hb:b=rb)=>by omega)) hrb hs5 (by omega) (by omega)) ((fun _ _ ⟨hc,hp,hx⟩=>cF hc (by rw[hrow,hcon',hp];rfl) (e5.trans hx)))) ?_;rintro _ h6 ⟨x,r,hp,⟨w,rfl,hnd6⟩,hs6,hx6⟩;have hr6:=ec hrl hp;have hz6:=hx6.size;have hown:∀b,v.ownBlock=some b->h1.size<=b/\b<h5.size:=fun b hb=>hc2.lt hb
     have hc26:=hc2.ext hx6 (fun b hb (k:b=rb)=>by have:=hown b hb;omega);have hc36:∀(i:Nat) (cs:List Value) (x:Nd),css[i]? =some cs->acc[i]? =some x->jg.R h6 (fun b=>bw v.ownBlock b\/b<h1.size) cs x:=fun i cs x h1' h2'=>jg.mv (hc3 i cs x h1' h2') (Mv.gq hx6 fun b hb hn=>⟨fun(k:b=rb)=>hn (.inr (by show b<_;omega)),hn⟩)
     have hnd6':jg.R h6 (fun b=>bw v.ownBlock b\/b<h1.size) (aX x.kind x.set w) x:=aA.mv hnd6 ⟨Nat.le_refl _,fun b hb hn=>⟨rfl,fun k=>by
      have hn:¬b<h5.size:=hn
      rcases k with k|k
      · have:=hown b k.symm;omega
      · omega⟩⟩
     refine xo rfl (y3) ?_;rintro _ _ ⟨rfl,rfl⟩;refine xo rfl (aL.eF underlying84 H.Dp rfl rfl (hc26) rfl rfl (aA.one hnd6) (by omega) (by decide) (by omega)) ?_;rintro v7 h7 ⟨ho7,hx7,-,hv7⟩;refine aa ?_;have hrb7:¬bw v.ownBlock rb:=fun k=>by have:=hown rb k.symm;omega
     have hr7:¬bw v.ownBlock h.size:=fun k=>by have:=hown _ k.symm;omega
     have e7:Ext (only rb) h h7:=⟨by have:=hx7.size;omega,fun b hb hn=>by rw[hx7.block b (by omega) (fun k=>by have:=hown b k.symm;omega)];exact(e5.trans hx6).block b hb hn⟩
     rw[hp] at hcon';exact ih' (acc++[x],v7,r) ⟨aB.ext hs6 hx7 hrb7,cN.fo hc1 hc36 ho7 hx7 hv7 hnd6',(hkr5.ext hx6 (by show ¬_=_;omega)).ext hx7 hr7,e7,by show r.length+(acc++[x]).length<=_;rw[List.length_append,List.length_singleton];omega,by rw[hcon'];simp only[Option.map_map];congr 1;funext p;simp⟩
   · have hend:fl m=true:=by simpa using hgo
     rw[kf,if_pos hend] at hcon;have hsl:aP jg h5 (vh h1.size) v acc:=hv5.read (fun b hb (k:b<h1.size)=>by omega) (fun b _ k=>k);refine aa ?_;refine xo rfl (bz rfl (nI 2 hsl)) ?_;rintro _ h6 ⟨⟨w,rfl,hnd6⟩,he6⟩;refine bN rfl (dx rfl rfl ((hkr5.ah he6)) (aA.one hnd6)) ?_;rintro _ h7 ⟨rfl,hk7,hx7,hz7⟩;refine aa ?_;have hk7:aB h7 h.size 86 (aX (aG 2 acc).kind (aG 2 acc).set w):=hk7;have hz6:=he6.size;refine jK (jI rfl hk7.row jJ) ?_;exact⟨aG 2 acc,m,by rw[hrow,<-hcon];simp,⟨w,rfl,cO hnd6 (by omega) hx7 (fun b _ (hb:b=h.size)=>by omega)⟩,aB.ext (aB.ah hs5 he6) hx7 (by show ¬_=_;omega),iq.only (iq.ah e5 he6) hx7 (Nat.le_refl _)⟩
theorem zk (ih:sC d lim) (hg:Sg h lim) (hrb:lim<=rb) (hs:St h rb l) (hd:l.length<=d) (hl:l.length<=1000000):an Tryd.prog 47 #[w7 rb] h (PR rb h (bk (d+1) l) (yq h.size)):=by
 have hlt:=hs.lt;have hrl:∀{s x r},bk d s=some (x,r)->r.length<=s.length:=fun h=>gH d h
 have hrows:bk (d+1) l=match uw (bk d) l with|none=>none|some (x,r)=>pQ (bk d) [x] r:=qM hrl [] l
 refine cV ?_;refine aa ?_;refine xo rfl (jf) ?_;rintro _ h1 ⟨rfl,hkr,he1,hz1⟩;refine aa ?_;refine xo rfl (sQ rfl (tw ih (hg.ext he1 (fun _ k=>k.elim)) hrb (aB.ah hs he1) hd hl) ((fun _ _ ⟨hc,hp,hx⟩=>cF hc (by rw[hrows,hp]) ((ak.of he1).trans hx)))) ?_;rintro _ h2 ⟨x0,m0,hp0,⟨w0,rfl,hnd2⟩,hs2,hx2⟩;have hkr:aB h1 h.size 86 (aX 0 0 (.slice none 0 0)):=hkr;have hz2:=hx2.size;have hm0:=vH hrl hp0;have ep:=Ext.push (fun _=>False) h2 (.cells (aX x0.kind x0.set w0).toArray 86);have hv0:cN jg (vh h1.size) (h2.push (.cells (aX x0.kind x0.set w0).toArray 86)) h1.size 86 (.slice (some ⟨h2.size,0,none⟩) 1 1) [x0]:=cN.lT (e:=jg) hnd2 hz2;have hs3:St _ rb m0:=aB.ah hs2 ep;have hkr3:=(hkr.ext hx2 (by show ¬_=_;omega)).ah ep;have e3:=iq.ah ((ak.of he1).trans hx2) ep;rw[hp0] at hrows;simp only at hrows;generalize htg:pQ (bk d) [x0] m0=tgt at hrows;refine xo rfl (y3) ?_;rintro _ _ ⟨rfl,rfl⟩;refine aa ?_;refine C3 (σ:=List Nd×Value×By) (fun q=>[(0,w7 rb),(2,.pointer (some ⟨h.size,0,none⟩)),(3,q.2.1)]) (fun q h'=>St h' rb q.2.2/\cN jg (vh h1.size) h' h1.size 86 q.2.1 q.1/\aB h' h.size 86 (aX 0 0 (.slice none 0 0))/\Ext (only rb) h h'/\(q.2.2.length<=l.length/\q.2.2.length+q.1.length<=l.length+1)/\pQ (bk d) q.1 q.2.2=tgt) (fun q=>q.2.2.length) (([x0],.slice (some ⟨h2.size,0,none⟩) 1 1,m0)) ⟨hs3,hv0,hkr3,e3,⟨by show m0.length<=_;omega,by show m0.length+1<=_;omega⟩,htg⟩ ?_;rintro⟨acc,v,m⟩ h5 ⟨hs5,hv5,hkr5,e5,⟨hml,hm⟩,hcon⟩ ih'
 try dsimp only
 dsimp only at hs5 hv5 hml hm hcon;refine aa ?_;refine xo rfl (bz rfl (jm 124 hs5 (by omega))) ?_;rintro _ h6 ⟨hor,hx6⟩;refine aa ?_;have hlt5:=hkr5.lt;have hz5:=e5.size;have hz6:=hx6.size;have hkr6:=hkr5.ext hx6 (by show ¬_=_;omega);have e6:=e5.trans hx6;have hv6:cN jg (vh h1.size) h6 h1.size 86 v acc:=hv5.mv (hx6.mono fun b _ (k:b=rb)=>(by omega:b<h1.size)) (fun b hb (k:b<h1.size)=>by omega) (fun b _ k=>k);obtain⟨css,hc1,hc2,hc3⟩:=id hv6
 rcases hor with ⟨a1,rfl,hs6⟩|⟨a1,rfl,hs6⟩
 · obtain⟨c,t,rfl⟩:=List.exists_cons_of_ne_nil (fun(e:m=[])=>by rw[e] at a1;cases a1);have hs6:St h6 rb t:=hs6;simp only[List.length_cons] at hm hml
   have hcon':tgt=match uw (bk d) t with|none=>none|some (x,r)=>pQ (bk d) (acc++[x]) r:=by
    have hG:=qM (rows:=bk d) hrl acc t;rw[<-hcon];refine Eq.trans ?_ hG;unfold pQ;rw[if_pos a1];rfl
   refine n6 rfl (by decide) ?_;refine aa ?_;refine xo rfl (sQ rfl (tw ih (hg.ext e6 (fun b (hb:b=rb)=>by omega)) hrb hs6 (by omega) (by omega)) ((fun _ _ ⟨hc,hp,hx⟩=>cF hc (by rw[hrows,hcon',hp]) (e6.trans hx)))) ?_;rintro _ h7 ⟨x,r,hp,⟨w,rfl,hnd7⟩,hs7,hx7⟩;have hr7:=vH hrl hp;have hz7:=hx7.size;have hown:∀b,v.ownBlock=some b->h1.size<=b/\b<h6.size:=fun b hb=>hc2.lt hb
   have hc27:=hc2.ext hx7 (fun b hb (k:b=rb)=>by have:=hown b hb;omega);have hc37:∀(i:Nat) (cs:List Value) (x:Nd),css[i]? =some cs->acc[i]? =some x->jg.R h7 (fun b=>bw v.ownBlock b\/b<h1.size) cs x:=fun i cs x h1' h2'=>jg.mv (hc3 i cs x h1' h2') (Mv.gq hx7 fun b hb hn=>⟨fun(k:b=rb)=>hn (.inr (by show b<_;omega)),hn⟩)
   have hnd7':jg.R h7 (fun b=>bw v.ownBlock b\/b<h1.size) (aX x.kind x.set w) x:=aA.mv hnd7 ⟨Nat.le_refl _,fun b hb hn=>⟨rfl,fun k=>by
    have hn:¬b<h6.size:=hn
    rcases k with k|k
    · have:=hown b k.symm;omega
    · omega⟩⟩
   refine xo rfl (y3) ?_;rintro _ _ ⟨rfl,rfl⟩;refine xo rfl (aL.eF underlying84 H.Dp rfl rfl (hc27) rfl rfl (aA.one hnd7) (by omega) (by decide) (by omega)) ?_;rintro v8 h8 ⟨ho8,hx8,-,hv8⟩;refine aa ?_;have hrb8:¬bw v.ownBlock rb:=fun k=>by have:=hown rb k.symm;omega
   have hr8:¬bw v.ownBlock h.size:=fun k=>by have:=hown _ k.symm;omega
   have e8:Ext (only rb) h h8:=⟨by have:=hx8.size;omega,fun b hb hn=>by rw[hx8.block b (by omega) (fun k=>by have:=hown b k.symm;omega)];exact(e6.trans hx7).block b hb hn⟩
   rw[hp] at hcon';exact ih' (acc++[x],v8,r) ⟨aB.ext hs7 hx8 hrb8,cN.fo hc1 hc37 ho8 hx8 hv8 hnd7',(hkr6.ext hx7 (by show ¬_=_;omega)).ext hx8 hr8,e8,⟨by show r.length<=_;omega,by show r.length+(acc++[x]).length<=_;rw[List.length_append,List.length_singleton];omega⟩,hcon'.symm⟩ (by show r.length<(c::t).length;simp only[List.length_cons];omega)
 · refine oe rfl (by decide) ?_;have hsl:aP jg h6 (vh h1.size) v acc:=hv6.read (fun b hb (k:b<h1.size)=>by omega) (fun b _ k=>k);have hfin:tgt=some (aG 3 acc,m):=by rw[<-hcon];unfold pQ;rw[if_neg a1]
   refine aa ?_;refine xo rfl (bz rfl (nI 3 hsl)) ?_;rintro _ h7 ⟨⟨w,rfl,hnd7⟩,he7⟩;refine bN rfl (dx rfl rfl ((hkr6.ah he7)) (aA.one hnd7)) ?_;rintro _ h8 ⟨rfl,hk8,hx8,hz8⟩;refine aa ?_;have hk8:aB h8 h.size 86 (aX (aG 3 acc).kind (aG 3 acc).set w):=hk8;have hz7:=he7.size;refine jK (jI rfl hk8.row jJ) ?_;exact⟨aG 3 acc,m,by rw[hrows,hfin],⟨w,rfl,cO hnd7 (by omega) hx8 (fun b _ (hb:b=h.size)=>by omega)⟩,aB.ext (aB.ah hs6 he7) hx8 (by show ¬_=_;omega),iq.only (iq.ah e6 he7) hx8 (Nat.le_refl _)⟩
theorem yE (lim:Nat):∀d,sC d lim
 | 0=>fun _ _ l _ _ _ h _=>absurd h (Nat.not_lt_zero _)
 |d+1=>fun _ _ _ hg hrb hs hd hl=>zk (yE lim d) hg hrb hs (by omega) hl
end
end Go.Proofs.YtbbjkiigpdjaaaaDoor
namespace Go.Proofs.YtbbjkiigpdjaaaaDoor
open Go.Proofs.Tryd
open Go Go.Lw Go.RowKit
set_option maxRecDepth 20000 set_option maxHeartbeats 4000000
section
variable {h:af}{nb eb:Nat}
abbrev lM:List Value:=aX 0 0 (.slice none 0 0)
theorem yb {cs:List Value}{v0:Value}(hcs:cs.length=6) (hk:aB h nb 86 cs) (he:aB h eb 26 [v0]) (hne:nb≠eb) (B w:World) (ha:At B h w) :
 CallsD Tryd.prog 46 #[.pointer (some ⟨nb,0,none⟩),.pointer (some ⟨eb,0,none⟩)] (.panicking [{ v:=qQ,recovered:=false }]) w fun e u' w' =>
  (∃r,e= .returned r)/\u'= .panicking [{ v:=qQ,recovered:=true }]/\∃h',At B h' w'/\aB h' nb 86 lM/\aB h' eb 26 [.int .i64 10]/\Ext (fun b=>b=nb\/b=eb) h h':=by
 refine kQ (v:=qQ) (vs:=[.pointer (some ⟨nb,0,none⟩),.pointer (some ⟨eb,0,none⟩)]) (u':=.panicking [{ v:=qQ,recovered:=true }]) func46 rfl rfl rfl rfl rfl rfl rfl rfl rfl rfl (fun c₀ cs hu=>.inl (by simp[recoverD,hu])) (fun a hf=>?_);refine wp_seq (wp_region ?_);refine(show RW Tryd.prog Tryd.f46.ntmps _ 0 _ h (fun ρ' h'=>h'=h/\Sub [(5,.bool true),(2,qQ),(0,.pointer (some ⟨nb,0,none⟩)),(1,.pointer (some ⟨eb,0,none⟩))] ρ') (fun _ _=>False) from ?_) B a w hf ha _ ?_ (fun _ _ _ _ _ _ k=>k.elim)
 · refine RW.bV rfl rfl rfl rfl (dQ rfl) ?_;refine RW.bV rfl rfl rfl rfl (av.vR underlying20 rfl (.inr ⟨_,_,rfl⟩)) ?_;exact fK rfl ⟨rfl,rfl,rfl,rfl,rfl,trivial⟩
 rintro ρ' h' a1 w1 hf1 ha1 ⟨rfl,hsub⟩;have hf1:=hf1.sub hsub;refine wp_cond_true (hf1.eval (x:=.tmp 5) rfl) ?_;refine wp_seq (wp_region ?_);refine(show RW Tryd.prog Tryd.f46.ntmps _ 0 _ h' (fun ρ' g=>g=h'/\Sub [(0,.pointer (some ⟨nb,0,none⟩)),(1,.pointer (some ⟨eb,0,none⟩))] ρ') (fun _ _=>False) from ?_) B a1 w1 hf1 ha1 _ ?_ (fun _ _ _ _ _ _ k=>k.elim)
 · refine RW.bV rfl rfl rfl rfl (dQ rfl) ?_;refine RW.bV rfl rfl rfl rfl (av.sR underlying109 rfl) ?_;exact fK rfl ⟨rfl,rfl,rfl,trivial⟩
 rintro ρ'' h'' a2 w2 hf2 ha2 ⟨rfl,hsub2⟩;have hf2:=hf2.sub hsub2;refine wp_region ?_;refine(show RW Tryd.prog Tryd.f46.ntmps _ 0 _ h'' (fun _ g=>aB g nb 86 lM/\aB g eb 26 [.int .i64 10]/\Ext (fun b=>b=nb\/b=eb) h'' g) (fun _ _=>False) from ?_) B a2 w2 hf2 ha2 _ ?_ (fun _ _ _ _ _ _ k=>k.elim)
 · refine RW.bV rfl rfl rfl rfl (aq (H.Bt ) rfl) ?_;refine RW.Aj rfl rfl rfl (aL.iN H.qt rfl rfl hk rfl (by rw[hcs];decide) (by first|decide|simp[Value.oneCell'])) ?_;rintro _ h3 ⟨rfl,hk3,hx3,hz3⟩
   have hk3:aB h3 nb 86 lM:=by
    rw[AP (by rw[hcs];rfl)] at hk3;exact hk3
   refine RW.Aj rfl rfl rfl (aL.ng H.C8 rfl rfl (he.ext hx3 (fun e=>hne e.symm)) (by simp) rfl) ?_;rintro _ h4 ⟨rfl,hk4,hx4,hz4⟩;exact fK rfl ⟨hk3.ext hx4 (fun e=>hne e),hk4,(hx3.mono fun _ _ k=>.inl k).trans (hx4.mono fun _ _ k=>.inr k)⟩
 rintro _ h5 a5 w5 hf5 ha5 ⟨hq1,hq2,hq3⟩;exact⟨hf5.nd,_,fM hf5 ha5 .nil,⟨_,rfl⟩,rfl,h5,ha5,hq1,hq2,hq3⟩
theorem yc (B w:World) (ha:At B h w) :
 CallsD Tryd.prog 46 #[.pointer (some ⟨nb,0,none⟩),.pointer (some ⟨eb,0,none⟩)] .returning w fun e u' w'=>(∃r,e= .returned r)/\u'= .returning/\At B h w':=by
 refine kQ (v:=.nilIface) (vs:=[.pointer (some ⟨nb,0,none⟩),.pointer (some ⟨eb,0,none⟩)]) (u':=.returning) func46 rfl rfl rfl rfl rfl rfl rfl rfl rfl rfl (fun c₀ cs hu=>.inr ⟨by simp[recoverD,hu],rfl,rfl⟩) (fun a hf=>?_);refine wp_seq (wp_region ?_);refine(show RW Tryd.prog Tryd.f46.ntmps _ 0 _ h (fun ρ' h'=>h'=h/\Sub [(5,.bool false)] ρ') (fun _ _=>False) from ?_) B a w hf ha _ ?_ (fun _ _ _ _ _ _ k=>k.elim)
 · refine RW.bV rfl rfl rfl rfl (dQ rfl) ?_;refine RW.bV rfl rfl rfl rfl (av.vR underlying20 rfl (.inl rfl)) ?_;exact fK rfl ⟨rfl,rfl,trivial⟩
 rintro ρ' h' a1 w1 hf1 ha1 ⟨rfl,hsub⟩;have hf1:=hf1.sub hsub;refine wp_cond_false (hf1.eval (x:=.tmp 5) rfl) (wp_skip ?_);exact⟨hf1.nd,_,fM hf1 ha1 .nil,⟨_,rfl⟩,rfl,ha1⟩
theorem q9 {cs:List Value}{v0:Value}{ρ:Env}{R:Ending->af->Prop}(h2:ρ.at 2=some (.pointer (some ⟨nb,0,none⟩))) (h3:ρ.at 3=some (.pointer (some ⟨eb,0,none⟩))) (hcs:cs.length=6) (hk:aB h nb 86 cs) (he:aB h eb 26 [v0]) (hne:nb≠eb)
 (hR:∀h',Ext (fun b=>b=nb\/b=eb) h h'->R (.returned (.tuple #[.agg lM.toArray,.int .i64 10])) h') :
 lG Tryd.prog f28 [{ target:=.fn (.func 46) #[.pointer (some ⟨nb,0,none⟩),.pointer (some ⟨eb,0,none⟩)],args:= #[] }] (.panicking [{ v:=qQ,recovered:=false }]) ρ h R:=by
 intro B a w hf ha;refine leaves_cons (f:=46) (args:= #[.pointer (some ⟨nb,0,none⟩),.pointer (some ⟨eb,0,none⟩)]) (by simp) (lR func46 rfl (by decide +kernel)) ?_;refine(yb hcs hk he hne B w ha).mono ?_;rintro e u' w' ⟨⟨r,rfl⟩,rfl,h',ha',hk',he',hx'⟩;refine⟨_,fM hf.zero ha' (.cons (fT.Da H.zW H.qt h2 hk'.row rfl) (.cons (fT.cell H.DC h3 (he'.cell (i:=0) rfl)) .nil)),h',ha',hR h' hx'⟩
theorem xL {x:Nd}{w0:Value}{e0:Int}{ρ:Env}{R:Ending->af->Prop}(h2:ρ.at 2=some (.pointer (some ⟨nb,0,none⟩))) (h3:ρ.at 3=some (.pointer (some ⟨eb,0,none⟩))) (hk:aB h nb 86 (aX x.kind x.set w0)) (he:aB h eb 26 [.int .i64 e0])
 (hR:R (.returned (.tuple #[.agg (aX x.kind x.set w0).toArray,.int .i64 e0])) h) :
 lG Tryd.prog f28 [{ target:=.fn (.func 46) #[.pointer (some ⟨nb,0,none⟩),.pointer (some ⟨eb,0,none⟩)],args:= #[] }] .returning ρ h R:=by
 intro B a w hf ha;refine leaves_cons (f:=46) (args:= #[.pointer (some ⟨nb,0,none⟩),.pointer (some ⟨eb,0,none⟩)]) (by simp) (lR func46 rfl (by decide +kernel)) ?_;refine(yc B w ha).mono ?_;rintro e u' w' ⟨⟨r,rfl⟩,rfl,ha'⟩;refine⟨_,fM hf.zero ha' (.cons (fT.Da H.zW H.qt h2 hk.row rfl) (.cons (fT.cell H.DC h3 (he.cell (i:=0) rfl)) .nil)),h,ha',hR⟩
def BE (h h':af) (s:By) (r:Value):Prop:=∃w,r= .tuple #[.agg (aX (az s).1.kind (az s).1.set w).toArray,.int .i64 (az s).2]/\aA h' (vh h.size) (aX (az s).1.kind (az s).1.set w) (az s).1
theorem vN {lim:Nat}(hg:Sg h lim) (hlim:lim<=h.size) (s:By) (hs:s.length<=1000000):an Tryd.prog 28 #[.string (bs s)] h (b8 fun r h'=>BE h h' s r/\ak h h'):=by
 have hsz:=dF s;refine cV ?_;refine aa ?_;refine xo rfl (jf) ?_;rintro _ h1 ⟨rfl,hk1,he1,hz1⟩;refine xo rfl (jf) ?_;rintro _ h2 ⟨rfl,hk2,he2,hz2⟩;refine aa ?_;have hk1:aB h1 h.size 86 lM:=hk1;have hk2:aB h2 h1.size 26 [.int .i64 0]:=hk2;have hk12:=hk1.ah he2;have e2:=he1.trans he2;refine bF (fun hbig=>?_) (fun hbig=>?_)
 · have hE:az s=(iz,3):=by unfold az;rw[if_pos (by omega)]
   refine aa ?_;refine xp rfl (aq (H.Bt ) rfl) ?_;refine bN rfl (dx rfl rfl hk12) ?_;rintro _ h3 ⟨rfl,hk3,hx3,hz3⟩;refine bN rfl (n8 rfl rfl ((hk2.ext hx3 (by show ¬_=_;omega)))) ?_;rintro _ h4 ⟨rfl,hk4,hx4,hz4⟩;refine aa ?_;have hk3:aB h3 h.size 86 lM:=hk3;have hk4:aB h4 h1.size 26 [.int .i64 3]:=hk4;refine jK (jI rfl ((hk3.ext hx4 (by show ¬_=_;omega)).row) (F0 rfl (hk4.cell (i:=0) rfl) jJ)) ?_;refine⟨_,rfl,⟨.slice none 0 0,by rw[hE];rfl,by rw[hE];exact bg _ _ 0 0⟩,ak.only (ak.only e2 hx3 (Nat.le_refl _)) hx4 (by omega)⟩
 · iterate 2 refine bT ?_
   refine G.Dv (caps:=[.pointer (some ⟨h.size,0,none⟩),.pointer (some ⟨h1.size,0,none⟩)]) func28 rfl rfl rfl rfl rfl rfl rfl rfl rfl rfl rfl ?_;have hE:az s=match dm s with|some x=>(x,0)|none=>(iz,10):=by unfold az;rw[if_neg (by omega)];rfl
   refine oR rfl ?_;refine GD.oA func28 rfl ?_;refine iK.bV rfl rfl rfl rfl (dQ rfl) ?_;refine iK.bV rfl rfl rfl rfl (aq (H.Ck _) rfl) ?_;refine iK.B3 rfl rfl rfl rfl (aL.Ev rfl) ?_;rintro _ h3 ⟨rfl,hk3,he3,hz3⟩;refine iK.bV rfl rfl rfl rfl (av.assign rfl) ?_;refine kV rfl ?_;refine GD.sub (ρ':=[(0,_),(2,_),(3,_),(4,_),(7,_)]) ⟨rfl,rfl,rfl,rfl,rfl,trivial⟩ ?_;refine oR rfl ?_;refine GD.oA func28 rfl ?_;refine iK.bV rfl rfl rfl rfl (dQ rfl) ?_;have hk3:aB h3 h2.size 112 [.string (bs s)]:=hk3;have hg3:Sg h3 lim:=hg.ext (e2.trans he3) (fun _ k=>k.elim);have hrows:=yE lim (s.length+1) h3 h2.size s hg3 (by omega) hk3 (Nat.lt_succ_self _) hs;have hk13:=hk12.ah he3;have hk23:=hk2.ah he3;have e3:=e2.trans he3;refine iK.B3 rfl rfl rfl rfl (gY (vs:=[_]) func47 rfl H.Fj rfl (an.DV (hrows) ((fun _ h' ⟨hc,hp,hx⟩=>by rw[hc];exact q9 rfl rfl rfl (hk13.ext hx (by show ¬_=_;omega)) (hk23.ext hx (by show ¬_=_;omega)) (by omega) (fun h'' hx2=>⟨_,rfl,⟨.slice none 0 0,by rw[hE];unfold dm;rw[hp];rfl,by rw[hE];unfold dm;rw[hp];exact bg _ _ 0 0⟩,⟨by have:=hx.size;have:=hx2.size;have:=e3.size;omega,fun b hb _=>by rw[hx2.block b (by have:=hx.size;omega) (by omega),hx.block b (by omega) (by show ¬_=_;omega)];exact e3.block b hb (fun k=>k)⟩⟩))))) ?_;rintro _ h4 ⟨x,r,hp,⟨w,rfl,hnd⟩,hs4,hx4⟩;have hz4:=hx4.size;have hk14:=hk13.ext hx4 (by show ¬_=_;omega);have hk24:=hk23.ext hx4 (by show ¬_=_;omega);have e4:ak h h4:=ak.only e3 hx4 (by omega);refine iK.Aj rfl rfl rfl (aL.iN H.qt rfl rfl hk14 (by first|rfl|(simp;done)|(simp;omega)) (by first|decide|exact of_decide_eq_true rfl|(simp;done)|(simp;omega)) (aA.one hnd)) ?_;rintro _ h5 ⟨rfl,hk5,hx5,hz5⟩;refine kV rfl ?_;refine GD.sub (ρ':=[(0,_),(2,_),(3,_),(4,_),(7,_)]) ⟨rfl,rfl,rfl,rfl,rfl,trivial⟩ ?_;refine oR rfl ?_;refine oR rfl ?_;refine GD.oA func28 rfl ?_;refine iK.bV rfl rfl rfl rfl (dQ rfl) ?_;refine iK.bV rfl rfl rfl rfl (nZ rfl) ?_;refine iK.bV rfl rfl rfl rfl (fL (off:=0) underlying112 rfl rfl H.DY rfl) ?_;have hk5:aB h5 h.size 86 (aX x.kind x.set w):=hk5;have hk25:=hk24.ext hx5 (by show ¬_=_;omega);have hs5:St h5 h2.size r:=aB.ext hs4 hx5 (by show ¬_=_;omega);have hnd5:aA h5 (vh h3.size) (aX x.kind x.set w) x:=cO hnd (Nat.le_refl _) hx5 (fun b _ (hb:b=h.size)=>by omega);have e5:=ak.only e4 hx5 (Nat.le_refl _);refine iK.bV rfl rfl rfl rfl (dR H.ER rfl hs5.cell) ?_;refine iK.bV rfl rfl rfl rfl (av.AT rfl rfl) ?_;refine kV rfl ?_;refine GD.sub (ρ':=[(0,_),(2,_),(3,_),(4,_),(7,_),(19,_)]) ⟨rfl,rfl,rfl,rfl,rfl,rfl,trivial⟩ ?_;refine DH rfl rfl (fun hr=>?_) (fun hr=>?_)
   · have hr:r≠[]:=fun e=>hr (by rw[e];rfl)
     have hpn:dm s=none:=by
      unfold dm;rw[hp];cases r with
      |nil=>exact absurd rfl hr
      |cons c t=>rfl
     refine GD.oA func28 rfl ?_;refine iK.bV rfl rfl rfl rfl (aq (H.fB ) rfl) ?_;refine iK.bV rfl rfl rfl rfl (iC H.CU rfl) ?_;refine iK.Aj rfl rfl rfl (cq (Φ:=fun _ _=>False) rfl (q9 rfl rfl rfl hk5 hk25 (by omega) (fun h'' hx2=>⟨_,rfl,⟨.slice none 0 0,by rw[hE,hpn];rfl,by rw[hE,hpn];exact bg _ _ 0 0⟩,⟨by have:=hx2.size;have:=e5.size;omega,fun b hb _=>by rw[hx2.block b (by have:=e5.size;omega) (by omega)];exact e5.block b hb (fun k=>k)⟩⟩))) ?_;rintro _ _ hpn;exact hpn.elim
   · obtain rfl:r=[]:=mQ (Classical.not_not.1 hr);have hpn:dm s=some x:=by unfold dm;rw[hp]
     refine Cz rfl ?_;refine oR rfl ?_;refine GD.oA func28 rfl ?_;refine iK.bV rfl rfl rfl rfl (av.iS H.zW H.qt rfl hk5.row (by first|rfl|(simp;done)|(simp;omega))) ?_;refine iK.Aj rfl rfl rfl (aL.iN H.qt rfl rfl hk5 (by first|rfl|(simp;done)|(simp;omega)) (by first|decide|exact of_decide_eq_true rfl|(simp;done)|(simp;omega)) (aA.one hnd5)) ?_;rintro _ h6 ⟨rfl,hk6,hx6,hz6⟩;refine iK.Aj rfl rfl rfl (aL.ng H.C8 rfl rfl (hk25.ext hx6 (by show ¬_=_;omega)) (by first|decide|exact of_decide_eq_true rfl|(simp;done)|(simp;omega)) rfl) ?_;rintro _ h7 ⟨rfl,hk7,hx7,hz7⟩;refine kV rfl ?_;refine GD.sub (ρ':=[(0,_),(2,_),(3,_),(4,_),(7,_),(19,_)]) ⟨rfl,rfl,rfl,rfl,rfl,rfl,trivial⟩ ?_;have hk6:aB h6 h.size 86 (aX x.kind x.set w):=hk6;have hk7:aB h7 h1.size 26 [.int .i64 0]:=hk7;have hk17:=hk6.ext hx7 (by show ¬_=_;omega);have e7:=ak.only (ak.only e5 hx6 (Nat.le_refl _)) hx7 (by omega);have hnd7:aA h7 (vh h.size) (aX x.kind x.set w) x:=cO (cO hnd5 (Nat.le_refl _) hx6 (fun b _ (hb:b=h.size)=>by omega)) (by omega) hx7 (fun b _ (hb:b=h1.size)=>by omega);refine DG func28 rfl ?_;exact xL rfl rfl hk17 hk7 ⟨_,rfl,⟨w,by rw[hE,hpn],by rw[hE,hpn];exact hnd7⟩,e7⟩
end
end Go.Proofs.YtbbjkiigpdjaaaaDoor
namespace Go.Proofs.YtbbjkiigpdjaaaaDoor
section
variable {l:List Nd}{s:By}{x:Nd}{i:Nat}
structure aH where
  kind:Nat
  set:Nat
  to:List Nat
  rule:Nat
end
mutual
def lay:Nd->List aH->Nat->List aH×Nat
  |.mk k s kids,ss,to =>
    if k=1 then (ss++[⟨1,s,[to],0⟩],ss.length)
    else if k=2 then aD kids ss to
    else if k=3 then ((aC kids ss to).1++[⟨0,0,(aC kids ss to).2,0⟩],(aC kids ss to).1.length)
    else if k=6 then ((aM kids ss to).1++[⟨0,0,[(aM kids ss to).2,to],0⟩],(aM kids ss to).1.length)
    else if k=4\/k=5 then
      ((aM kids (ss++[⟨0,0,[],0⟩]) ss.length).1.set ss.length ⟨0,0,[(aM kids (ss++[⟨0,0,[],0⟩]) ss.length).2,to],0⟩,
        if k=5 then (aM kids (ss++[⟨0,0,[],0⟩]) ss.length).2 else ss.length)
    else (ss,to)
def aD:List Nd->List aH->Nat->List aH×Nat
  | [],ss,to=>(ss,to)
  |x::r,ss,to=>lay x (aD r ss to).1 (aD r ss to).2
def aC:List Nd->List aH->Nat->List aH×List Nat
  | [],ss,_=>(ss,[])
  |x::r,ss,to=>((aC r (lay x ss to).1 to).1,(lay x ss to).2::(aC r (lay x ss to).1 to).2)
def aM:List Nd->List aH->Nat->List aH×Nat
  | [],ss,to=>(ss,to)
  |x::_,ss,to=>lay x ss to
end
mutual
def fV:Nd->Nat
  |.mk _ _ kids=>cQ kids+1
def cQ:List Nd->Nat
  | []=>0
  |x::r=>fV x+cQ r
end
mutual
def ig:Nd->Bool
  |.mk k _ kids=>(!(k ==4 ||k ==5 ||k ==6) ||kids.length ==1) && ic kids
def ic:List Nd->Bool
  | []=>true
  |x::r=>ig x && ic r
end
section
variable {l:List Nd}{s:By}{x:Nd}{i:Nat}
theorem gz (x:Nd):0<fV x:=by cases x;simp[fV]
theorem dY:∀(l m:List Nd),cQ (l++m)=cQ l+cQ m
  | [],m=>by simp[cQ]
  |x::l,m=>by simp only[List.cons_append,cQ];rw[dY l m];omega
theorem jj:∀(l m:List Nd),ic (l++m)=(ic l && ic m)
  | [],m=>by simp[ic]
  |x::l,m=>by simp only[List.cons_append,ic];rw[jj l m,Bool.and_assoc]
theorem qa:∀{l:List Nd}{i:Nat}{x:Nd},l[i]? =some x->fV x<=cQ l
  | [],i,x,h=>by simp at h
  |y::l,0,x,h=>by simp at h;subst h;simp[cQ]
  |y::l,i+1,x,h=>by have:=qa (l:=l) (i:=i) (by simpa using h);simp only[cQ];omega
theorem mZ:∀{l:List Nd}{i:Nat}{x:Nd},ic l=true->l[i]? =some x->ig x=true
  | [],i,x,_,h=>by simp at h
  |y::l,0,x,hw,h=>by simp at h;subst h;simp only[ic,Bool.and_eq_true] at hw;exact hw.1
  |y::l,i+1,x,hw,h=>by simp only[ic,Bool.and_eq_true] at hw;exact mZ hw.2 (by simpa using h)
end
mutual
theorem cD:∀(x:Nd) (ss:List aH) (to:Nat),ss.length<=(lay x ss to).1.length/\(lay x ss to).1.length<=ss.length+fV x
  |.mk k s kids,ss,to=>by
    rw[lay];simp only[fV];split
    · simp
    · split
      · have:=eu kids ss to;omega
      · split
        · have:=cj kids ss to;simp only[List.length_append,List.length_singleton];omega
        · split
          · have:=cu kids ss to;simp only[List.length_append,List.length_singleton];omega
          · split
            · have:=cu kids (ss++[⟨0,0,[],0⟩]) ss.length;simp only[List.length_append,List.length_singleton] at this;simp only[List.length_set];omega
            · simp
theorem eu:∀(l:List Nd) (ss:List aH) (to:Nat),ss.length<=(aD l ss to).1.length/\(aD l ss to).1.length<=ss.length+cQ l
  | [],ss,to=>by simp[aD,cQ]
  |x::r,ss,to=>by
    rw[aD];have h1:=eu r ss to;have h2:=cD x (aD r ss to).1 (aD r ss to).2;simp only[cQ];omega
theorem cj:∀(l:List Nd) (ss:List aH) (to:Nat),ss.length<=(aC l ss to).1.length/\(aC l ss to).1.length<=ss.length+cQ l
  | [],ss,to=>by simp[aC,cQ]
  |x::r,ss,to=>by
    rw[aC];have h1:=cD x ss to;have h2:=cj r (lay x ss to).1 to;simp only[cQ];omega
theorem cu:∀(l:List Nd) (ss:List aH) (to:Nat),ss.length<=(aM l ss to).1.length/\(aM l ss to).1.length<=ss.length+cQ l
  | [],ss,to=>by simp[aM,cQ]
  |x::r,ss,to=>by
    rw[aM];have h1:=cD x ss to;simp only[cQ];omega
end
section
variable {l:List Nd}{s:By}{x:Nd}{i:Nat}
def Small (s:By) (p:Option (Nd×By)):Prop:=∀x r,p=some (x,r)->fV x+2*r.length<=2*s.length+1/\ig x=true
theorem ue (k:Nat) (l:List Nd):fV (aG k l)<=cQ l+1:=by
  unfold aG;split
  · simp[iz,fV,cQ]
  · simp[cQ]
  · simp[fV]
theorem ud {k:Nat}(hk:k=2\/k=3) (h:ic l=true):ig (aG k l)=true:=by
  unfold aG;split
  · rfl
  · simp only[ic,Bool.and_eq_true] at h;exact h.1
  · simp only[ig,h,Bool.and_true];rcases hk with rfl|rfl<;>rfl
theorem oX:∀(s:By) (n:Nd),ig n=true->fV (cg n s).1+2*(cg n s).2.length<=fV n+2*s.length/\ig (cg n s).1=true
  | [],n,hw=>by simp[cg,hw]
  |c::r,n,hw=>by
    rw[cg];split
    · simp[hw]
    · rename_i hs;have hw':ig (.mk (bp c) 0 [n])=true:=by simp[ig,ic,hw]
      have h:=oX r (.mk (bp c) 0 [n]) hw';refine⟨?_,h.2⟩;have h1:=h.1;simp only[fV,cQ,List.length_cons] at h1 ⊢;omega
theorem vL {rows:By->Option (Nd×By)}(hr:∀s,Small s (rows s)){r:By}(h:dh rows s=some (x,r)):fV x+2*r.length+1<=2*s.length/\ig x=true:=by
  have leaf:∀k st,(k=0\/k=1)->ig (.mk k st [])=true:=fun k st hk=>by rcases hk with rfl|rfl<;>rfl
  have key:∀y t,bP rows s=some (y,t)->fV y+2*t.length+1<=2*s.length/\ig y=true:=by
    intro y t ha;have hlen:∀(k st:Nat),y= .mk k st []->t.length<s.length->fV y+2*t.length+1<=2*s.length:=fun k st hy ht=>by subst hy;simp only[fV,cQ];omega
    unfold bP at ha;split at ha
    · cases ha
    · rename_i c u;split at ha
      · split at ha
        · cases ha
        · rename_i n t' ht;split at ha
          · rename_i t'' _;cases ha;have:=hr _ _ _ ht;simp only[List.length_cons] at this ⊢;exact⟨by omega,this.2⟩
          · cases ha
      · split at ha
        · have hb:=nP ha
          have hy:∃st,y= .mk 1 st []:=by
            unfold bR at ha;split at ha<;>(simp only[Option.map_eq_some_iff] at ha;obtain⟨⟨m,r'⟩,_,h2⟩:=ha;cases h2;exact⟨_,rfl⟩)
          obtain⟨st,rfl⟩:=hy;exact⟨hlen _ _ rfl (by simp only[List.length_cons];omega),leaf _ _ (.inr rfl)⟩
        · split at ha
          · cases ha;exact⟨hlen _ _ rfl (by simp),leaf _ _ (.inr rfl)⟩
          · split at ha
            · simp only[Option.map_eq_some_iff] at ha;obtain⟨⟨b,r'⟩,h1,h2⟩:=ha;have:=rW h1;cases h2;exact⟨hlen _ _ rfl (by simp only[List.length_cons];omega),leaf _ _ (.inr rfl)⟩
            · split at ha
              · cases ha
              · cases ha;exact⟨hlen _ _ rfl (by simp),leaf _ _ (.inr rfl)⟩
  unfold dh at h;simp only[Option.map_eq_some_iff] at h;obtain⟨⟨n,t⟩,h1,h2⟩:=h;have h3:=key n t h1;have h4:=oX t n h3.2;rw[h2] at h4;simp only at h4;exact⟨by omega,h4.2⟩
theorem ke {rows:By->Option (Nd×By)}(hr:∀s,Small s (rows s)):∀(n:Nat) (all row:List Nd) (s:By) (x:Nd) (r:By),ic all=true->ic row=true->dn rows n all row s=some (x,r) ->
    fV x+2*r.length<=2*s.length+1+cQ all+cQ row+(if all=[] then 0 else 1)/\ig x=true
  | 0,_,_,_,_,_,_,_,h=>by cases h
  |n+1,all,row,s,x,r,hwa,hwr,h=>by
    rw[dn] at h;split at h
    · split at h
      · rename_i hbar;have hs:s.tail.length+1=s.length:=by cases s with|nil=>cases hbar|cons a b=>simp
        have hw':ic (all++[aG 2 row])=true:=by rw[jj,hwa];simp[ic,ud (.inl rfl) hwr]
        have ih:=ke hr n _ _ _ _ _ hw' (by rfl) h;have hj:=ue 2 row;have ha:cQ (all++[aG 2 row])=cQ all+fV (aG 2 row):=by rw[dY];simp[cQ]
        rw[ha] at ih;refine⟨?_,ih.2⟩;have h1:=ih.1;rw[if_neg (by simp)] at h1;simp only[cQ] at h1;omega
      · cases h;have hj:=ue 2 row;have hj3:=ue 3 (all++[aG 2 row]);have ha:cQ (all++[aG 2 row])=cQ all+fV (aG 2 row):=by rw[dY];simp[cQ]
        refine⟨?_,ud (.inr rfl) (by rw[jj,hwa];simp[ic,ud (.inl rfl) hwr])⟩;split
        · rename_i he;subst he;have:aG 3 ([]++[aG 2 row])=aG 2 row:=rfl;rw[this];simp only[cQ] at *;omega
        · rw[ha] at hj3;omega
    · split at h
      · cases h
      · rename_i y t ht;have h1:=vL hr ht;have ih:=ke hr n all (row++[y]) t x r hwa (by rw[jj,hwr];simp[ic,h1.2]) h;have ha:cQ (row++[y])=cQ row+fV y:=by rw[dY];simp[cQ]
        rw[ha] at ih;exact⟨by have:=ih.1;omega,ih.2⟩
theorem o7:∀(d:Nat) (s:By),Small s (bk d s)
  | 0,s=>fun x r h=>by cases h
  |d+1,s=>fun x r h=>by
    have:=ke (fun s=>o7 d s) _ _ _ _ _ _ rfl rfl h;simpa [cQ] using this
theorem uA (h:dm s=some x):fV x<=2*s.length+1/\ig x=true:=by
  unfold dm at h;split at h
  · rename_i n hn;cases h;have:=o7 _ _ _ _ hn;simpa using this
  · cases h
theorem wk (hx:l[i]? =some x) (ss:List aH) (to:Nat):aD (l.drop i) ss to=lay x (aD (l.drop (i+1)) ss to).1 (aD (l.drop (i+1)) ss to).2:=by
  obtain⟨hi,rfl⟩:=List.getElem?_eq_some_iff.1 hx;rw[List.drop_eq_getElem_cons hi,aD]
theorem kE:∀(l:List Nd) (ss:List aH) (to:Nat),(aC l ss to).2.length=l.length
  | [],ss,to=>by simp[aC]
  |x::r,ss,to=>by rw[aC];simp[kE r]
end
mutual
theorem eO:∀(x:Nd) (ss:List aH) (to i:Nat),i<ss.length->(lay x ss to).1[i]? =ss[i]?
  |.mk k s kids,ss,to,i,hi=>by
    rw[lay];split
    · simp[List.getElem?_append_left hi]
    · split
      · exact rA kids ss to i hi
      · split
        · have:=cj kids ss to;simp only;rw[List.getElem?_append_left (by omega)];exact gR kids ss to i hi
        · split
          · have:=cu kids ss to;simp only;rw[List.getElem?_append_left (by omega)];exact mB kids ss to i hi
          · split
            · simp only;rw[List.getElem?_set_ne (by omega),mB kids (ss++[(⟨0,0,[],0⟩:aH)]) ss.length i (by simp;omega),List.getElem?_append_left hi]
            · rfl
theorem rA:∀(l:List Nd) (ss:List aH) (to i:Nat),i<ss.length->(aD l ss to).1[i]? =ss[i]?
  | [],ss,to,i,hi=>by simp[aD]
  |x::r,ss,to,i,hi=>by
    rw[aD];have h1:=eu r ss to;rw[eO x _ _ i (by omega),rA r ss to i hi]
theorem gR:∀(l:List Nd) (ss:List aH) (to i:Nat),i<ss.length->(aC l ss to).1[i]? =ss[i]?
  | [],ss,to,i,hi=>by simp[aC]
  |x::r,ss,to,i,hi=>by
    rw[aC];have h1:=cD x ss to;simp only;rw[gR r _ _ i (by omega),eO x ss to i hi]
theorem mB:∀(l:List Nd) (ss:List aH) (to i:Nat),i<ss.length->(aM l ss to).1[i]? =ss[i]?
  | [],ss,to,i,hi=>by simp[aM]
  |x::r,ss,to,i,hi=>by
    rw[aM];exact eO x ss to i hi
end
section
variable {l:List Nd}{s:By}{x:Nd}{i:Nat}
theorem Ar (hx:l[i]? =some x):cQ (l.take i)+fV x<=cQ l:=by
  obtain⟨hi,rfl⟩:=List.getElem?_eq_some_iff.1 hx;have h:cQ (l.take i++l.drop i)=cQ l:=by rw[List.take_append_drop]
  rw[dY,List.drop_eq_getElem_cons hi,cQ] at h;omega
theorem As (hx:l[i]? =some x):cQ (l.drop (i+1))+fV x<=cQ l:=by
  obtain⟨hi,rfl⟩:=List.getElem?_eq_some_iff.1 hx;have h:cQ (l.take i++l.drop i)=cQ l:=by rw[List.take_append_drop]
  rw[dY,List.drop_eq_getElem_cons hi,cQ] at h;omega
theorem qb:∀l:List Nd,l.length<=cQ l
  | []=>by simp[cQ]
  |x::l=>by have:=qb l;have:=gz x;simp only[List.length_cons,cQ];omega
def o8:List aH->List Bool->Nat
  |x::r,b::s=>(if b then 0 else x.to.length+1)+o8 r s
  |_,_=>0
def gu (ss:List aH):Nat->List Nat->List Bool->List Bool
  | 0,_,seen=>seen
  |n+1,todo,seen =>
    match todo.getLast? with
    |none=>seen
    |some i =>
      if seen[i]? =some true then gu ss n todo.dropLast seen
      else gu ss n (match ss[i]? with|some x=>if x.kind=0 then todo.dropLast++x.to else todo.dropLast|none=>todo.dropLast) (seen.set i true)
def closed (ss:List aH) (todo:List Nat):List Nat :=
  if todo.length=0 then []
  else ((List.range ss.length).filter fun i=>(gu ss (todo.length+o8 ss (List.replicate ss.length false)) todo (List.replicate ss.length false))[i]? ==some true && (ss[i]?.map (·.kind)) !=some 0)
theorem uy:∀(ss:List aH) (seen:List Bool) (i:Nat) (x:aH),ss[i]? =some x->seen[i]? =some false->o8 ss (seen.set i true)+(x.to.length+1)=o8 ss seen
  | [],_,_,_,h,_=>by simp at h
  |_::_,[],_,_,_,h=>by simp at h
  |y::r,b::s,0,x,h1,h2=>by
    simp at h1 h2;subst h1 h2;simp[o8];omega
  |y::r,b::s,i+1,x,h1,h2=>by
    have:=uy r s i x (by simpa using h1) (by simpa using h2);simp only[List.set_cons_succ,o8];omega
def Good (ss:List aH):Prop:=∀x∈ss,∀j∈x.to,j<ss.length
def b9 (ss:List aH) (st:Nat):List Nat:=if ss.length=0 then [] else closed ss [st]
def nU (x:aH) (b:Int):Bool:=decide (x.kind=2/\(b<0\/(x.rule:Int)<b))
def nV (ss:List aH):List Nat->Int->Int
  | [],b=>b
  |j::r,b=>nV ss r (match ss[j]? with|some x=>if nU x b then x.rule else b|none=>b)
def cm (ss:List aH) (now:List Nat):Int:=if ss.length=0 then -1 else nV ss now (-1)
def iE (x:aH) (c:UInt8):Bool:=decide (x.kind=1) && x.set.testBit c.toNat
def stepG (ss:List aH) (c:UInt8):List Nat->List Nat->List Nat
  | [],a=>a
  |j::r,a=>stepG ss c r (match ss[j]? with|some x=>if iE x c then a++x.to else a|none=>a)
def cH (ss:List aH) (c:UInt8) (now:List Nat):List Nat:=if ss.length=0 then [] else closed ss (stepG ss c now [])
theorem om (ss:List aH) (c:UInt8):∀(l a:List Nat),a.length<=(stepG ss c l a).length
  | [],a=>Nat.le_refl _
  |j::r,a=>by
    rw[stepG];refine Nat.le_trans ?_ (om ss c r _);split
    · split<;>simp
    · exact Nat.le_refl _
theorem qy (ss:List aH) (st:Nat):(b9 ss st).Sublist (List.range ss.length):=by
  unfold b9 closed;split
  · exact List.nil_sublist _
  · split
    · exact List.nil_sublist _
    · exact List.filter_sublist
theorem th (ss:List aH) (c:UInt8) (now:List Nat):(cH ss c now).Sublist (List.range ss.length):=by
  unfold cH closed;split
  · exact List.nil_sublist _
  · split
    · exact List.nil_sublist _
    · exact List.filter_sublist
def cZ:Nat->List By->List aH->List Nat->Int ⊕ (List aH×List Nat)
  |_,[],ss,t=>.inr (ss,t)
  |i,s::r,ss,t=>if (az s).2≠0 then .inl (az s).2 else cZ (i+1) r (lay (az s).1 (ss++[⟨2,0,[],i⟩]) ss.length).1 (t++[(lay (az s).1 (ss++[⟨2,0,[],i⟩]) ss.length).2])
def jk (l:List By):Nat:=(l.map List.length).sum
def cC (rules:List By):Int ⊕ (List aH×Nat) :=
  if rules.length=0\/64<rules.length then .inl 2
  else match cZ 0 rules [] [] with
    |.inl e=>.inl e
    |.inr (ss,t)=>if 2000<jk rules then .inl 70 else .inr (ss++[⟨0,0,t,0⟩],ss.length)
theorem dB (h0:(az s).2=0):fV (az s).1<=401/\ig (az s).1=true/\s.length<=200:=by
  unfold az at *;split at h0
  · cases h0
  · rename_i hl;rw[if_neg hl];split at h0
    · rename_i x hx;have:=uA hx;exact⟨by show fV x<=401;omega,this.2,by omega⟩
    · cases h0
theorem og {l:List By}(hx:l[i]? =some s):jk (l.take (i+1))=jk (l.take i)+s.length:=by
  rw[List.take_add_one,hx,Option.toList_some];simp[jk]
end
end Go.Proofs.YtbbjkiigpdjaaaaDoor
namespace Go.Proofs.YtbbjkiigpdjaaaaDoor
open Go.Proofs.Tryd
open Go Go.Lw
set_option maxRecDepth 20000 set_option maxHeartbeats 4000000
section
variable {h:af}{O:Nat->Prop}{v:Value}{nb st:Nat}
def b7 (n:Nat):Value:=.int .i64 (n:Nat)
def fX:gI Nat:=.flat b7 fun _=>rfl
def za (k s:Nat) (v:Value) (r:Nat):List Value:=[.int .i64 (k:Nat),cw s 0,cw s 1,cw s 2,cw s 3,v,.int .i64 (r:Nat)]
def BD (h:af) (O:Nat->Prop) (cs:List Value) (x:aH):Prop:=∃v,cs=za x.kind x.set v x.rule/\aP fX h O v x.to
theorem aP.wz {α:Type}{e:gI α}{xs:List α}(k:aP e h O v xs):v.oneCell'=true:=by
 obtain⟨oa,n,c,rfl,_⟩:=k;rfl
def zI:gI aH:=⟨7,by decide,BD,fun h=>by obtain⟨v,rfl,_⟩:=h;rfl,fun h=>by
 obtain⟨v,rfl,hv⟩:=h;intro u hu;simp[za,cw] at hu
 rcases hu with rfl|rfl|rfl|rfl|rfl|rfl|rfl<;>first|rfl|exact aP.wz hv,fun h m=>by
 obtain⟨v,hc,hv⟩:=h;exact⟨v,hc,hv.mv m⟩⟩
structure bE (h:af) (O:Nat->Prop) (nb:Nat) (v:Value) (ss:List aH) (st:Nat):Prop where
 blk:aB h nb 83 [v,.int .i64 (st:Nat)]
 row:cN zI (fun b=>b=nb\/O b) h (nb+1) 92 v ss
abbrev cX (nb:Nat) (v:Value):Nat->Prop:=fun b=>b=nb\/bw v.ownBlock b
theorem bE.own {ss:List aH}(k:bE h O nb v ss st):∀b,v.ownBlock=some b->nb<b/\b<h.size:=fun b hb=>by
 obtain⟨css,_,h2,_⟩:=k.row;have:=h2.lt hb;omega
theorem bE.ext {M:Nat->Prop}{O O':Nat->Prop}{h h':af}{nb:Nat}{v:Value}{ss:List aH}{st:Nat}(k:bE h O nb v ss st) (e:Ext M h h') (hnb:¬M nb) (hown:∀b,v.ownBlock=some b->¬M b) (hM:∀b,b<h.size->M b->O b) (hO:∀b,b<h.size->O' b->O b):bE h' O' nb v ss st :=
 ⟨k.blk.ext e hnb,k.row.o9 e hown (fun b hb hm=>.inr (hM b hb hm)) (fun b hb k=>k.imp id (hO b hb))⟩
theorem bE.ah {O':Nat->Prop}{h':af}{ss:List aH}(k:bE h O nb v ss st) (e:ak h h') (hO:∀b,b<h.size->O' b->O b):bE h' O' nb v ss st:=k.ext e (fun k=>k) (fun _ _ k=>k) (fun _ _ k=>k.elim) hO
theorem zX {w:Value}{ss:List aH}{x:aH}(hn:bE h O nb v ss st) (_hO:∀b,O b->b<h.size) (hx:BD h (fun b=>cX nb v b\/O b) (za x.kind x.set w x.rule) x) (hl:ss.length<=1000000) :
 an Tryd.prog 30 #[.pointer (some ⟨nb,0,none⟩),.agg (za x.kind x.set w x.rule).toArray] h (b8 fun r h'=>∃v',r= .int .i64 (ss.length:Nat)/\bE h' O nb v' (ss++[x]) st/\Ext (cX nb v) h h'/\(∀b,v'.ownBlock=some b->v.ownBlock=some b\/h.size<=b)):=by
 have hw1:∀u∈za x.kind x.set w x.rule,u.oneCell'=true:=zI.one hx;refine cV ?_;refine aa ?_;refine xo rfl (wY) ?_;rintro _ h1 ⟨rfl,hk1,he1,hz1⟩;have hk1:aB h1 h.size 92 (za x.kind x.set w x.rule):=hk1;have hn1:=hn.ah (O':=O) he1 (fun _ _ k=>k);obtain⟨css,hc1,hc2,hc3⟩:=id hn1.row;have hown:=hn1.own;have hnlt:=hn1.blk.lt;have hnz:=hn.blk.lt;have hnM:¬(bw v.ownBlock nb\/Array.size h1<=nb):=by rintro(k|k);(have:=hown nb k.symm;omega);omega
 have hkM:¬(bw v.ownBlock h.size\/Array.size h1<=h.size):=by rintro(k|k);(have:=hn.own _ k.symm;omega);omega
 refine aa ?_;refine vg 11 (fun b=>bw v.ownBlock b\/Array.size h1<=b) (fun i=>Nat.blt i 10) ?_;refine aS 0 ?_;refine aS 1 ?_;refine aS 2 ?_;refine aS 3 ?_;refine bL 4 rfl (fun h' e=>aE rfl (e.cell hnM (hn1.blk.cell (i:=0) rfl))) ?_;refine bL 5 rfl (fun h' e=>gj rfl (e.rowAt hkM hk1.row)) ?_;refine eZ 6 rfl (y3) ?_;rintro _ _ ⟨rfl,rfl⟩;refine⟨fun _=>by first|exact Ext.push _ _ _|assumption,?_⟩;refine eZ 7 rfl (aL.eF underlying81 H.Em rfl rfl (hc2) rfl rfl (hw1) (by omega) (by decide) (by omega)) ?_;rintro v2 h2 ⟨ho2,hx2,hx2',hv2⟩;refine⟨fun _=>hx2'.mono (fun _ _ k=>.inl k),?_⟩;obtain⟨oa2,c2,rfl,_⟩:=ho2.open;refine BL 8 ?_;refine aS 9 ?_;refine qp 10 rfl (n8 rfl rfl ((hn1.blk.ext hx2 (fun k=>by have:=hown nb k.symm;omega)))) ?_;rintro _ h3 ⟨rfl,hk3,hx3,hz3⟩;refine⟨nofun,?_⟩;refine lg ?_;refine aa ?_;have hxs:zI.R h1 (fun b=>bw v.ownBlock b\/b=nb\/O b) (za x.kind x.set w x.rule) x:=zI.mv hx ⟨he1.size,fun b hb hn=>⟨he1.block b hb (fun k=>k),fun k=>hn (by rcases k with k|k|k;(exact .inl (.inr k));(exact .inl (.inl k));exact .inr k)⟩⟩;have hrow2:cN zI (fun b=>b=nb\/O b) h2 (nb+1) 92 (.slice oa2 (ss.length+1) c2) (ss++[x]):=cN.fo hc1 hc3 ho2 hx2 hv2 hxs;have hrow3:cN zI (fun b=>b=nb\/O b) h3 (nb+1) 92 (.slice oa2 (ss.length+1) c2) (ss++[x]):=hrow2.o9 hx3 (fun b hb (k:b=nb)=>by have:=hv2 b hb;rcases this with k'|k';(have:=hown b k';omega);omega) (fun b _ k=>.inl k) (fun b _ k=>k);have hk3:aB h3 nb 83 [.slice oa2 (ss.length+1) c2,.int .i64 (st:Nat)]:=hk3;refine xp rfl (aE rfl (hk3.cell (i:=0) rfl)) ?_;refine aa ?_;refine bU ?_;refine⟨_,rfl,_,?_,⟨hk3,hrow3⟩,⟨by have:=he1.size;have:=hx2.size;omega,fun b hb hn=>by rw[hx3.block b (by have:=hx2.size;omega) (fun k=>hn (.inl k)),hx2.block b (by omega) (fun k=>hn (.inr k)),he1.block b hb (fun k=>k)]⟩,fun b hb=>?_⟩
 · show Value.int _ _=_
   congr 1;omega
 · rcases hv2 b hb with k|k
   · exact .inl k
   · exact .inr (by omega)
theorem p5 {l cap:Nat}{oa:Option Addr}{n c:Nat}{J:Nat->af->Prop}(hn:n<=1000000)
 (hread:∀j h,J j h->cellAt h ⟨cap,0,none⟩=some (.slice oa n c)) (hy:∀j h,J (j+1) h->j<n->∃(b o k s:Nat) (w:Value),oa=some ⟨b,o,none⟩/\Lw.rowAt h b (o+j*6) (aX k s w) /\
  oO Tryd.prog l #[.int .i64 (j:Nat),.agg (aX k s w).toArray] h (b8 fun r h'=>r= .bool true/\J j h')) (h0:J n h) :
 an Tryd.prog 65 #[.func (.yield l) #[] #[],.pointer (some ⟨cap,0,none⟩)] h (b8 fun _ h'=>J 0 h'):=by
 refine cV ?_;refine aa ?_;refine xp rfl (aE rfl (hread _ _ h0)) ?_;refine aa ?_;refine fG (σ:=Nat) (fun j=>[(3,.int .i64 ((j:Int)-1))]) (fun j h'=>J j h'/\j<=n) (fun j=>j) (n) ⟨h0,Nat.le_refl _⟩ rfl ?_;rintro j h1 ⟨hJ,hj⟩ ih;refine aa ?_;refine bF (fun hge=>?_) (fun hge=>?_)
 · obtain⟨i,rfl⟩:∃i,j=i+1:=⟨j-1,by omega⟩
   obtain⟨b,o,k,s,w,ha,hrow,hyy⟩:=hy i h1 hJ (by omega);have hji:((i+1:Nat):Int)-1=((i:Nat):Int):=by omega
   rw[hji];refine kZ rfl ?_;refine hU rfl ?_;refine G.block rfl rfl ?_;refine hU rfl ?_;refine G.Fc func65 rfl ?_;refine jc.bV rfl rfl rfl rfl rfl (dQ rfl) ?_;refine jc.bV rfl rfl rfl rfl rfl (dQ rfl) ?_;refine jc.bV rfl rfl rfl rfl rfl (dR H.Ez rfl (hread _ _ hJ)) ?_;refine jc.bV rfl rfl rfl rfl rfl (dQ rfl) ?_;refine jc.bV rfl rfl rfl rfl rfl (av.gS underlying84 H.qt rfl rfl i rfl ha (by omega)) ?_;refine jc.bV rfl rfl rfl rfl rfl (av.iS H.zW H.qt rfl hrow (by first|rfl|(simp;done)|(simp;omega))) ?_;refine zZ (vs:=[_,_]) rfl rfl rfl rfl rfl rfl rfl (hyy) ?_;rintro _ h2 ⟨rfl,hJ2⟩;refine jc.bV rfl rfl rfl rfl rfl (av.Ei rfl) ?_;refine sE rfl ?_;refine oe rfl (by decide) ?_;refine aa ?_;exact ih i ⟨hJ2,by omega⟩
 · obtain rfl:j=0:=by omega
   refine aa ?_;refine DK ?_;exact⟨_,rfl,hJ⟩
theorem so (v:Value) (hv:v.oneCell'=true):an Tryd.prog 48 #[v] h (b8 fun r h'=>r= .func (.func 65) #[] #[.pointer (some ⟨h.size,0,none⟩)]/\h'=h.push (.cells #[v] 84)):=by
 have hcells:v.cells= #[v]:=by cases v<;>simp[Value.oneCell'] at hv<;>rfl
 refine cV ?_;refine aa ?_;refine xo rfl (aL.box rfl) ?_;rintro _ _ ⟨rfl,rfl⟩;refine aa ?_;refine xp rfl (av.makeFunc (vs:=[_]) rfl) ?_;refine aa ?_;refine bU ?_;exact⟨_,rfl,rfl,by rw[hcells]⟩
end
end Go.Proofs.YtbbjkiigpdjaaaaDoor
namespace Go.Proofs.YtbbjkiigpdjaaaaDoor
open Go Go.Lw
set_option maxRecDepth 20000
section
variable {O:Nat->Prop}{nb:Nat}{h h':af}{v:Value}
structure Nx (O:Nat->Prop) (nb:Nat) (h:af) (v:Value) (h':af) (v':Value):Prop where
  ext:Ext (fun b=>cX nb v b\/O b) h h'
  own:∀b,v'.ownBlock=some b->v.ownBlock=some b\/h.size<=b
theorem Nx.refl {O:Nat->Prop}{nb:Nat}{h:af}{v:Value}:Nx O nb h v h v:=⟨Ext.refl _ _,fun _ k=>.inl k⟩
theorem Nx.DO (e:ak h h'):Nx O nb h v h' v:=⟨e.mono fun _ _ k=>k.elim,fun _ k=>.inl k⟩
theorem Nx.mono {O O':Nat->Prop}{nb:Nat}{h h':af}{v v':Value}(k:Nx O nb h v h' v') (hO:∀b,b<h.size->O b->O' b):Nx O' nb h v h' v':=⟨k.ext.mono fun b hb k=>k.imp id (hO b hb),k.own⟩
theorem Nx.trans {O':Nat->Prop}{h1 h2:af}{v1 v2:Value}(k:Nx O nb h v h1 v1) (k':Nx O' nb h1 v1 h2 v2) (hO:∀b,b<h.size->O' b->O b):Nx O nb h v h2 v2:=by
  refine⟨⟨Nat.le_trans k.ext.size k'.ext.size,fun b hb hn=>?_⟩,fun b hb=>?_⟩
  · rw[k'.ext.block b (Nat.lt_of_lt_of_le hb k.ext.size) ?_,k.ext.block b hb hn];rintro((k1|k1)|k1)
    · exact hn (.inl (.inl k1))
    · rcases k.own b k1.symm with k2|k2
      · exact hn (.inl (.inr k2.symm))
      · omega
    · exact hn (.inr (hO b hb k1))
  · have:=k.ext.size
    rcases k'.own b hb with k2|k2
    · exact k.own b k2
    · exact .inr (by omega)
theorem Nx.mv {v':Value}(k:Nx O nb h v h' v'):Mv (fun b=>cX nb v b\/O b) (fun b=>cX nb v' b\/O b) h h' :=
  ⟨k.ext.size,fun b hb hn=>⟨k.ext.block b hb hn,by
    rintro((k1|k1)|k1)
    · exact hn (.inl (.inl k1))
    · rcases k.own b k1.symm with k2|k2
      · exact hn (.inl (.inr k2.symm))
      · omega
    · exact hn (.inr k1)⟩⟩
theorem Nx.DP {v':Value}(k:Nx (fun _=>False) nb h v h' v'):Mv (cX nb v) (cX nb v') h h' :=
  ⟨k.ext.size,fun b hb hn=>⟨k.ext.block b hb (fun k=>k.elim hn id),fun k1=>by
    rcases k1 with k1|k1
    · exact hn (.inl k1)
    · rcases k.own b k1.symm with k2|k2
      · exact hn (.inr k2.symm)
      · omega⟩⟩
def Cy (O:Nat->Prop) (nb:Nat) (h:af) (v:Value) (st:Nat) (out:List aH×Nat) (r:Value) (h':af):Prop:=∃v',r= .int .i64 (out.2:Nat)/\bE h' O nb v' out.1 st/\Nx (fun _=>False) nb h v h' v'
def BH (n:Nat):Prop:=∀{x:Nd}{h:af}{O:Nat->Prop}{nb:Nat}{v w:Value}{ss:List aH}{st to:Nat},fV x<=n->bE h O nb v ss st->(∀b,O b->b<h.size)->aA h (cX nb v) (aX x.kind x.set w) x->ig x=true->ss.length+fV x<=1000000 ->
  an Tryd.prog 29 #[.pointer (some ⟨nb,0,none⟩),.agg (aX x.kind x.set w).toArray,.int .i64 (to:Nat)] h (b8 (Cy O nb h v st (lay x ss to)))
theorem uX {w:Value}{ss:List aH}{st:Nat}{x:aH}(hn:bE h O nb v ss st) (hO:∀b,O b->b<h.size) (hx:BD h (fun b=>cX nb v b\/O b) (za x.kind x.set w x.rule) x) (hl:ss.length<=1000000) :
    an Tryd.prog 30 #[.pointer (some ⟨nb,0,none⟩),.agg (za x.kind x.set w x.rule).toArray] h (b8 (Cy O nb h v st (ss++[x],ss.length))) :=
  (zX hn hO hx hl).mono fun e h' r=>by
    obtain⟨u,he,v',hu,hn',hx',ho⟩:=r;exact⟨u,he,v',hu,hn',hx'.mono fun _ _ k=>.inl k,ho⟩
theorem Bk (i:Nat):cw 0 i= .int .u64 0:=by simp[cw,tc]
theorem kU {w:Value}{ss:List aH}{st:Nat}{to:List Nat}(hn:bE h O nb v ss st) (hO:∀b,O b->b<h.size) (hx:aP fX h (fun b=>cX nb v b\/O b) w to) (hl:ss.length<=1000000) :
    an Tryd.prog 30 #[.pointer (some ⟨nb,0,none⟩),.agg #[.int .i64 0,.int .u64 0,.int .u64 0,.int .u64 0,.int .u64 0,w,.int .i64 0]] h (b8 (Cy O nb h v st (ss++[⟨0,0,to,0⟩],ss.length))):=by
  have h1:=uX (x:=⟨0,0,to,0⟩) hn hO ⟨w,rfl,hx⟩ hl;simp only[za,Bk] at h1;exact h1
theorem Ge (t:TypeId) (a:Nat) (ho:¬O h.size):aP fX (h.push (.cells #[.int .i64 (a:Nat)] t)) O (.slice (some ⟨h.size,0,none⟩) 1 1) [a]:=aP.lT (e:=fX) (cs:=[b7 a]) rfl ho
theorem E3 (t:TypeId) (a b:Nat) (ho:¬O h.size):aP fX (h.push (.cells #[.int .i64 (a:Nat),.int .i64 (b:Nat)] t)) O (.slice (some ⟨h.size,0,none⟩) 2 2) [a,b] :=
  ⟨_,2,2,rfl,rfl,Nat.le_refl _,by simp[maxLen],fun i x hx=>by
    refine⟨h.size,0,[b7 x],rfl,ho,?_,rfl⟩;have hr:=nk h [.int .i64 (a:Nat),.int .i64 (b:Nat)] t;intro j u hj;have h0:j=0:=by have:=(List.getElem?_eq_some_iff.1 hj).1;simp at this;omega
    subst h0;simp only[List.getElem?_cons_zero,Option.some.injEq] at hj;subst hj
    match i with
    | 0=>simp at hx;subst hx;exact hr 0 _ rfl
    | 1=>simp at hx;subst hx;exact hr 1 _ rfl
    |i+2=>simp at hx⟩
theorem pz:∀(l:List Nd) (x:Nd) (ss:List aH) (to:Nat),aC (l++[x]) ss to=((lay x (aC l ss to).1 to).1,(aC l ss to).2++[(lay x (aC l ss to).1 to).2])
  | [],x,ss,to=>by simp[aC]
  |y::l,x,ss,to=>by
    rw[List.cons_append,aC,pz l x,aC];simp
theorem pq {l:List Nd}{i:Nat}{x:Nd}(hx:l[i]? =some x) (ss:List aH) (to:Nat):aC (l.take (i+1)) ss to=((lay x (aC (l.take i) ss to).1 to).1,(aC (l.take i) ss to).2++[(lay x (aC (l.take i) ss to).1 to).2]):=by
  rw[List.take_add_one,hx,Option.toList_some,pz]
def CF (nb b5 cap d:Nat) (r0:Loop) (hL:af) (v sl:Value) (O:Nat->Prop) (kids:List Nd) (ss:List aH) (st to j:Nat) (g:af):Prop :=
  ∃v',eC g (d+1) r0/\g[d]? =some (.deferred (some []))/\aB g cap 84 [sl]/\bE g (fun b=>O b\/(b5<=b/\b<hL.size)) nb v' (aD (kids.drop j) ss to).1 st /\
    aB g b5 3 [.int .i64 ((aD (kids.drop j) ss to).2:Nat)]/\Nx (fun b=>b5<=b/\b<hL.size) nb hL v g v'
end
end Go.Proofs.YtbbjkiigpdjaaaaDoor
namespace Go.Proofs.YtbbjkiigpdjaaaaDoor
open Go.Proofs.Tryd
open Go Go.Lw
set_option maxRecDepth 20000 set_option maxHeartbeats 4000000
section
variable {h:af}
theorem kk {k j:Nat}(h:¬((k:Nat):Int)=(j:Nat)):¬k=j:=fun e=>h (by rw[e])
theorem A5 {n:Nat}(ih:BH n):BH (n+1):=by
 intro x h O nb v w ss st to hsz hn hO hx hw hl;obtain⟨k,s,kids⟩:=x;simp only[fV] at hsz hl;have hown:=hn.own;have hnb:=hn.blk.lt;obtain⟨w',hw',hkids⟩:=hx.open;have hww:w=w':=by simpa [aX] using hw'
 subst hww
 show an _ _ #[_,.agg (aX k s w).toArray,_] h _
 replace hkids:aP jg h (cX nb v) w kids:=hkids;obtain⟨oa,kn,kc,rfl,hsl⟩:=hkids.open;refine cV ?_;refine aa ?_;refine xo rfl (wY) ?_;rintro _ h1 ⟨rfl,q3,e1,z1⟩;refine xo rfl (wY) ?_;rintro _ h2 ⟨rfl,q4,e2,z2⟩;refine xo rfl (wY) ?_;rintro _ h3 ⟨rfl,q5,e3,z3⟩;have q3:aB h1 h.size 29 [.pointer (some ⟨nb,0,none⟩)]:=q3;have q4:aB h2 h1.size 86 (aX k s (.slice oa kn kc)):=q4;have q5:aB h3 h2.size 3 [.int .i64 (to:Nat)]:=q5;have q3:=(q3.ah e2).ah e3;have q4:=q4.ah e3;have e03:ak h h3:=(e1.trans e2).trans e3;have hn3:bE h3 O nb v ss st:=hn.ah e03 (fun _ _ k=>k);have hO3:∀b,O b->b<h3.size:=fun b hb=>by have:=hO b hb;have:=e03.size;omega
 have nx3:Nx (fun _=>False) nb h v h3 v:=Nx.DO e03;have hsl3:aP jg h3 (cX nb v) (.slice oa kn kc) kids:=hkids.mv nx3.DP
 have hnew3:∀b,h3.size<=b->¬(cX nb v b\/O b):=by
  have hz:=e03.size;rintro b hb ((k1|k1)|k1)
  · omega
  · have:=hown b k1.symm;omega
  · have:=hO b k1;omega
 have hnM:∀b,h.size<=b->¬(cX nb v b\/False):=by
  rintro b hb ((k1|k1)|k1)
  · omega
  · have:=hown b k1.symm;omega
  · exact k1
 have hkn:kids.length=kn:=hsl.len;have hwl:ic kids=true:=by simp only[ig,Bool.and_eq_true] at hw;exact hw.2
 have hklen:=qb kids;refine aa ?_;refine xp rfl (aE rfl (q4.cell (i:=0) rfl)) ?_;refine aa ?_;refine bF (fun h1k=>?_) (fun h1k=>?_)
 · obtain rfl:k=1:=by omega
   have hlay:lay (.mk 1 s kids) ss to=(ss++[⟨1,s,[to],0⟩],ss.length):=by rw[lay];simp
   rw[hlay];refine aa ?_;refine xp rfl (aE rfl (q3.cell (i:=0) rfl)) ?_;refine aa ?_;refine xp rfl (gj rfl (q4.part 1 (ds:=[cw s 0,cw s 1,cw s 2,cw s 3]) (by intro j v hv;match j with| 0=>exact hv| 1=>exact hv| 2=>exact hv| 3=>exact hv|j+4=>simp at hv))) ?_;refine xp rfl (aE rfl (q5.cell (i:=0) rfl)) ?_;refine xo rfl (ji [_]) ?_;rintro _ _ ⟨rfl,rfl⟩;refine xp rfl (aq (H.yf _ _ _ _ _ _ _ _) rfl) ?_;refine xo rfl (bz rfl (uX (O:=O) (x:=⟨1,s,[to],0⟩) (hn3.ah (Ext.push _ _ _) (fun _ _ k=>k)) (fun b hb=>by have:=hO3 b hb;simp;omega) ⟨_,rfl,Ge _ to (hnew3 _ (Nat.le_refl _))⟩ (by omega))) ?_;rintro _ h5 ⟨v',rfl,hn5,nx5⟩;refine aa ?_;refine bU ?_;exact⟨_,rfl,v',rfl,hn5,(nx3.trans (Nx.DO (Ext.push _ _ _)) (fun _ _ k=>k)).trans nx5 (fun _ _ k=>k)⟩
 · have h1k':¬k=1:=kk h1k;refine aa ?_;refine bF (fun h2k=>?_) (fun h2k=>?_)
   · obtain rfl:k=2:=by omega
     have hlay:lay (.mk 2 s kids) ss to=aD kids ss to:=by rw[lay];simp
     rw[hlay];have hz0:=e03.size;refine aa ?_;refine xp rfl (aE rfl (q4.cell (i:=5) rfl)) ?_;refine xo rfl (bz rfl (so (.slice oa kn kc) rfl)) ?_;rintro _ h4 ⟨rfl,hh4⟩;have e4:ak h3 h4:=by rw[hh4];exact Ext.push _ _ _
     have q6:aB h4 h3.size 84 [.slice oa kn kc]:=by rw[hh4];exact CG _ _ _
     have z4:h4.size=h3.size+1:=by rw[hh4];simp
     clear hh4;refine aa ?_;refine G.rangeFunc rfl rfl func65 rfl (by decide +kernel) ?_;intro fid tmps hfits;obtain⟨r0,hr0⟩:∃r0,r0=lu fid tmps #[30,31] (Gg (Lw.sub (ai f29) [0,1,0,0,1,1,1,0,1,0,1])) (Gf (Lw.sub (ai f29) [0,1,0,0,1,1,1,0,1,0,1])) h4.size:=⟨_,rfl⟩
     obtain⟨hL,hhL⟩:∃hL,hL=(h4.push (.deferred (some []))).push (.loop r0):=⟨_,rfl⟩
     suffices hmain:an Tryd.prog 65 #[.func (.yield (h4.size+1)) #[] #[],.pointer (some ⟨h3.size,0,none⟩)] hL _ by rw[hhL,hr0] at hmain;exact hmain
     have hst:r0.state= .ready:=by rw[hr0];rfl
     have hpn:r0.pending=none:=by rw[hr0];rfl
     have hps:r0.params= #[30,31]:=by rw[hr0];rfl
     have htm:r0.tmps=tmps:=by rw[hr0];rfl
     have eL:ak h4 hL:=by rw[hhL];exact(Ext.push _ _ _).trans (Ext.push _ _ _)
     have hLz:hL.size=h4.size+2:=by rw[hhL];simp
     have hloop0:eC hL (h4.size+1) r0:=by
      have hz:h4.size+1=(h4.push (.deferred (some []))).size:=by simp
      rw[eC,hhL,hz];exact Array.getElem?_push_size
     have hdef0:hL[h4.size]? =some (.deferred (some [])):=by
      rw[hhL,(Ext.push (fun _=>False) (h4.push (.deferred (some []))) _).block h4.size (by simp) (fun k=>k)];exact Array.getElem?_push_size
     clear hhL;have e0L:ak h hL:=(e03.trans e4).trans eL;have q3L:=(q3.ah e4).ah eL;have q5L:=(q5.ah e4).ah eL;have q6L:=q6.ah eL;have hnL:bE hL (fun b=>O b\/(h2.size<=b/\b<hL.size)) nb v ss st:=hn.ah e0L (fun b hb k=>k.elim id (fun k=>by omega));have hkL:aP jg hL (fun b=>cX nb v b\/(h2.size<=b/\b<hL.size)) (.slice oa kn kc) kids:=hkids.mv ⟨e0L.size,fun b hb hn=>⟨e0L.block b hb (fun k=>k),fun k=>k.elim hn (fun k=>by omega)⟩⟩;have hdropn:kids.drop kn=[]:=List.drop_of_length_le (by omega);have hJ0:CF nb h2.size h3.size h4.size r0 hL v (.slice oa kn kc) O kids ss st to kn hL:=⟨v,hloop0,hdef0,q6L,by rw[hdropn,aD];exact hnL,by rw[hdropn,aD];exact q5L,Nx.refl⟩
     have hvM:∀{v':Value}{g:af},Nx (fun b=>h2.size<=b/\b<hL.size) nb hL v g v'->∀b,h.size<=b->b<hL.size->¬cX nb v' b:=by
      rintro v' g nx b hb hb' (k1|k1)
      · omega
      · rcases nx.own b k1.symm with k2|k2
        · have:=hown b k2;omega
        · omega
     refine suff (p:=∀j g,CF nb h2.size h3.size h4.size r0 hL v (.slice oa kn kc) O kids ss st to (j+1) g->j<kn->∃(b o k s:Nat) (w:Value),oa=some ⟨b,o,none⟩/\Lw.rowAt g b (o+j*6) (aX k s w)/\oO Tryd.prog (h4.size+1) #[.int .i64 (j:Nat),.agg (aX k s w).toArray] g (b8 fun r h'=>r= .bool true/\CF nb h2.size h3.size h4.size r0 hL v (.slice oa kn kc) O kids ss st to j h')) ?_ fun hy=>?_
     · intro j g ⟨v',hlp,hdf,hcap,hng,hb5,nxg⟩ hj;obtain⟨x,hx⟩:∃x,kids[j]? =some x:=⟨_,List.getElem?_eq_getElem (by omega)⟩
       have hkg:=hkL.mv nxg.mv;obtain⟨oa',n',c',hv',_,_,_,hget⟩:=id hkg;cases hv';obtain⟨b,o,cs,ha,hob,hrow,hnd⟩:=hget j x hx;obtain⟨w2,rfl,-⟩:=hnd.open;refine⟨b,o,x.kind,x.set,w2,ha,hrow,?_⟩;have hcatd:=wk hx ss to;have hszx:=As hx;have hbl:=eu (kids.drop (j+1)) ss to;have hfit:=Bg (p1:=30) (p2:=31) (v1:=.int .i64 (j:Nat)) (v2:=.agg (aX x.kind x.set w2).toArray) hfits rfl rfl;rw[<-hps,<-htm] at hfit;have hvg:=hvM nxg;have hzg:=nxg.ext.size;have q3g:=q3L.ext nxg.ext (fun k=>k.elim (hvM Nx.refl (v':=v) (g:=hL) _ (Nat.le_refl _) (by omega)) (fun k=>by omega));refine oO.of hlp hst (by rw[hps];rfl) hfit ((congrArg Loop.assign hr0).trans rfl) ((congrArg Loop.body hr0).trans rfl) ?_;refine jc.B3 rfl rfl rfl rfl rfl (aL.yj H.DQ) ?_;rintro _ g1 ⟨rfl,k8,e1',zz1⟩;refine jc.Aj rfl rfl rfl rfl (aL.iN H.qt rfl rfl k8 (by first|rfl|(simp;done)|(simp;omega)) (by first|decide|exact of_decide_eq_true rfl|(simp;done)|(simp;omega)) (aA.one hnd)) ?_;rintro _ g2 ⟨rfl,k8',e2',zz2⟩;refine sE rfl ?_;have e12:ak g g2:=e1'.only e2' (Nat.le_refl _);have k8':aB g2 g.size 86 (aX x.kind x.set w2):=k8';refine⟨(e12.block _ hlp.lt (fun k=>k)).trans hlp,?_⟩;obtain⟨g3,hg3⟩:∃g3,g3=Lw.fm g2 (h4.size+1) (.loop { r0 with state:=.busy }):=⟨_,rfl⟩
       rw[<-hg3];have hlz:=hlp.lt;have hz2:=e12.size;have e23:Ext (fun b=>b=h4.size+1) g2 g3:=by rw[hg3];exact Ext.fm _ _ _ rfl
       have hlp3:eC g3 (h4.size+1) { r0 with state:=.busy }:=by rw[eC,hg3];exact tC (by omega)
       have hz3:=e23.size;have e13:Ext (fun b=>b=h4.size+1) g g3:=(e12.mono fun _ _ k=>k.elim).trans e23;have l3:¬h.size=h4.size+1:=by omega
       have l5:¬h2.size=h4.size+1:=by omega
       have l6:¬h3.size=h4.size+1:=by omega
       have l8:¬g.size=h4.size+1:=by omega
       have ld:¬h4.size=h4.size+1:=by omega
       have q33:=q3g.ext e13 l3;have b53:=hb5.ext e13 l5;have cap3:=hcap.ext e13 l6;have k83:=k8'.ext e23 l8;have hown':∀b,v'.ownBlock=some b->¬b=h4.size+1:=fun b hb k=>hvg b (by omega) (by omega) (.inr hb.symm)
       have hn3g:bE g3 (fun b=>O b\/(h2.size<=b/\b<hL.size)) nb v' (aD (kids.drop (j+1)) ss to).1 st:=hng.ext e13 (by omega) hown' (fun b _ k=>.inr (by omega)) (fun b _ k=>k);have hnd3:aA g3 (cX nb v') (aX x.kind x.set w2) x:=hnd.mv ⟨e13.size,fun b hb hn=>⟨e13.block b hb (fun k=>hn (.inr (by omega))),fun k=>hn (.inl k)⟩⟩;refine jc.bV rfl rfl rfl rfl rfl (dR H.EA rfl (q33.cell (i:=0) rfl)) ?_;refine jc.bV rfl rfl rfl rfl rfl (av.iS H.zW H.qt rfl k83.row (by first|rfl|(simp;done)|(simp;omega))) ?_;refine jc.bV rfl rfl rfl rfl rfl (dR H.BQ rfl (b53.cell (i:=0) rfl)) ?_;refine jc.B3 rfl rfl rfl rfl rfl (gY (vs:=[_,_,_]) func29 rfl H.Fk rfl (an.BN (ih (x:=x) (O:=fun b=>O b\/(h2.size<=b/\b<hL.size)) (to:=(aD (kids.drop (j+1)) ss to).2) (by omega) hn3g (fun b hb=>by rcases hb with k|k;(have:=hO b k;omega);omega) hnd3 (mZ hwl hx) (by omega)))) ?_;rintro _ g4 ⟨v4,rfl,hn4,nx4⟩;have hM4:∀b,h.size<=b->b<hL.size->¬(cX nb v' b\/False):=fun b h1 h2 k=>k.elim (hvg b h1 h2) id
       have b54:=b53.ext nx4.ext (hM4 _ (by omega) (by omega));refine jc.Aj rfl rfl rfl rfl (aL.ng H.uf rfl rfl b54 (by first|decide|exact of_decide_eq_true rfl|(simp;done)|(simp;omega)) rfl) ?_;rintro _ g5 ⟨rfl,b55,e5',zz5⟩;refine sE rfl ?_;have b55:aB g5 h2.size 3 [.int .i64 ((lay x (aD (kids.drop (j+1)) ss to).1 (aD (kids.drop (j+1)) ss to).2).2:Nat)]:=b55;have hz4:=nx4.ext.size;have nx45:Nx (fun b=>h2.size<=b/\b<hL.size) nb g3 v' g5 v4:=⟨⟨by omega,fun b hb hn=>by rw[e5'.block b (by omega) (fun k=>hn (.inr (by omega))),nx4.ext.block b hb (fun k=>hn (k.elim .inl (fun k=>k.elim)))]⟩,nx4.own⟩
       have hlp5:eC g5 (h4.size+1) { r0 with state:=.busy }:=(hlp3.ext nx4.ext (hM4 _ (by omega) (by omega))).ext e5' (fun k=>by omega);have hr2:({ ({ r0 with state:=.busy }:Loop) with state:=.ready,pending:=none }:Loop)=r0:=by cases r0;simp at hst hpn;simp[hst,hpn]
       refine⟨_,hlp5,rfl,?_⟩;rw[hr2];have e56:Ext (fun b=>b=h4.size+1) g5 (Lw.fm g5 (h4.size+1) (.loop r0)):=Ext.fm _ _ _ rfl
       have hown4:∀b,v4.ownBlock=some b->¬b=h4.size+1/\¬b=h2.size:=fun b hb=>by
        rcases nx4.own b hb with k|k
        · exact⟨hown' b k,fun k'=>hvg b (by omega) (by omega) (.inr k.symm)⟩
        · omega
       have hdf5:g5[h4.size]? =some (.deferred (some [])):=by
        rw[e5'.block h4.size (by omega) (by omega),nx4.ext.block h4.size (by omega) (hM4 _ (by omega) (by omega)),e13.block h4.size (by omega) (by omega)];exact hdf
       have cap5:=(cap3.ext nx4.ext (hM4 _ (by omega) (by omega))).ext e5' (by omega);refine⟨v4,tC (by omega),by rw[e56.block h4.size (by omega) (by omega)];exact hdf5,cap5.ext e56 l6,?_,?_,?_⟩
       · rw[hcatd];have hn5:bE g5 (fun b=>O b\/(h2.size<=b/\b<hL.size)) nb v4 (lay x (aD (kids.drop (j+1)) ss to).1 (aD (kids.drop (j+1)) ss to).2).1 st:=hn4.ext e5' (by omega) (fun b hb=>(hown4 b hb).2) (fun b _ k=>.inr (by omega)) (fun _ _ k=>k);exact hn5.ext e56 (by omega) (fun b hb=>(hown4 b hb).1) (fun b _ k=>.inr (by omega)) (fun _ _ k=>k)
       · rw[hcatd];exact b55.ext e56 l5
       · exact((nxg.trans ⟨e13.mono (fun b _ k=>.inr (by omega)),fun b k=>.inl k⟩ (fun b _ k=>k)).trans nx45 (fun b _ k=>k)).trans ⟨e56.mono (fun b _ k=>.inr (by omega)),fun b k=>.inl k⟩ (fun b _ k=>k)
     · refine(p5 (l:=h4.size+1) (cap:=h3.size) (n:=kn) (c:=kc) (J:=CF nb h2.size h3.size h4.size r0 hL v (.slice oa kn kc) O kids ss st to) (by omega) (fun j g hJ=>by obtain⟨_,_,_,k,_⟩:=hJ;exact k.cell (i:=0) rfl) hy hJ0).mono fun e g hJ=>?_
       obtain⟨u,rfl,v',hlp,hdf,hcap,hng,hb5,nxg⟩:=hJ;rw[List.drop_zero] at hng hb5;refine⟨_,rfl,r0,hlp,by rw[hst];decide,hpn,?_⟩;have hzg:=nxg.ext.size;have hlz:=hlp.lt;have e1:Ext (fun b=>b=h4.size+1) g (Lw.fm g (h4.size+1) (.loop { r0 with state:=.exhausted })):=Ext.fm _ _ _ rfl;have b5e:=hb5.ext e1 (by omega);have hdfe:=(e1.block h4.size (by omega) (by omega)).trans hdf;have hvg:=hvM nxg;refine GD.oK ?_;refine oR rfl ?_;refine GD.oA func29 rfl ?_;refine iK.bV rfl rfl rfl rfl (dR H.BQ rfl (b5e.cell (i:=0) rfl)) ?_;refine iK.bV rfl rfl rfl rfl (av.assign rfl) ?_;refine kV rfl ?_;refine GD.sub (ρ':=[(0,_),(1,_),(2,_),(3,_),(4,_),(5,_),(6,_),(15,_),(16,_),(25,_),(29,_)]) ⟨rfl,rfl,rfl,rfl,rfl,rfl,rfl,rfl,rfl,rfl,rfl,trivial⟩ ?_;refine GD.B1 func29 rfl hdfe rfl ?_;have e2:Ext (fun b=>b=h4.size) (Lw.fm g (h4.size+1) (.loop { r0 with state:=.exhausted })) (Lw.fm (Lw.fm g (h4.size+1) (.loop { r0 with state:=.exhausted })) h4.size (.deferred none)):=Ext.fm _ _ _ rfl;have e12:Ext (fun b=>b=h4.size+1\/b=h4.size) g _:=(e1.mono fun _ _ k=>.inl k).trans (e2.mono fun _ _ k=>.inr k);have hownv:∀b,v'.ownBlock=some b->¬(b=h4.size+1\/b=h4.size):=fun b hb k=>hvg b (by omega) (by omega) (.inr hb.symm)
       refine⟨_,rfl,v',rfl,hng.ext e12 (by omega) hownv (fun b _ k=>.inr (by omega)) (fun b _ k=>.inl k),?_⟩;have nxe:Nx (fun b=>h2.size<=b) nb h v _ v':=((Nx.DO e0L).trans nxg (fun b _ k=>k.1)).trans ⟨e12.mono (fun b _ k=>.inr k),fun b k=>.inl k⟩ (fun b hb k=>by omega);exact nxe.mono (fun b hb k=>by omega)
   · have h2k':¬k=2:=kk h2k;refine aa ?_;refine bF (fun h3k=>?_) (fun h3k=>?_)
     · obtain rfl:k=3:=by omega
       have hlay:lay (.mk 3 s kids) ss to=((aC kids ss to).1++[⟨0,0,(aC kids ss to).2,0⟩],(aC kids ss to).1.length):=by rw[lay];simp
       rw[hlay];refine aa ?_;refine xp rfl (aE rfl (q4.cell (i:=5) rfl)) ?_;refine aa ?_;refine fG (σ:=Nat×Value) (fun p=>[(9,p.2),(42,.int .i64 (p.1:Nat))]) (fun p h'=>p.1<=kn/\∃v',bE h' (fun b=>O b\/bw p.2.ownBlock b) nb v' (aC (kids.take p.1) ss to).1 st/\cN fX (fun _=>True) h' h3.size 3 p.2 (aC (kids.take p.1) ss to).2/\Nx (fun _=>False) nb h3 v h' v'/\(∀b,p.2.ownBlock=some b->v'.ownBlock≠some b)) (fun p=>kn-p.1) ((0,.slice none 0 0)) ⟨Nat.zero_le _,v,by simpa [aC] using hn3.ah (Ext.refl _ _) (fun b _ k=>k.elim id (fun k=>by cases k)),by simpa [aC] using cN.nil fX (fun _=>True) h3 h3.size 3,Nx.refl,fun b hb=>by cases hb⟩ rfl ?_;rintro⟨i,t9⟩ gh ⟨hi,v',hnH,htH,nxH,hdist⟩ ih2
       try dsimp only
       dsimp only at hi hnH htH nxH hdist;have hzH:=nxH.ext.size;have hz0:=e03.size;have q3H:=q3.ext nxH.ext (hnM _ (Nat.le_refl _));have q5H:=q5.ext nxH.ext (hnM _ (by omega));have hslH:aP jg gh (cX nb v') (.slice oa kn kc) kids:=hsl3.mv nxH.DP;have ht9:∀b,t9.ownBlock=some b->h3.size<=b/\b<gh.size:=fun b hb=>by obtain⟨_,_,k,_⟩:=id htH;exact k.lt hb
       have hlenT:(aC (kids.take i) ss to).2.length=i:=by rw[kE,List.length_take];omega
       refine aa ?_;refine bF (fun hlt=>?_) (fun hlt=>?_)
       · have hik:i<kids.length:=by omega
         obtain⟨x,hx⟩:∃x,kids[i]? =some x:=⟨_,List.getElem?_eq_getElem hik⟩
         obtain⟨oa',n',c',hv',_,_,_,hget⟩:=id hslH;cases hv';obtain⟨b,o,cs,ha,hob,hrow,hnd⟩:=hget i x hx;obtain⟨w2,rfl,-⟩:=hnd.open;have hszx:=Ar hx;have hbl:=cj (kids.take i) ss to
         iterate 4 refine bT ?_
         refine cU ?_;refine xp rfl (bK rfl rfl i rfl ha) ?_;refine xp rfl (gj rfl hrow) ?_;refine xo rfl (jf) ?_;rintro _ h5 ⟨rfl,q11,e5,z5⟩;refine bN rfl (dx rfl rfl q11 (aA.one hnd)) ?_;rintro _ h6 ⟨rfl,q11',e6,z6⟩;have e56:ak gh h6:=e5.only e6 (Nat.le_refl _);have q11':aB h6 gh.size 86 (aX x.kind x.set w2):=q11';have hn6:bE h6 (fun b=>O b\/bw t9.ownBlock b) nb v' (aC (kids.take i) ss to).1 st:=hnH.ah e56 (fun _ _ k=>k);have nx6:Nx (fun _=>False) nb gh v' h6 v':=Nx.DO e56;have hz6:=e56.size;have hnd6:=hnd.mv nx6.DP;refine aa ?_;refine xp rfl (aE rfl ((q3H.ah e56).cell (i:=0) rfl)) ?_;refine xp rfl (gj rfl q11'.row) ?_;refine xp rfl (aE rfl ((q5H.ah e56).cell (i:=0) rfl)) ?_;refine xo rfl (bz rfl (ih (x:=x) (O:=fun b=>O b\/bw t9.ownBlock b) (to:=to) (by omega) hn6 (fun b hb=>by rcases hb with k|k;(have:=hO3 b k;omega);(have:=ht9 b k.symm;omega)) hnd6 (mZ hwl hx) (by omega))) ?_;rintro _ h7 ⟨v7,rfl,hn7,nx7⟩
         have ht7:cN fX (fun _=>True) h7 h3.size 3 t9 (aC (kids.take i) ss to).2:=(htH.ah e56).o9 nx7.ext (fun b hb=>by
          rintro((k1|k1)|k1)
          · have:=ht9 b hb;omega
          · exact hdist b hb k1.symm
          · exact k1) (fun _ _ _=>trivial) (fun _ _ _=>trivial)
         obtain⟨css,hc1,hc2,hc3⟩:=id ht7;have hz7:=nx7.ext.size;refine xo rfl (ji [_]) ?_;rintro _ _ ⟨rfl,rfl⟩;refine xo rfl (oS rfl rfl hc2 rfl rfl) ?_;rintro t9' h8 ⟨ho8,hx8,-,hv8⟩;refine aa ?_;have ht8:cN fX (fun _=>True) h8 h3.size 3 t9' ((aC (kids.take i) ss to).2++[(lay x (aC (kids.take i) ss to).1 to).2]):=cN.fo hc1 hc3 ho8 hx8 hv8 rfl
         have hn8:bE h8 (fun b=>O b\/bw t9'.ownBlock b) nb v7 (lay x (aC (kids.take i) ss to).1 to).1 st:=hn7.ext hx8 (fun k=>by have:=ht9 nb k.symm;omega) (fun b hb k=>by
          rcases nx7.own b hb with k'|k'
          · exact hdist b k.symm k'
          · have:=ht9 b k.symm;omega) (fun b _ k=>.inr k) (fun b hb k=>k.imp id (fun k=>by
            rcases hv8 b k.symm with k'|k'
            · exact k'.symm
            · omega))
         have hd8:∀b,t9'.ownBlock=some b->v7.ownBlock≠some b:=fun b hb k=>by
          rcases hv8 b hb with k'|k'
          · rcases nx7.own b k with k2|k2
            · exact hdist b k' k2
            · have:=ht9 b k';omega
          · have:=(hn7.own b k).2;omega
         exact ih2 (i+1,t9') ⟨by show i+1<=kn;omega,v7,by rw[pq hx];exact hn8,by rw[pq hx];exact ht8,⟨⟨by have:=hx8.size;omega,fun b hb hn=>by rw[hx8.block b (by omega) (fun k=>by have:=ht9 b k.symm;omega)];exact((nxH.trans nx6 (fun _ _ k=>k)).trans nx7 (fun _ _ k=>k)).ext.block b hb hn⟩,((nxH.trans nx6 (fun _ _ k=>k)).trans nx7 (fun _ _ k=>k)).own⟩,hd8⟩
       · obtain rfl:i=kn:=by omega
         have hall:kids.take i=kids:=List.take_of_length_le (by omega);rw[hall] at hnH htH hlenT;have hbl:=cj kids ss to
         have hrd:aP fX gh (fun b=>cX nb v' b\/O b) t9 (aC kids ss to).2:=htH.tB (fun b hb=>by
          rintro((k1|k1)|k1)
          · have:=ht9 b hb;omega
          · exact hdist b hb k1.symm
          · have:=ht9 b hb;have:=hO3 b k1;omega) (fun _ _ _=>trivial)
         obtain⟨oa9,n9,c9,rfl,_⟩:=id hrd;refine aa ?_;refine xp rfl (aE rfl (q3H.cell (i:=0) rfl)) ?_;refine aa ?_;refine xp rfl (aq (H.ye _ _ _) rfl) ?_;refine xo rfl (bz rfl (kU (O:=O) (hnH.ah (Ext.refl _ _) (fun b _ k=>.inl k)) (fun b hb=>by have:=hO3 b hb;omega) hrd (by omega))) ?_;rintro _ h5 ⟨v5,rfl,hn5,nx5⟩;refine aa ?_;refine bU ?_;exact⟨_,rfl,v5,rfl,hn5,(nx3.trans nxH (fun _ _ k=>k)).trans nx5 (fun _ _ k=>k)⟩
     · have h3k':¬k=3:=kk h3k;refine aa ?_;refine bF (fun h6k=>?_) (fun h6k=>?_)
       · obtain rfl:k=6:=by omega
         have hone:kids.length=1:=by simp[ig] at hw;exact hw.1
         obtain⟨x,rfl⟩:∃x,kids=[x]:=by match kids,hone with| [x],_=>exact⟨x,rfl⟩
         have hkn1:kn=1:=by simpa using hkn.symm
         have hszx:fV x<=cQ [x]:=by simp[cQ]
         have hwx:ig x=true:=by simpa [ic] using hwl
         have hlay:lay (.mk 6 s [x]) ss to=((lay x ss to).1++[⟨0,0,[(lay x ss to).2,to],0⟩],(lay x ss to).1.length):=by rw[lay];simp[aM]
         rw[hlay];have hz0:=e03.size;obtain⟨oa',n',c',hv',_,_,_,hget⟩:=id hsl3;cases hv';obtain⟨b,o,cs,ha,hob,hrow,hnd⟩:=hget 0 x rfl;obtain⟨w2,rfl,-⟩:=hnd.open
         have hnM3:∀b,h.size<=b->b<h3.size->¬(cX nb v b\/h3.size<=b):=by
          rintro b hb hb' ((k1|k1)|k1)
          · omega
          · have:=hown b k1.symm;omega
          · omega
         have hbM:¬(cX nb v b\/h3.size<=b):=by
          rintro(k1|k1)
          · exact hob k1
          · have:=fQ hrow (by simp[aX]);omega
         have m3:=hnM3 h.size (Nat.le_refl _) (by omega);have m4:=hnM3 h1.size (by omega) (by omega);have m5:=hnM3 h2.size (by omega) (by omega);have hlenx:=cD x ss to;refine aa ?_;refine vg 13 (fun b=>cX nb v b\/Array.size h3<=b) (fun i=>Nat.blt i 13) ?_;refine bL 0 rfl (fun h' e=>aE rfl (e.cell m3 (q3.cell (i:=0) rfl))) ?_;refine bL 1 rfl (fun h' e=>aE rfl (e.cell m3 (q3.cell (i:=0) rfl))) ?_;refine aS 2 ?_;refine bL 3 rfl (fun h' e=>aE rfl (e.cell m4 (q4.cell (i:=5) rfl))) ?_;refine bL 4 rfl (fun h' e=>bK rfl rfl 0 rfl ha) ?_;refine bL 5 rfl (fun h' e=>gj rfl (e.rowAt hbM hrow)) ?_;refine bL 6 rfl (fun h' e=>aE rfl (e.cell m5 (q5.cell (i:=0) rfl))) ?_;refine bL 8 rfl (fun h' e=>aE rfl (e.cell m5 (q5.cell (i:=0) rfl))) ?_;refine eZ 7 rfl (bz rfl (ih (x:=x) (O:=O) (to:=to) (by omega) hn3 hO3 hnd hwx (by omega))) ?_;rintro _ h5 ⟨v5,rfl,hn5,nx5⟩;refine⟨fun _=>nx5.ext.mono (fun b _ k=>k.elim .inl (fun k=>k.elim)),?_⟩;have hz5:=nx5.ext.size;have hown5:=hn5.own
         have hnew5:∀t,aP fX (h5.push (.cells #[.int .i64 ((lay x ss to).2:Nat),.int .i64 (to:Nat)] t)) (fun b=>cX nb v5 b\/O b) (.slice (some ⟨h5.size,0,none⟩) 2 2) [(lay x ss to).2,to]:=fun t=>E3 t _ _ (by
          rintro((k1|k1)|k1)
          · omega
          · have:=hown5 _ k1.symm;omega
          · have:=hO3 _ k1;omega)
         refine eZ 9 rfl (ji [_,_]) ?_;rintro _ _ ⟨rfl,rfl⟩;refine⟨fun _=>by first|exact Ext.push _ _ _|assumption,?_⟩;refine bL 10 rfl (fun h' e=>aq (H.ye _ _ _) rfl) ?_;refine eZ 11 rfl (bz rfl (kU (O:=O) (hn5.ah (Ext.push _ _ _) (fun _ _ k=>k)) (fun b hb=>by have:=hO3 b hb;simp;omega) (hnew5 _) (by omega))) ?_;rintro _ h6 ⟨v6,rfl,hn6,nx6⟩;refine⟨fun _=>nx6.ext.mono (fun b _ k=>by rcases k with (k1|k1)|k1;(exact .inl (.inl k1));(rcases nx5.own b k1.symm with k2|k2;(exact .inl (.inr k2.symm));exact .inr k2);exact k1.elim),?_⟩;refine aS 12 ?_;refine lg ?_;refine bU ?_;exact⟨_,rfl,v6,rfl,hn6,((nx3.trans nx5 (fun _ _ k=>k)).trans (Nx.DO (Ext.push _ _ _)) (fun _ _ k=>k)).trans nx6 (fun _ _ k=>k)⟩
       · have h6k':¬k=6:=kk h6k;refine aa ?_;refine bF (fun h4k=>?_) (fun h4k=>?_)
         · obtain rfl:k=4:=by omega
           have hone:kids.length=1:=by simp[ig] at hw;exact hw.1
           obtain⟨x,rfl⟩:∃x,kids=[x]:=by match kids,hone with| [x],_=>exact⟨x,rfl⟩
           have hkn1:kn=1:=by simpa using hkn.symm
           have hszx:fV x<=cQ [x]:=by simp[cQ]
           have hwx:ig x=true:=by simpa [ic] using hwl
           have hlay:lay (.mk 4 s [x]) ss to=((lay x (ss++[⟨0,0,[],0⟩]) ss.length).1.set ss.length ⟨0,0,[(lay x (ss++[⟨0,0,[],0⟩]) ss.length).2,to],0⟩,ss.length):=by rw[lay];simp[aM]
           rw[hlay];refine aa ?_;refine n6 rfl (by simp) ?_;refine aa ?_;refine xp rfl (aE rfl (q3.cell (i:=0) rfl)) ?_;refine xp rfl (aq (H.CW ) rfl) ?_;refine xo rfl (bz rfl (kU (O:=O) (to:=[]) hn3 hO3 (aP.nil _ _ _) (by omega))) ?_;rintro _ h5 ⟨v5,rfl,hn5,nx5⟩;have hz5:=nx5.ext.size;have hz0:=e03.size;have q3':=q3.ext nx5.ext (hnM _ (Nat.le_refl _));have q4':=q4.ext nx5.ext (hnM _ (by omega));have q5':=q5.ext nx5.ext (hnM _ (by omega));have hsl5:aP jg h5 (cX nb v5) (.slice oa kn kc) [x]:=hsl3.mv nx5.DP;obtain⟨oa',n',c',hv',_,_,_,hget⟩:=id hsl5;cases hv';obtain⟨b,o,cs,ha,hob,hrow,hnd⟩:=hget 0 x rfl;obtain⟨w2,rfl,-⟩:=hnd.open;have hown5:=hn5.own
           have hnM5:∀b,h.size<=b->b<h3.size->¬(cX nb v5 b\/h5.size<=b):=by
            rintro b hb hb' ((k1|k1)|k1)
            · omega
            · rcases nx5.own b k1.symm with k2|k2
              · have:=hown b k2;omega
              · omega
            · omega
           have hbM:¬(cX nb v5 b\/h5.size<=b):=by
            rintro(k1|k1)
            · exact hob k1
            · have:=fQ hrow (by simp[aX]);omega
           have m3:=hnM5 h.size (Nat.le_refl _) (by omega);have m4:=hnM5 h1.size (by omega) (by omega);refine aa ?_;refine vg 8 (fun b=>cX nb v5 b\/Array.size h5<=b) (fun i=>Nat.blt i 8) ?_;refine bL 0 rfl (fun h' e=>aE rfl (e.cell m3 (q3'.cell (i:=0) rfl))) ?_;refine aS 1 ?_;refine bL 2 rfl (fun h' e=>aE rfl (e.cell m4 (q4'.cell (i:=5) rfl))) ?_;refine bL 3 rfl (fun h' e=>bK rfl rfl 0 rfl ha) ?_;refine bL 4 rfl (fun h' e=>gj rfl (e.rowAt hbM hrow)) ?_;refine aS 5 ?_;refine eZ 6 rfl (bz rfl (ih (x:=x) (O:=O) (to:=ss.length) (by omega) hn5 (fun b hb=>by have:=hO3 b hb;omega) hnd hwx (by simp;omega))) ?_;rintro _ h6 ⟨v6,rfl,hn6,nx6⟩;refine⟨fun _=>nx6.ext.mono (fun b _ k=>k.elim .inl (fun k=>k.elim)),?_⟩;have hz6:=nx6.ext.size;have nx36:=nx5.trans nx6 (fun _ _ k=>k);have q3':=q3.ext nx36.ext (hnM _ (Nat.le_refl _));have q4':=q4.ext nx36.ext (hnM _ (by omega));have q5':=q5.ext nx36.ext (hnM _ (by omega));have hown6:=hn6.own;have hlen6:=cD x (ss++[⟨0,0,[],0⟩]) ss.length;rw[List.length_append,List.length_singleton] at hlen6;have hpre:(lay x (ss++[⟨0,0,[],0⟩]) ss.length).1[ss.length]? =some ⟨0,0,[],0⟩:=by rw[eO x _ _ _ (by simp)];simp
           have hn6c:=hn6.blk.cell (i:=0) rfl
           have hnM6:∀b,h.size<=b->b<h3.size->¬(cX nb v6 b\/h6.size<=b):=by
            rintro b hb hb' ((k1|k1)|k1)
            · omega
            · rcases nx36.own b k1.symm with k2|k2
              · have:=hown b k2;omega
              · omega
            · omega
           have hnew6:∀t,aP fX (h6.push (.cells #[.int .i64 ((lay x (ss++[⟨0,0,[],0⟩]) ss.length).2:Nat),.int .i64 (to:Nat)] t)) (fun b=>bw v6.ownBlock b\/b=nb\/O b) (.slice (some ⟨h6.size,0,none⟩) 2 2) [(lay x (ss++[⟨0,0,[],0⟩]) ss.length).2,to]:=fun t=>E3 t _ _ (by
            rintro(k1|k1|k1)
            · have:=hown6 _ k1.symm;omega
            · omega
            · have:=hO3 _ k1;omega)
           generalize hout:lay x (ss++[⟨0,0,[],0⟩]) ss.length=out at *;have hn7:bE (h6.push (.cells #[.int .i64 (out.2:Nat),.int .i64 (to:Nat)] 3)) O nb v6 out.1 st:=hn6.ah (Ext.push _ _ _) (fun _ _ k=>k);obtain⟨g,c6,cs6,hv6,hg1,hg2,hg3,hg4,hg5,hg6⟩:=hn7.row.put hpre;obtain⟨w6,rfl,_⟩:=hg5;subst hv6;have hput:=hg6 5 (.slice (some ⟨h6.size,0,none⟩) 2 2) ⟨0,0,[out.2,to],0⟩ (by decide) ⟨_,rfl,hnew6 _⟩;have hgb:h6.size=g\/g<h6.size:=by have:=hown6 g rfl;omega
           have hg6':g<h6.size:=(hown6 g rfl).2;have hcell7:cellAt (h6.push (.cells #[.int .i64 (out.2:Nat),.int .i64 (to:Nat)] 3)) ⟨g,0+ss.length*7+5,none⟩=some w6:=hg3 5 _ rfl;have m6:=hnM6 h1.size (by omega) (by omega);have j4:¬h1.size=g:=fun k=>m6 (.inl (.inr (by rw[k];rfl)))
           have j3:¬h6.size<=h.size:=by omega
           have j0:¬h6.size<=nb:=by omega
           have j5:¬h6.size<=h2.size:=by omega
           refine aS 7 ?_;refine lg ?_;refine aa ?_;refine vg 11 (fun b=>Array.size h6<=b) (fun i=>Nat.blt i 10) ?_;refine bL 0 rfl (fun h' e=>aE rfl (e.cell j3 (q3'.cell (i:=0) rfl))) ?_;refine aS 1 ?_;refine aS 2 ?_;refine bL 3 rfl (fun h' e=>aE rfl (e.cell j0 hn6c)) ?_;refine aS 4 ?_;refine aS 5 ?_;refine bL 6 rfl (fun h' e=>aE rfl (e.cell j5 (q5'.cell (i:=0) rfl))) ?_;refine eZ 7 rfl (ji [_,_]) ?_;rintro _ _ ⟨rfl,rfl⟩;refine⟨fun _=>by first|exact Ext.push _ _ _|assumption,?_⟩;refine E0 8 rfl (bK rfl rfl ss.length rfl rfl) ?_;refine aS 9 ?_;refine qp 10 rfl (aI H.y5 rfl rfl rfl hcell7 (hg4 _)) ?_;rintro _ _ ⟨rfl,rfl⟩;refine⟨nofun,?_⟩;refine lg ?_;refine aa ?_;have hz7:∀u,(bY (h6.push (.cells #[.int .i64 (out.2:Nat),.int .i64 (to:Nat)] 3)) ⟨g,0+ss.length*7+5,none⟩ u).size=h6.size+1:=fun u=>by rw[fj];simp
           have ex7:∀u,Ext (fun b=>b=g) h6 (bY (h6.push (.cells #[.int .i64 (out.2:Nat),.int .i64 (to:Nat)] 3)) ⟨g,0+ss.length*7+5,none⟩ u):=fun u=>⟨by rw[hz7];omega,fun b hb hn=>by rw[(Ext.bY (M:=fun b=>b=g) _ _ u rfl).block b (by simp;omega) hn,(Ext.push (fun _=>False) h6 _).block b hb (fun k=>k)]⟩
           refine xp rfl (aE rfl ((q4'.ext (ex7 _) j4).cell (i:=0) rfl)) ?_;refine aa ?_;refine oe rfl (by decide) ?_;refine aa ?_;refine bU ?_;exact⟨_,rfl,_,rfl,⟨hn6.blk.ext (ex7 _) (by have:=hown6 g rfl;omega),hput⟩,((nx3.trans nx36 (fun _ _ k=>k)).trans ⟨(ex7 _).mono (fun b _ k=>.inl (.inr (by rw[k];rfl))),fun b k=>.inl k⟩ (fun _ _ k=>k))⟩
         · have h4k':¬k=4:=kk h4k;refine aa ?_;refine bF (fun h5k=>?_) (fun h5k=>?_)
           · obtain rfl:k=5:=by omega
             have hone:kids.length=1:=by simp[ig] at hw;exact hw.1
             obtain⟨x,rfl⟩:∃x,kids=[x]:=by match kids,hone with| [x],_=>exact⟨x,rfl⟩
             have hkn1:kn=1:=by simpa using hkn.symm
             have hszx:fV x<=cQ [x]:=by simp[cQ]
             have hwx:ig x=true:=by simpa [ic] using hwl
             have hlay:lay (.mk 5 s [x]) ss to=((lay x (ss++[⟨0,0,[],0⟩]) ss.length).1.set ss.length ⟨0,0,[(lay x (ss++[⟨0,0,[],0⟩]) ss.length).2,to],0⟩,(lay x (ss++[⟨0,0,[],0⟩]) ss.length).2):=by rw[lay];simp[aM]
             rw[hlay];refine aa ?_;refine xp rfl (aE rfl (q3.cell (i:=0) rfl)) ?_;refine xp rfl (aq (H.CW ) rfl) ?_;refine xo rfl (bz rfl (kU (O:=O) (to:=[]) hn3 hO3 (aP.nil _ _ _) (by omega))) ?_;rintro _ h5 ⟨v5,rfl,hn5,nx5⟩;have hz5:=nx5.ext.size;have hz0:=e03.size;have q3':=q3.ext nx5.ext (hnM _ (Nat.le_refl _));have q4':=q4.ext nx5.ext (hnM _ (by omega));have q5':=q5.ext nx5.ext (hnM _ (by omega));have hsl5:aP jg h5 (cX nb v5) (.slice oa kn kc) [x]:=hsl3.mv nx5.DP;obtain⟨oa',n',c',hv',_,_,_,hget⟩:=id hsl5;cases hv';obtain⟨b,o,cs,ha,hob,hrow,hnd⟩:=hget 0 x rfl;obtain⟨w2,rfl,-⟩:=hnd.open;have hown5:=hn5.own
             have hnM5:∀b,h.size<=b->b<h3.size->¬(cX nb v5 b\/h5.size<=b):=by
              rintro b hb hb' ((k1|k1)|k1)
              · omega
              · rcases nx5.own b k1.symm with k2|k2
                · have:=hown b k2;omega
                · omega
              · omega
             have hbM:¬(cX nb v5 b\/h5.size<=b):=by
              rintro(k1|k1)
              · exact hob k1
              · have:=fQ hrow (by simp[aX]);omega
             have m3:=hnM5 h.size (Nat.le_refl _) (by omega);have m4:=hnM5 h1.size (by omega) (by omega);refine aa ?_;refine vg 8 (fun b=>cX nb v5 b\/Array.size h5<=b) (fun i=>Nat.blt i 8) ?_;refine bL 0 rfl (fun h' e=>aE rfl (e.cell m3 (q3'.cell (i:=0) rfl))) ?_;refine aS 1 ?_;refine bL 2 rfl (fun h' e=>aE rfl (e.cell m4 (q4'.cell (i:=5) rfl))) ?_;refine bL 3 rfl (fun h' e=>bK rfl rfl 0 rfl ha) ?_;refine bL 4 rfl (fun h' e=>gj rfl (e.rowAt hbM hrow)) ?_;refine aS 5 ?_;refine eZ 6 rfl (bz rfl (ih (x:=x) (O:=O) (to:=ss.length) (by omega) hn5 (fun b hb=>by have:=hO3 b hb;omega) hnd hwx (by simp;omega))) ?_;rintro _ h6 ⟨v6,rfl,hn6,nx6⟩;refine⟨fun _=>nx6.ext.mono (fun b _ k=>k.elim .inl (fun k=>k.elim)),?_⟩;have hz6:=nx6.ext.size;have nx36:=nx5.trans nx6 (fun _ _ k=>k);have q3':=q3.ext nx36.ext (hnM _ (Nat.le_refl _));have q4':=q4.ext nx36.ext (hnM _ (by omega));have q5':=q5.ext nx36.ext (hnM _ (by omega));have hown6:=hn6.own;have hlen6:=cD x (ss++[⟨0,0,[],0⟩]) ss.length;rw[List.length_append,List.length_singleton] at hlen6;have hpre:(lay x (ss++[⟨0,0,[],0⟩]) ss.length).1[ss.length]? =some ⟨0,0,[],0⟩:=by rw[eO x _ _ _ (by simp)];simp
             have hn6c:=hn6.blk.cell (i:=0) rfl
             have hnM6:∀b,h.size<=b->b<h3.size->¬(cX nb v6 b\/h6.size<=b):=by
              rintro b hb hb' ((k1|k1)|k1)
              · omega
              · rcases nx36.own b k1.symm with k2|k2
                · have:=hown b k2;omega
                · omega
              · omega
             have hnew6:∀t,aP fX (h6.push (.cells #[.int .i64 ((lay x (ss++[⟨0,0,[],0⟩]) ss.length).2:Nat),.int .i64 (to:Nat)] t)) (fun b=>bw v6.ownBlock b\/b=nb\/O b) (.slice (some ⟨h6.size,0,none⟩) 2 2) [(lay x (ss++[⟨0,0,[],0⟩]) ss.length).2,to]:=fun t=>E3 t _ _ (by
              rintro(k1|k1|k1)
              · have:=hown6 _ k1.symm;omega
              · omega
              · have:=hO3 _ k1;omega)
             generalize hout:lay x (ss++[⟨0,0,[],0⟩]) ss.length=out at *;have hn7:bE (h6.push (.cells #[.int .i64 (out.2:Nat),.int .i64 (to:Nat)] 3)) O nb v6 out.1 st:=hn6.ah (Ext.push _ _ _) (fun _ _ k=>k);obtain⟨g,c6,cs6,hv6,hg1,hg2,hg3,hg4,hg5,hg6⟩:=hn7.row.put hpre;obtain⟨w6,rfl,_⟩:=hg5;subst hv6;have hput:=hg6 5 (.slice (some ⟨h6.size,0,none⟩) 2 2) ⟨0,0,[out.2,to],0⟩ (by decide) ⟨_,rfl,hnew6 _⟩;have hgb:h6.size=g\/g<h6.size:=by have:=hown6 g rfl;omega
             have hg6':g<h6.size:=(hown6 g rfl).2;have hcell7:cellAt (h6.push (.cells #[.int .i64 (out.2:Nat),.int .i64 (to:Nat)] 3)) ⟨g,0+ss.length*7+5,none⟩=some w6:=hg3 5 _ rfl;have m6:=hnM6 h1.size (by omega) (by omega);have j4:¬h1.size=g:=fun k=>m6 (.inl (.inr (by rw[k];rfl)))
             have j3:¬h6.size<=h.size:=by omega
             have j0:¬h6.size<=nb:=by omega
             have j5:¬h6.size<=h2.size:=by omega
             refine aS 7 ?_;refine lg ?_;refine aa ?_;refine vg 11 (fun b=>Array.size h6<=b) (fun i=>Nat.blt i 10) ?_;refine bL 0 rfl (fun h' e=>aE rfl (e.cell j3 (q3'.cell (i:=0) rfl))) ?_;refine aS 1 ?_;refine aS 2 ?_;refine bL 3 rfl (fun h' e=>aE rfl (e.cell j0 hn6c)) ?_;refine aS 4 ?_;refine aS 5 ?_;refine bL 6 rfl (fun h' e=>aE rfl (e.cell j5 (q5'.cell (i:=0) rfl))) ?_;refine eZ 7 rfl (ji [_,_]) ?_;rintro _ _ ⟨rfl,rfl⟩;refine⟨fun _=>by first|exact Ext.push _ _ _|assumption,?_⟩;refine E0 8 rfl (bK rfl rfl ss.length rfl rfl) ?_;refine aS 9 ?_;refine qp 10 rfl (aI H.y5 rfl rfl rfl hcell7 (hg4 _)) ?_;rintro _ _ ⟨rfl,rfl⟩;refine⟨nofun,?_⟩;refine lg ?_;refine aa ?_;have hz7:∀u,(bY (h6.push (.cells #[.int .i64 (out.2:Nat),.int .i64 (to:Nat)] 3)) ⟨g,0+ss.length*7+5,none⟩ u).size=h6.size+1:=fun u=>by rw[fj];simp
             have ex7:∀u,Ext (fun b=>b=g) h6 (bY (h6.push (.cells #[.int .i64 (out.2:Nat),.int .i64 (to:Nat)] 3)) ⟨g,0+ss.length*7+5,none⟩ u):=fun u=>⟨by rw[hz7];omega,fun b hb hn=>by rw[(Ext.bY (M:=fun b=>b=g) _ _ u rfl).block b (by simp;omega) hn,(Ext.push (fun _=>False) h6 _).block b hb (fun k=>k)]⟩
             refine xp rfl (aE rfl ((q4'.ext (ex7 _) j4).cell (i:=0) rfl)) ?_;refine aa ?_;refine n6 rfl (by decide) ?_;refine aa ?_;refine bU ?_;exact⟨_,rfl,_,rfl,⟨hn6.blk.ext (ex7 _) (by have:=hown6 g rfl;omega),hput⟩,((nx3.trans nx36 (fun _ _ k=>k)).trans ⟨(ex7 _).mono (fun b _ k=>.inl (.inr (by rw[k];rfl))),fun b k=>.inl k⟩ (fun _ _ k=>k))⟩
           · have h5k':¬k=5:=kk h5k;have hlay:lay (.mk k s kids) ss to=(ss,to):=by rw[lay];simp[h1k',h2k',h3k',h4k',h5k',h6k']
             rw[hlay];refine aa ?_;refine xp rfl (aE rfl (q5.cell (i:=0) rfl)) ?_;refine aa ?_;refine bU ?_;exact⟨_,rfl,v,rfl,hn3,nx3⟩
theorem A4:∀n,BH n
 | 0=>by
  intro hs;have:=gz ‹Nd›;omega
 |n+1=>A5 (A4 n)
def CS:gI By:=.flat (fun s=>.string (bs s)) fun _=>rfl
def tX (h h':af) (rules:List By) (r:Value):Prop :=
 match cC rules with
 |.inl e=>r= .tuple #[.pointer none,.int .i64 e]
 |.inr (ss,st)=>∃nb v,r= .tuple #[.pointer (some ⟨nb,0,none⟩),.int .i64 0]/\h.size<=nb/\bE h' (fun b=>b<h.size) nb v ss st
theorem BB {O:Nat->Prop}{nb:Nat}{v:Value}{ss:List aH}{st:Nat}(i:Nat) (hn:bE h O nb v ss st) (hO:∀b,O b->b<h.size) (hl:ss.length<=1000000) :
 an Tryd.prog 30 #[.pointer (some ⟨nb,0,none⟩),.agg #[.int .i64 2,.int .u64 0,.int .u64 0,.int .u64 0,.int .u64 0,.slice none 0 0,.int .i64 (i:Nat)]] h (b8 (Cy O nb h v st (ss++[⟨2,0,[],i⟩],ss.length))):=by
 have h1:=uX (x:=⟨2,0,[],i⟩) hn hO ⟨.slice none 0 0,rfl,aP.nil _ _ _⟩ hl;simp only[za,Bk] at h1;exact h1
theorem xH {lim:Nat}(hg:Sg h lim) (hlim:lim<=h.size){rv:Value}{rules:List By}(hr:aP CS h (fun _=>False) rv rules) (hrl:∀s∈rules,s.length<=1000000) :
 an Tryd.prog 16 #[rv] h (b8 fun r h'=>tX h h' rules r/\ak h h'):=by
 obtain⟨oa,kn,kc,rfl,hsl⟩:=id hr.open;have hkn:=hsl.len;have hkc:=hsl.le;have hcap:=hsl.cap;generalize htgt:cZ 0 rules [] []=tgt;refine cV ?_;refine bT ?_;refine cU ?_
 iterate 2 refine aY ?_
 refine eW ?_
 iterate 2 refine bT ?_
 refine jY [(18,.bool (decide (kn=0\/64<kn)))] rfl ?_ ?_
 · refine aa ?_;refine ie 14 (fun hg=>?_) (fun hg=>?_)
   · refine aa ?_;exact bH rfl ⟨au rfl (by have:=of_decide_eq_true hg;simp;omega),sb rfl⟩
   · refine aa ?_;exact bH rfl ⟨au rfl (by have:=of_decide_eq_false hg;simp only[decide_eq_decide];omega),sb rfl⟩
 · refine bF (fun hbig=>?_) (fun hbig=>?_)
   · refine aa ?_;refine bU ?_;refine⟨_,rfl,?_,Ext.refl _ _⟩;have:cC rules= .inl 2:=by unfold cC;rw[if_pos (show rules.length=0\/64<rules.length by omega)]
     rw[tX,this];rfl
   · have hmk:cC rules=match cZ 0 rules [] [] with|.inl e=>.inl e|.inr (ss,t)=>if 2000<jk rules then .inl 70 else .inr (ss++[⟨0,0,t,0⟩],ss.length):=by unfold cC;rw[if_neg (show ¬(rules.length=0\/64<rules.length) by omega)]<;>rfl
     rw[htgt] at hmk;refine aa ?_;refine xp rfl (aq (H.Ew ) rfl) ?_;refine xo rfl (wY) ?_;rintro _ h1 ⟨rfl,q4,e1,z1⟩;have q4:aB h1 h.size 83 [.slice none 0 0,.int .i64 (0:Nat)]:=q4;have hn1:bE h1 (fun b=>b<h.size) h.size (.slice none 0 0) [] 0:=⟨q4,cN.nil _ _ _ _ _⟩
     refine aa ?_;refine fG (σ:=Nat×Value) (fun p=>[(5,p.2),(6,.int .i64 (jk (rules.take p.1):Nat)),(23,.int .i64 (p.1:Nat))]) (fun p h'=>p.1<=kn/\∃v ss t,bE h' (fun b=>b<h.size\/bw p.2.ownBlock b) h.size v ss 0/\cN fX (fun _=>True) h' h1.size 3 p.2 t/\Nx (fun _=>False) h.size h1 (.slice none 0 0) h' v/\(∀b,p.2.ownBlock=some b->v.ownBlock≠some b)/\(ss.length<=402*p.1/\jk (rules.take p.1)<=200*p.1/\t.length=p.1)/\cZ p.1 (rules.drop p.1) ss t=tgt) (fun p=>kn-p.1) ((0,.slice none 0 0)) ⟨Nat.zero_le _,_,[],[],hn1.ah (Ext.refl _ _) (fun b _ k=>k.elim id (fun k=>by cases k)),cN.nil _ _ _ _ _,Nx.refl,fun b hb=>(by cases hb),⟨Nat.zero_le _,by simp[jk],rfl⟩,htgt⟩ rfl ?_;rintro⟨i,tv⟩ g0 ⟨hi,v,ss,t,hng,htg,nxg,hdist,⟨hss,htot,htl⟩,hcon⟩ ih
     try dsimp only
     dsimp only at hi hng htg nxg hdist hss htot htl hcon;have hz0:=nxg.ext.size;have htv:∀b,tv.ownBlock=some b->h1.size<=b/\b<g0.size:=fun b hb=>by obtain⟨_,_,k,_⟩:=id htg;exact k.lt hb
     have e0g:ak h g0:=⟨by omega,fun b hb _=>(nxg.ext.block b (by omega) (by
      rintro((k|k)|k)
      · omega
      · cases k
      · exact k)).trans (e1.block b hb (fun k=>k))⟩
     have hown:=hng.own;have hnlt:=hng.blk.lt;refine aa ?_;refine bF (fun hlt=>?_) (fun hlt=>?_)
     · obtain⟨s,hs⟩:∃s,rules[i]? =some s:=⟨_,List.getElem?_eq_getElem (by omega)⟩
       have hdr:rules.drop i=s::rules.drop (i+1):=by
        obtain⟨hi',rfl⟩:=List.getElem?_eq_some_iff.1 hs;exact List.drop_eq_getElem_cons hi'
       rw[hdr,cZ] at hcon;obtain⟨oa',n',c',hv',_,_,_,hget⟩:=id (hr.ah e0g);cases hv';obtain⟨b,o,cs,ha,hob,hrow,rfl⟩:=hget i s hs
       iterate 4 refine bT ?_
       refine cU ?_;refine aY ?_;refine xp rfl (bK rfl rfl i rfl ha) ?_;refine xp rfl (aE rfl (hrow 0 _ rfl)) ?_;refine aa ?_;refine xo rfl (bz rfl (vN (hg.ext e0g (fun _ k=>k.elim)) (by omega) s (hrl s (List.mem_of_getElem? hs)))) ?_;rintro _ g1 ⟨⟨w,rfl,hnd⟩,e01⟩;refine aa ?_;refine xo rfl (jf) ?_;rintro _ g2 ⟨rfl,k9,e12,z12⟩;refine bN rfl (dx rfl rfl k9 (aA.one hnd)) ?_;rintro _ g3 ⟨rfl,k9',e23,z23⟩;refine aa ?_;have k9':aB g3 g1.size 86 (aX (az s).1.kind (az s).1.set w):=k9';refine bF (fun herr=>?_) (fun herr=>?_)
       · rw[if_pos (by exact herr)] at hcon;refine aa ?_;refine bU ?_;have e3:ak h g3:=(e0g.trans e01).trans (e12.only e23 (Nat.le_refl _));refine⟨_,rfl,?_,e3⟩;rw[<-hcon] at hmk;rw[tX,hmk];rfl
       · have h0:(az s).2=0:=by simpa using herr
         rw[if_neg (by simpa using h0)] at hcon;have hsmall:=dB h0;have hbs:=dF s;have ecc:ak g1 g3:=e12.only e23 (Nat.le_refl _);have e03:ak g0 g3:=e01.trans ecc;have hz1:=e01.size;have hz3:=ecc.size;have hz13:g1.size<g3.size:=by omega
         iterate 2 refine bT ?_
         refine jY [(6,.int .i64 (jk (rules.take (i+1)):Nat))] rfl ?_ ?_
         · refine aa ?_;exact bH rfl ⟨(by show some (Value.int _ _)=some (Value.int _ _);rw[og hs];congr 2),sb rfl⟩
         · have hn3:bE g3 (fun b=>b<h.size\/bw tv.ownBlock b) h.size v ss 0:=hng.ah e03 (fun _ _ k=>k);have hO3:∀b,(b<h.size\/bw tv.ownBlock b)->b<g3.size:=fun b hb=>by rcases hb with k|k;omega;(have:=htv b k.symm;omega)
           have hnd3:aA g3 (cX h.size v) (aX (az s).1.kind (az s).1.set w) (az s).1:=hnd.mv ⟨ecc.size,fun b hb hn=>⟨ecc.block b hb (fun k=>k),by
            rintro(k|k)
            · exact hn (by show b<g0.size;omega)
            · exact hn (by show b<g0.size;exact(hown b k.symm).2)⟩⟩
           have hK1:¬(cX h.size v g1.size\/False):=by
            rintro((k|k)|k)
            · omega
            · have:=hown _ k.symm;omega
            · exact k
           refine vg 11 (fun b=>¬b=Array.size g1) (fun i=>Nat.blt i 11) ?_;refine aS 0 ?_;refine aS 1 ?_;refine bL 2 rfl (fun h' e=>gj rfl (e.rowAt (fun k=>k rfl) k9'.row)) ?_;refine aS 3 ?_;refine aS 4 ?_;refine bL 5 rfl (fun h' e=>aq (H.Br _ _) rfl) ?_;refine eZ 6 rfl (bz rfl (BB i hn3 hO3 (by omega))) ?_;rintro _ g4 ⟨v4,rfl,hn4,nx4⟩;refine⟨fun _=>nx4.ext.mono (fun b _ k e=>hK1 (e▸k)),?_⟩;have hz4:=nx4.ext.size
           have hK2:¬(cX h.size v4 g1.size\/False):=by
            rintro((k|k)|k)
            · omega
            · rcases nx4.own _ k.symm with k2|k2
              · exact hK1 (.inl (.inr k2.symm))
              · omega
            · exact k
           refine eZ 7 rfl (bz rfl (A4 401 (x:=(az s).1) (to:=ss.length) hsmall.1 hn4 (fun b hb=>by have:=hO3 b hb;omega) (hnd3.mv nx4.DP) hsmall.2.1 (by have:=hsmall.1;simp only[List.length_append,List.length_singleton];omega))) ?_;rintro _ g5 ⟨v5,rfl,hn5,nx5⟩;refine⟨fun _=>nx5.ext.mono (fun b _ k e=>hK2 (e▸k)),?_⟩;have hz5:=nx5.ext.size;have nx45:Nx (fun _=>False) h.size g3 v g5 v5:=nx4.trans nx5 (fun _ _ k=>k)
           have ht5:cN fX (fun _=>True) g5 h1.size 3 tv t:=(htg.ah e03).o9 nx45.ext (fun b hb=>by
            rintro((k1|k1)|k1)
            · have:=htv b hb;omega
            · exact hdist b hb k1.symm
            · exact k1) (fun _ _ _=>trivial) (fun _ _ _=>trivial)
           obtain⟨css,hc1,hc2,hc3⟩:=id ht5;have hKt:¬bw tv.ownBlock g1.size:=fun k=>by have:=htv _ k.symm;omega
           refine eZ 8 rfl (ji [_]) ?_;rintro _ _ ⟨rfl,rfl⟩;refine⟨fun _=>by first|exact Ext.push _ _ _|assumption,?_⟩;refine eZ 9 rfl (oS rfl rfl hc2 rfl rfl) ?_;rintro t6 g6 ⟨ho6,hx6,hx6',hv6⟩;refine⟨fun _=>hx6'.mono (fun b _ k e=>hKt (e▸k)),?_⟩;refine aS 10 ?_;refine lg ?_;refine aa ?_;have ht6:=cN.fo hc1 hc3 ho6 hx6 hv6 (y:=(lay (az s).1 (ss++[(⟨2,0,[],i⟩:aH)]) ss.length).2) rfl
           have hn6:bE g6 (fun b=>b<h.size\/bw t6.ownBlock b) h.size v5 (lay (az s).1 (ss++[⟨2,0,[],i⟩]) ss.length).1 0:=hn5.ext hx6 (fun k=>by have:=htv _ k.symm;omega) (fun b hb k=>by
            rcases nx45.own b hb with k'|k'
            · exact hdist b k.symm k'
            · have:=htv b k.symm;omega) (fun b _ k=>.inr k) (fun b hb k=>k.imp id (fun k=>by
              rcases hv6 b k.symm with k'|k'
              · exact k'.symm
              · omega))
           have hd6:∀b,t6.ownBlock=some b->v5.ownBlock≠some b:=fun b hb k=>by
            rcases hv6 b hb with k'|k'
            · rcases nx45.own b k with k2|k2
              · exact hdist b k' k2
              · have:=htv b k';omega
            · have:=(hn5.own b k).2;omega
           have nx05:Nx (fun _=>False) h.size h1 (.slice none 0 0) g5 v5:=(nxg.trans (Nx.DO e03) (fun _ _ k=>k)).trans nx45 (fun _ _ k=>k);have nx06:Nx (fun _=>False) h.size h1 (.slice none 0 0) g6 v5:=⟨⟨by have:=hx6.size;omega,fun b hb hn=>by rw[hx6.block b (by omega) (fun k=>by have:=htv b k.symm;omega)];exact nx05.ext.block b hb hn⟩,nx05.own⟩
           have hlenl:=(cD (az s).1 (ss++[⟨2,0,[],i⟩]) ss.length).2;rw[List.length_append,List.length_singleton] at hlenl;have htt:=og hs;exact ih (i+1,t6) ⟨by show i+1<=kn;omega,v5,_,_,hn6,ht6,nx06,hd6,⟨by have:=hsmall.1;show _<=402*(i+1);omega,by have:=hsmall.2.2;show jk (rules.take (i+1))<=200*(i+1);omega,by simp[htl]⟩,hcon⟩
     · obtain rfl:i=kn:=by omega
       have hall:rules.take i=rules:=List.take_of_length_le (by omega);have hnil:rules.drop i=[]:=List.drop_of_length_le (by omega);rw[hnil,cZ] at hcon;rw[<-hcon] at hmk;rw[hall] at htot;simp only[hall];refine aa ?_;refine bF (fun hbig2=>?_) (fun hbig2=>?_)
       · refine aa ?_;refine bU ?_;refine⟨_,rfl,?_,e0g⟩;have:cC rules= .inl 70:=by rw[hmk];exact if_pos (by omega)
         rw[tX,this];rfl
       · have hmk2:cC rules= .inr (ss++[⟨0,0,t,0⟩],ss.length):=by rw[hmk];exact if_neg (by omega)
         have hrd:aP fX g0 (fun b=>cX h.size v b\/b<h.size) tv t:=htg.tB (fun b hb=>by
          rintro((k1|k1)|k1)
          · have:=htv b hb;omega
          · exact hdist b hb k1.symm
          · have:=htv b hb;omega) (fun _ _ _=>trivial)
         obtain⟨oa9,n9,c9,rfl,_⟩:=id hrd;refine aa ?_;refine xp rfl (aq (H.ye _ _ _) rfl) ?_;refine xo rfl (bz rfl (kU (O:=fun b=>b<h.size) (to:=t) (hng.ah (Ext.refl _ _) (fun b _ k=>.inl k)) (fun b hb=>by omega) hrd (by omega))) ?_;rintro _ g4 ⟨v4,rfl,hn4,nx4⟩;refine aa ?_;refine bN rfl (n8 rfl rfl hn4.blk) ?_;rintro _ g5 ⟨rfl,hk5,hx5,hz5⟩;refine aa ?_;refine bU ?_;have hn5:bE g5 (fun b=>b<h.size) h.size v4 (ss++[⟨0,0,t,0⟩]) ss.length:=⟨hk5,hn4.row.o9 hx5 (fun b hb k=>by have:=(hn4.own b hb).1;omega) (fun b _ k=>.inl k) (fun b _ k=>k)⟩
         have e4:ak h g5:=⟨by have:=hx5.size;have:=nx4.ext.size;omega,fun b hb _=>by
          rw[hx5.block b (by have:=nx4.ext.size;omega) (by omega),nx4.ext.block b (by omega) ?_]
          · exact e0g.block b hb (fun k=>k)
          · rintro((k|k)|k)
            · omega
            · rcases nxg.own b k.symm with k2|k2
              · cases k2
              · omega
            · exact k⟩
         refine⟨_,rfl,?_,e4⟩;rw[tX,hmk2];exact⟨h.size,v4,rfl,Nat.le_refl _,hn5⟩
theorem mq {O:Nat->Prop}{nb:Nat}{v:Value}{ss:List aH}{st:Nat}(hn:bE h O nb v ss st):an Tryd.prog 49 #[.pointer (some ⟨nb,0,none⟩)] h (b8 fun r h'=>r= .bool (decide (ss.length=0))/\h'=h):=by
 obtain⟨css,hc1,hc2,hc3⟩:=id hn.row;obtain⟨oa,c,rfl,_⟩:=hc2.open;refine cV ?_;refine bT ?_;refine cU ?_;refine aY ?_;refine eW ?_;refine bT ?_;refine jY [(2,.bool (decide (ss.length=0)))] rfl ?_ ?_
 · refine aY ?_;refine xp rfl (av.oH underlying29 rfl rfl) ?_;refine aa ?_;refine RW.ew (d:=5) (b':=false) rfl (rfl) ?_;refine aa ?_;refine xp rfl (aE rfl (hn.blk.cell (i:=0) rfl)) ?_;refine aa ?_;exact bH rfl ⟨au rfl (by simp only[decide_eq_decide];omega),sb rfl⟩
 · refine bU ?_;exact⟨_,rfl,rfl,rfl⟩
end
end Go.Proofs.YtbbjkiigpdjaaaaDoor
namespace Go.Proofs.YtbbjkiigpdjaaaaDoor
open Go Go.Lw
set_option maxRecDepth 20000
section
variable {h:af}
theorem AO {base:Nat}{t:TypeId}{v:Value}{todo:List Nat}{m:Nat}(k:aT b7 h base t v todo) (hm:todo.length=m+1) :
    ∃g c x,v= .slice (some ⟨g,0,none⟩) (m+1) c/\m+1<=c/\g<h.size/\base<=g/\cellAt h ⟨g,0+m*1,none⟩=some (.int .i64 (x:Nat))/\todo=todo.dropLast++[x] /\
      aT b7 h base t (.slice (fN (some ⟨g,0,none⟩) 0 1 c) m c) todo.dropLast/\(Value.slice (fN (some ⟨g,0,none⟩) 0 1 c) m c).ownBlock=some g:=by
  have k':aj h base t 1 v todo.length (todo.map b7):=k;obtain⟨oa,c,rfl,ho⟩:=k'.open;have hne:todo≠[]:=by intro e;rw[e] at hm;cases hm
  have hlast:todo=todo.dropLast++[todo.getLast hne]:=(List.dropLast_concat_getLast hne).symm
  have hx:(todo.map b7)[m]? =some (b7 (todo.getLast hne)):=by
    rw[List.getElem?_map,List.getLast_eq_getElem,List.getElem?_eq_getElem (by omega)];simp[hm]
  obtain⟨g,rfl,hb,hlt,hc,_⟩:=ho.at hx;have ht:=ho.take (m:=m) (by omega) 1
  have hd:(todo.map b7).take (m*1)=todo.dropLast.map b7:=by
    rw[Nat.mul_one,List.dropLast_eq_take,hm,Nat.add_sub_cancel,List.map_take]
  rw[hd] at ht;refine⟨g,c,todo.getLast hne,by rw[hm],by have:=ho.le;omega,hlt,hb,hc,hlast,?_,?_⟩
  · have hl:todo.dropLast.length=m:=by simp[hm]
    unfold aT;rw[hl];exact ht
  · unfold fN;split<;>simp[Value.ownBlock,Addr.add]
theorem bE.get {O:Nat->Prop}{nb:Nat}{v:Value}{ss:List aH}{st i:Nat}{x:aH}(k:bE h O nb v ss st) (hx:ss[i]? =some x) :
    ∃g c w,v= .slice (some ⟨g,0,none⟩) ss.length c/\g<h.size/\Lw.rowAt h g (0+i*7) (za x.kind x.set w x.rule)/\aP fX h (fun b=>bw v.ownBlock b\/b=nb\/O b) w x.to:=by
  obtain⟨g,c,cs,rfl,_,hg,hrow,_,⟨w,rfl,hw⟩,_⟩:=k.row.put hx;exact⟨g,c,w,rfl,hg,hrow,hw⟩
theorem wS {O:Nat->Prop}{oa:Option Addr}{n c:Nat}{xs:List Nat}(k:aP fX h O (.slice oa n c) xs):xs.length=n/\(n=0\/∃b o,oa=some ⟨b,o,none⟩/\Lw.rowAt h b o (xs.map b7))/\n<=maxLen:=by
  obtain⟨oa',n',c',hv,hl,hc,hm,hg⟩:=k;cases hv;have hs:Sl fX h O oa n c xs:=⟨hl,hc,hm,hg⟩
  exact⟨hl,Sl.row hs,by omega⟩
end
end Go.Proofs.YtbbjkiigpdjaaaaDoor
namespace Go.Proofs.YtbbjkiigpdjaaaaDoor
open Go.Proofs.Tryd
open Go Go.Lw
set_option maxRecDepth 20000 set_option maxHeartbeats 4000000
section
variable {n i nb st acc o:Nat}{todo:List Nat}{seen:List Bool}{h:af}{O:Nat->Prop}{v:Value}
theorem xZ {ss:List aH}(ht:todo.getLast? =some i) (hs:seen[i]? =some true):gu ss (n+1) todo seen=gu ss n todo.dropLast seen:=by
 rw[gu,ht];simp[hs]
theorem zN {ss:List aH}{x:aH}(ht:todo.getLast? =some i) (hs:seen[i]? =some false) (hx:ss[i]? =some x):gu ss (n+1) todo seen=gu ss n (if x.kind=0 then todo.dropLast++x.to else todo.dropLast) (seen.set i true):=by
 rw[gu,ht];simp[hs,hx]
theorem zM {ss:List aH}:gu ss n [] seen=seen:=by cases n<;>simp[gu]
def Ai (ss:List aH) (seen:List Bool) (i:Nat):Bool:=seen[i]? ==some true && (ss[i]?.map (·.kind)) !=some 0
theorem nN {tv:Value}{ss:List aH}{base:Nat}{tb:Option Nat}(hn:bE h O nb v ss st) (hgood:Good ss) (hss:ss.length<=1000000) (htd:aT b7 h base 3 tv todo) (htb:tv.ownBlock=tb)
 (hbase:base<=h.size) (hOt:∀b,tb=some b->O b/\b≠nb/\v.ownBlock≠some b) (hlt:∀j∈todo,j<ss.length) (hpot:todo.length+o8 ss (List.replicate ss.length false)<=1000000) :
 an Tryd.prog 50 #[.pointer (some ⟨nb,0,none⟩),tv] h (b8 fun r h'=>aT b7 h' h.size 3 r (closed ss todo)/\Ext (bw tb) h h'):=by
 obtain⟨css,hc1,hc2,hc3⟩:=id hn.row;obtain⟨va,vc,rfl,_⟩:=hc2.open
 have htl:tb=none\/∃b,tb=some b/\b<h.size:=by
  cases tb with
  |none=>exact .inl rfl
  |some b=>exact .inr ⟨b,rfl,(aj.lt htd htb).2⟩
 obtain⟨oa,c,rfl,_⟩:=(show aj h base 3 1 tv todo.length (todo.map b7) from htd).open;generalize htgt:gu ss (todo.length+o8 ss (List.replicate ss.length false)) todo (List.replicate ss.length false)=tgt;refine cV ?_;refine aa ?_;refine bF (fun hz=>?_) (fun hz=>?_)
 · refine aa ?_;refine bU ?_;have:closed ss todo=[]:=by unfold closed;rw[if_pos (by omega)]
   rw[this];exact⟨_,rfl,aT.nil _ _ _ _,Ext.refl _ _⟩
 · refine aa ?_;refine xp rfl (aE rfl (hn.blk.cell (i:=0) rfl)) ?_;refine aa ?_;refine xo rfl (aL.cY underlying61 H.BP H.BS rfl rfl rfl (by omega) (by decide)) ?_;rintro _ h1 ⟨rfl,hk1,e1⟩;refine aa ?_;refine fG (σ:=Nat×Value×List Nat×List Bool) (fun q=>[(1,q.2.1)]) (fun q h'=>Ext (bw tb) h h'/\aT b7 h' base 3 q.2.1 q.2.2.1/\(∀b,q.2.1.ownBlock=some b->tb=some b\/h1.size<=b)/\aj h' h.size 4 1 (.slice (some ⟨h.size,0,none⟩) ss.length ss.length) ss.length (q.2.2.2.map .bool)/\q.2.2.2.length=ss.length/\(∀j∈q.2.2.1,j<ss.length)/\(q.2.2.1.length+o8 ss q.2.2.2<=q.1/\q.1<=1000000/\h1.size<=h'.size)/\gu ss q.1 q.2.2.1 q.2.2.2=tgt) (fun q=>q.1) ((todo.length+o8 ss (List.replicate ss.length false),.slice oa todo.length c,todo,List.replicate ss.length false)) ⟨e1.mono fun _ _ k=>k.elim,aj.rV htd e1,fun b hb=>.inl (htb.symm.trans hb),by simpa using hk1,by simp,hlt,⟨Nat.le_refl _,hpot,Nat.le_refl _⟩,htgt⟩ rfl ?_;rintro⟨n,dv,td,seen⟩ g ⟨eg,hd,hdo,hs,hsl,hlt',⟨hp,hn1,hgz⟩,hcon⟩ ih
   try dsimp only
   dsimp only at hd hdo hs hsl hlt' hp hn1 hcon;have hz1:h.size<h1.size:=by have:=(aj.lt hk1 rfl).2;exact this
   have hsow:=hs.open;obtain⟨sa,sc,hsv,hsow⟩:=hsow;cases hsv
   rcases Nat.eq_zero_or_pos td.length with hpos|hpos
   · obtain rfl:td=[]:=List.eq_nil_of_length_eq_zero hpos;obtain⟨oad,cd,rfl,_⟩:=(show aj g base 3 1 dv ([]:List Nat).length (([]:List Nat).map b7) from hd).open;rw[zM] at hcon;refine aa ?_;refine oe rfl (by simp) ?_;have hnc:∀{h':af},Ext (bw tb) h h'->bE h' O nb (.slice va ss.length vc) ss st:=fun e=>hn.ext e (fun k=>(hOt nb k.symm).2.1 rfl) (fun b hb k=>(hOt b k.symm).2.2 hb) (fun b _ k=>(hOt b k.symm).1) (fun _ _ k=>k)
     have hcl:closed ss todo=(List.range ss.length).filter (Ai ss seen):=by
      unfold closed;rw[if_neg (by omega),htgt,<-hcon];rfl
     refine aa ?_;refine fG (σ:=Nat×Value) (fun q=>[(7,q.2),(61,.int .i64 (q.1:Nat))]) (fun q h'=>q.1<=ss.length/\ak g h'/\aT b7 h' g.size 3 q.2 ((List.range q.1).filter (Ai ss seen))) (fun q=>ss.length-q.1) ((0,.slice none 0 0)) ⟨Nat.zero_le _,Ext.refl _ _,aT.nil _ _ _ _⟩ rfl ?_;rintro⟨i,ov⟩ g2 ⟨hi,e2,ho2⟩ ih2
     try dsimp only
     dsimp only at hi ho2;have eg2:Ext (bw tb) h g2:=eg.trans (e2.mono fun _ _ k=>k.elim);have hn2:=hnc eg2;have hz2:=e2.size;refine aa ?_;refine bF (fun hlti=>?_) (fun hlti=>?_)
     · have hil:i<ss.length:=by omega
       obtain⟨bx,hbx⟩:∃bx,seen[i]? =some bx:=⟨_,List.getElem?_eq_getElem (by omega)⟩
       obtain⟨y,hy⟩:∃y,ss[i]? =some y:=⟨_,List.getElem?_eq_getElem hil⟩
       obtain⟨sa2,sc2,hsv2,hsow2⟩:=(aj.rV hs e2).open;cases hsv2;obtain⟨g',hg',_,hsg,hscell,hsnf⟩:=hsow2.at (i:=i) (x:=.bool bx) (by rw[List.getElem?_map,hbx];rfl);cases hg';obtain⟨gs,cs,ws,hvs,hgs,hrow,hws⟩:=hn2.get hy;cases hvs;have hlen2:((List.range i).filter (Ai ss seen)).length<=i:=by have:=List.length_filter_le (Ai ss seen) (List.range i);simpa using this
       have hnext:(List.range (i+1)).filter (Ai ss seen)=(List.range i).filter (Ai ss seen)++(if Ai ss seen i then [i] else []):=by
        rw[List.range_succ,List.filter_append];cases hpr:Ai ss seen i<;>simp[hpr]
       iterate 4 refine bT ?_
       refine cU ?_;refine aY ?_;refine xp rfl (bK rfl rfl i rfl rfl) ?_;refine xp rfl (aE rfl hscell) ?_
       iterate 2 refine aY ?_
       refine eW ?_;refine bT ?_;refine jY [(77,.bool (Ai ss seen i))] rfl ?_ ?_
       · refine aa ?_;refine ie 67 (fun hg=>?_) (fun hg=>?_)
         · refine aa ?_;refine xp rfl (aE rfl (hn2.blk.cell (i:=0) rfl)) ?_;refine aY ?_;refine xp rfl (bK rfl rfl i rfl rfl hil) ?_;refine aa ?_;refine xp rfl (aE rfl (hrow 0 _ rfl)) ?_;refine aa ?_;exact bH rfl ⟨au rfl (by subst hg;simp[Ai,hbx,hy];by_cases hk0:y.kind=0<;>simp[hk0]),sb rfl⟩
         · refine aa ?_;exact bH rfl ⟨au rfl (by subst hg;simp[Ai,hbx]),sb rfl⟩
       · refine jX (fun hb=>?_) (fun hb=>?_)
         · rw[if_pos hb] at hnext;refine aa ?_;refine xo rfl (ji [_]) ?_;rintro _ _ ⟨rfl,rfl⟩;refine xo rfl (oS rfl rfl ho2 rfl rfl) ?_;rintro ov3 g3 ⟨ho3,hx3,-,hv3⟩;refine aa ?_;have ho3':aT b7 g3 g.size 3 ov3 ((List.range (i+1)).filter (Ai ss seen)):=by rw[hnext];exact aT.of (ys:=[i]) ho3 rfl rfl rfl
           have e3:ak g g3:=aT.grown e2 ho2 (Nat.le_refl _) hx3;exact ih2 (i+1,ov3) ⟨by show i+1<=_;omega,e3,ho3'⟩
         · rw[if_neg (by rw[hb];decide)] at hnext;rw[List.append_nil] at hnext;rw[<-hnext] at ho2;refine aa ?_;exact ih2 (i+1,ov) ⟨by show i+1<=_;omega,e2,ho2⟩
     · obtain rfl:i=ss.length:=by omega
       refine aa ?_;refine bU ?_;rw[hcl];exact⟨_,rfl,gX ho2 (by omega),eg2⟩
   · obtain⟨m,hm⟩:∃m,td.length=m+1:=⟨td.length-1,by omega⟩
     obtain⟨gd,cd,x,rfl,hcd,hgd,hbd,hcell,hlast,hcut,hcb⟩:=AO hd hm;have hgl:td.getLast? =some x:=by rw[hlast];simp
     have hxl:x<ss.length:=hlt' x (by rw[hlast];simp);have hltd:∀j∈td.dropLast,j<ss.length:=fun j hj=>hlt' j (List.dropLast_subset _ hj)
     have hdl:td.dropLast.length=m:=by simp[hm]
     obtain⟨n,rfl⟩:∃n',n=n'+1:=⟨n-1,by omega⟩
     obtain⟨bx,hbx⟩:∃bx,seen[x]? =some bx:=⟨_,List.getElem?_eq_getElem (by omega)⟩
     obtain⟨y,hy⟩:∃y,ss[x]? =some y:=⟨_,List.getElem?_eq_getElem hxl⟩
     obtain⟨g',hg',_,hsg,hscell,hsnf⟩:=hsow.at (i:=x) (x:=.bool bx) (by rw[List.getElem?_map,hbx];rfl);cases hg';refine aa ?_;refine n6 rfl (by simp only[decide_eq_false_iff_not];omega) ?_
     iterate 3 refine bT ?_
     refine cU ?_
     iterate 4 refine aY ?_
     refine xp rfl (bK rfl rfl m (by omega) rfl) ?_;refine xp rfl (aE rfl hcell) ?_;refine aa ?_;refine xp rfl (av.um underlying39 H.uf rfl rfl m (by omega) (by omega)) ?_;refine aY ?_;refine eW ?_
     iterate 2 refine bT ?_
     refine cU ?_
     iterate 2 refine aY ?_
     refine xp rfl (bK rfl rfl x rfl rfl) ?_;refine xp rfl (aE rfl hscell) ?_;refine aa ?_;refine jX (fun hb=>?_) (fun hb=>?_)
     · subst hb;rw[xZ hgl hbx] at hcon;refine aa ?_;exact ih (n,_,td.dropLast,seen) ⟨eg,hcut,fun b hb=>hdo b (by rw[<-hb];exact hcb▸rfl),hs,hsl,hltd,⟨by show td.dropLast.length+o8 ss seen<=n;omega,by show n<=_;omega,hgz⟩,hcon⟩
     · subst hb;rw[zN hgl hbx hy] at hcon;have hpt:=uy ss seen x y hy hbx
       have hgne:¬gd=h.size:=fun k=>by
        rcases hdo gd rfl with k2|k2
        · rcases htl with k3|⟨b3,k3,k4⟩
          · rw[k3] at k2;cases k2
          · rw[k3] at k2;cases k2;omega
        · omega
       iterate 2 refine bT ?_
       refine cU ?_
       iterate 2 refine aY ?_
       refine xp rfl (bK rfl rfl x rfl rfl) ?_;refine bN rfl (aI H.tg rfl rfl rfl hscell hsnf) ?_;rintro _ g2 ⟨rfl,hg2⟩;have x2:Ext (fun b=>b=h.size) g g2:=by rw[hg2];exact Ext.bY _ _ _ rfl
       have hz2:=x2.size;have eg2:Ext (bw tb) h g2:=⟨by omega,fun b hb hn=>by rw[x2.block b (by omega) (by omega)];exact eg.block b hb hn⟩
       have hs2:aj g2 h.size 4 1 (.slice (some ⟨h.size,0,none⟩) ss.length ss.length) ss.length ((seen.set x true).map .bool):=by
        have k:=(hsow.set (i:=x) rfl hxl (.bool true)).own;rw[<-hg2] at k;rw[List.map_set];exact k
       have hcut2:aj g2 base 3 1 _ td.dropLast.length (td.dropLast.map b7):=aj.ext x2 hcut (fun b hb k=>hgne (by have:=hcb.symm.trans hb;cases this;exact k));have hn2:bE g2 O nb _ ss st:=hn.ext eg2 (fun k=>(hOt nb k.symm).2.1 rfl) (fun b hb k=>(hOt b k.symm).2.2 hb) (fun b _ k=>(hOt b k.symm).1) (fun _ _ k=>k);obtain⟨gs,cs,ws,hvs,hgs,hrow,hws⟩:=hn2.get hy;cases hvs;have hsl2:(seen.set x true).length=ss.length:=by simpa using hsl
       refine aa ?_;refine xp rfl (aE rfl (hn2.blk.cell (i:=0) rfl)) ?_;refine aY ?_;refine xp rfl (bK rfl rfl x rfl rfl hxl) ?_;refine aa ?_;refine xp rfl (aE rfl (hrow 0 _ rfl)) ?_;refine aa ?_;refine bF (fun hk=>?_) (fun hk=>?_)
       · rw[if_pos (by omega)] at hcon;obtain⟨wa,wn,wc,rfl,_⟩:=id hws;obtain⟨hwl,hwn,hwm⟩:=wS hws;rw[hdl] at hcut2;refine aa ?_;refine xp rfl (aE rfl (hn2.blk.cell (i:=0) rfl)) ?_;refine aY ?_;refine xp rfl (bK rfl rfl x rfl rfl hxl) ?_;refine aa ?_;refine xp rfl (aE rfl (hrow 5 _ rfl)) ?_;refine xo rfl (aL.append underlying39 H.Er rfl rfl hcut2 (by simp[hwl]) hwn (by intro u hu;simp at hu;obtain⟨j,_,rfl⟩:=hu;rfl) (by simp only[maxLen];omega) (by omega) (by omega)) ?_;rintro dv3 g3 ⟨hd3,ex3,-,ho3⟩;refine aa ?_;have hz3:=ex3.size;rw[hcb] at ex3 ho3
         have hd3':aT b7 g3 base 3 dv3 (td.dropLast++y.to):=by
          unfold aT;rw[List.length_append,hdl,hwl,List.map_append];exact hd3
         have hdo3:∀b,dv3.ownBlock=some b->tb=some b\/h1.size<=b:=fun b hb=>by
          rcases ho3 b hb with k|k
          · exact hdo b k
          · exact .inr (by omega)
         have eg3:Ext (bw tb) h g3:=⟨by omega,fun b hb hn=>by
          rw[ex3.block b (by omega) ?_]
          · exact eg2.block b hb hn
          · intro k;cases k
            rcases hdo gd rfl with k2|k2
            · exact hn k2.symm
            · omega⟩
         have hgood':∀j∈td.dropLast++y.to,j<ss.length:=fun j hj=>by
          rcases List.mem_append.1 hj with k|k
          · exact hltd j k
          · exact hgood y (List.mem_of_getElem? hy) j k
         exact ih (n,dv3,td.dropLast++y.to,seen.set x true) ⟨eg3,hd3',hdo3,aj.ext ex3 hs2 (fun b hb k=>by cases k;cases hb;exact hgne rfl),hsl2,hgood',⟨by show (td.dropLast++y.to).length+o8 ss (seen.set x true)<=n;rw[List.length_append];omega,by show n<=_;omega,by show h1.size<=g3.size;omega⟩,hcon⟩
       · rw[if_neg (by omega)] at hcon;refine aa ?_;exact ih (n,_,td.dropLast,seen.set x true) ⟨eg2,hcut2,fun b hb=>hdo b (by rw[<-hb];exact hcb▸rfl),hs2,hsl2,hltd,⟨by show td.dropLast.length+o8 ss (seen.set x true)<=n;omega,by show n<=_;omega,by show h1.size<=g2.size;omega⟩,hcon⟩
theorem vv {ss:List aH}(hn:bE h O nb v ss st) (hgood:Good ss) (hss:ss.length<=1000000) (hst:ss.length=0\/st<ss.length) (hpot:1+o8 ss (List.replicate ss.length false)<=1000000) :
 an Tryd.prog 31 #[.pointer (some ⟨nb,0,none⟩)] h (b8 fun r h'=>aT b7 h' h.size 3 r (b9 ss st)/\ak h h'):=by
 have hown:=hn.own;have hnlt:=hn.blk.lt;refine cV ?_;refine aa ?_;refine xo rfl (bz rfl (mq hn)) ?_;rintro _ h0 ⟨rfl,hh0⟩;refine aa ?_;subst hh0;refine bF (fun hz=>?_) (fun hz=>?_)
 · refine aa ?_;refine bU ?_;rw[b9,if_pos hz];exact⟨_,rfl,aT.nil _ _ _ _,Ext.refl _ _⟩
 · have hn1:bE (h0.push (.cells #[.int .i64 (st:Nat)] 3)) (fun b=>O b\/b=h0.size) nb v ss st:=hn.ah (Ext.push _ _ _) (fun b hb k=>k.elim id (fun k=>by omega));have ho1:aT b7 (h0.push (.cells #[.int .i64 (st:Nat)] 3)) h0.size 3 (.slice (some ⟨h0.size,0,none⟩) 1 1) [st]:=kW b7 h0 3 [st] 1 rfl (by simp[maxLen]) h0.size (Nat.le_refl _) rfl;refine aa ?_;refine xp rfl (aE rfl (hn.blk.cell (i:=1) rfl)) ?_;refine xo rfl (ji [_]) ?_;rintro _ _ ⟨rfl,rfl⟩;refine xo rfl (bz rfl (nN (tb:=some h0.size) hn1 hgood hss ho1 rfl (by simp) (fun b hb=>by cases hb;exact⟨.inr rfl,by omega,fun k=>by have:=(hown _ k).2;omega⟩) (fun j hj=>by simp at hj;omega) hpot)) ?_;rintro _ h2 ⟨ho2,hx2⟩;refine aa ?_;refine bU ?_;rw[b9,if_neg hz];have hps:(h0.push (.cells #[.int .i64 (st:Nat)] 3)).size=h0.size+1:=by simp
   refine⟨_,rfl,gX ho2 (by omega),⟨by have:=hx2.size;omega,fun b hb _=>?_⟩⟩;rw[hx2.block b (by omega) (fun k=>by cases k;omega)];exact(Ext.push (fun _=>False) h0 _).block b hb (fun k=>k)
theorem s8 {nv:Value}{ss:List aH}{now:List Nat}(hn:bE h O nb v ss st) (_hss:ss.length<=1000000) (hnow:aP fX h (fun _=>False) nv now) (hlt:∀j∈now,j<ss.length) (hnn:now.length<=1000000) :
 an Tryd.prog 34 #[.pointer (some ⟨nb,0,none⟩),nv] h (b8 fun r h'=>r= .int .i64 (cm ss now)/\h'=h):=by
 obtain⟨css,hc1,hc2,hc3⟩:=id hn.row;obtain⟨va,vc,rfl,_⟩:=hc2.open;obtain⟨na,nn,nc,rfl,hnl,hnc,hnm,hget⟩:=id hnow;generalize htgt:nV ss now (-1)=tgt;refine cV ?_;refine aa ?_;refine xo rfl (bz rfl (mq hn)) ?_;rintro _ h0 ⟨rfl,hh0⟩;refine aa ?_;subst hh0;refine bF (fun hz=>?_) (fun hz=>?_)
 · refine aa ?_;refine bU ?_;rw[cm,if_pos hz];exact⟨_,rfl,rfl,rfl⟩
 · refine aa ?_;refine fG (σ:=Nat×Int) (fun q=>[(5,.int .i64 q.2),(13,.int .i64 (q.1:Nat))]) (fun q h'=>h'=h0/\q.1<=nn/\nV ss (now.drop q.1) q.2=tgt) (fun q=>nn-q.1) ((0,-1)) ⟨rfl,Nat.zero_le _,htgt⟩ rfl ?_;rintro⟨i,b⟩ h1 ⟨rfl,hi,hcon⟩ ih
   try dsimp only
   dsimp only at hi hcon;refine aa ?_;refine bF (fun hlti=>?_) (fun hlti=>?_)
   · obtain⟨j,hj⟩:∃j,now[i]? =some j:=⟨_,List.getElem?_eq_getElem (by omega)⟩
     obtain⟨bb,o,cs,ha,_,hrow,rfl⟩:=hget i j hj;have hjl:j<ss.length:=hlt j (List.mem_of_getElem? hj);obtain⟨y,hy⟩:∃y,ss[j]? =some y:=⟨_,List.getElem?_eq_getElem hjl⟩
     obtain⟨gs,cs,ws,hvs,hgs,hrw,hws⟩:=hn.get hy;cases hvs
     have hdr:now.drop i=j::now.drop (i+1):=by
      obtain⟨hi',rfl⟩:=List.getElem?_eq_some_iff.1 hj;exact List.drop_eq_getElem_cons hi'
     rw[hdr,nV,hy] at hcon;simp only at hcon
     iterate 4 refine bT ?_
     refine cU ?_;refine xp rfl (bK rfl rfl i rfl ha) ?_;refine xp rfl (aE rfl (hrow 0 _ rfl)) ?_;refine aY ?_;refine eW ?_;refine bT ?_;refine jY [(54,.bool (nU y b))] rfl ?_ ?_
     · refine aa ?_;refine RW.ew (d:=19) (b':=true) rfl (decide_eq_true (by omega)) ?_;refine aa ?_;refine xp rfl (aE rfl (hn.blk.cell (i:=0) rfl)) ?_;refine aa ?_;refine RW.ew (d:=28) (b':=true) rfl (decide_eq_true (by omega)) ?_;refine aa ?_;refine xp rfl (aE rfl (hn.blk.cell (i:=0) rfl)) ?_;refine aY ?_;refine xp rfl (bK rfl rfl j rfl rfl hjl) ?_;refine aa ?_;refine xp rfl (aE rfl (hrw 0 _ rfl)) ?_;refine aa ?_;refine ie 39 (fun hk=>?_) (fun hk=>?_)
       · have hk':=of_decide_eq_true hk;refine aa ?_;refine ie 42 (fun hb=>?_) (fun hb=>?_)
         · have hb':=of_decide_eq_true hb;refine aa ?_;exact bH rfl ⟨au rfl (by simp[nU];omega),sb rfl⟩
         · have hb':=of_decide_eq_false hb;refine aa ?_;refine xp rfl (aE rfl (hn.blk.cell (i:=0) rfl)) ?_;refine aY ?_;refine xp rfl (bK rfl rfl j rfl rfl hjl) ?_;refine aa ?_;refine xp rfl (aE rfl (hrw 6 _ rfl)) ?_;refine aa ?_;exact bH rfl ⟨au rfl (by simp only[nU,decide_eq_decide];omega),sb rfl⟩
       · have hk':=of_decide_eq_false hk;refine aa ?_;exact bH rfl ⟨au rfl (by simp[nU];omega),sb rfl⟩
     · refine jX (fun hb=>?_) (fun hb=>?_)
       · rw[if_pos hb] at hcon;refine aa ?_;refine xp rfl (aE rfl (hn.blk.cell (i:=0) rfl)) ?_;refine aY ?_;refine xp rfl (bK rfl rfl j rfl rfl hjl) ?_;refine aa ?_;refine xp rfl (aE rfl (hrw 6 _ rfl)) ?_;refine aa ?_;exact ih (i+1,(y.rule:Int)) ⟨rfl,by show i+1<=nn;omega,hcon⟩
       · rw[if_neg (by rw[hb];decide)] at hcon;refine aa ?_;exact ih (i+1,b) ⟨rfl,by show i+1<=nn;omega,hcon⟩
   · have hnil:now.drop i=[]:=List.drop_of_length_le (by omega);rw[hnil,nV] at hcon;refine aa ?_;refine bU ?_;rw[cm,if_neg hz,htgt];exact⟨_,rfl,by rw[hcon];rfl,rfl⟩
theorem xh {nv:Value}{ss:List aH}{now:List Nat}(c:UInt8) (hn:bE h O nb v ss st) (hgood:Good ss) (hss:ss.length<=1000000) (hnow:aP fX h (fun _=>False) nv now) (hlt:∀j∈now,j<ss.length) (hnn:now.length<=1000000)
 (hpot:(stepG ss c now []).length+o8 ss (List.replicate ss.length false)<=1000000) :
 an Tryd.prog 33 #[.pointer (some ⟨nb,0,none⟩),nv,.int .u8 (c.toNat:Nat)] h (b8 fun r h'=>aT b7 h' h.size 3 r (cH ss c now)/\ak h h'):=by
 have hown:=hn.own;have hnlt:=hn.blk.lt;obtain⟨css,hc1,hc2,hc3⟩:=id hn.row;obtain⟨va,vc,rfl,_⟩:=hc2.open;obtain⟨na,nn,nc,rfl,hnl,hnc,hnm,hget⟩:=id hnow;generalize htgt:stepG ss c now []=tgt at *;refine cV ?_;refine aa ?_;refine xo rfl (bz rfl (mq hn)) ?_;rintro _ h0 ⟨rfl,hh0⟩;refine aa ?_;subst hh0;refine bF (fun hz=>?_) (fun hz=>?_)
 · refine aa ?_;refine bU ?_;rw[cH,if_pos hz];exact⟨_,rfl,aT.nil _ _ _ _,Ext.refl _ _⟩
 · refine aa ?_;refine fG (σ:=Nat×Value×List Nat) (fun q=>[(7,q.2.1),(14,.int .i64 (q.1:Nat))]) (fun q h'=>ak h0 h'/\q.1<=nn/\aT b7 h' h0.size 3 q.2.1 q.2.2/\(∀j∈q.2.2,j<ss.length)/\stepG ss c (now.drop q.1) q.2.2=tgt) (fun q=>nn-q.1) ((0,.slice none 0 0,[])) ⟨Ext.refl _ _,Nat.zero_le _,aT.nil _ _ _ _,(fun j hj=>by cases hj),htgt⟩ rfl ?_;rintro⟨i,ov,acc⟩ h1 ⟨e1,hi,ho,hal,hcon⟩ ih
   try dsimp only
   dsimp only at hi ho hal hcon;have hz1:=e1.size;have hn1:bE h1 O nb (.slice va ss.length vc) ss st:=hn.ah e1 (fun _ _ k=>k);have hacc:acc.length<=tgt.length:=by rw[<-hcon];exact om _ _ _ _
   refine aa ?_;refine bF (fun hlti=>?_) (fun hlti=>?_)
   · obtain⟨j,hj⟩:∃j,now[i]? =some j:=⟨_,List.getElem?_eq_getElem (by omega)⟩
     obtain⟨bb,o,cs,ha,_,hrow,rfl⟩:=hget i j hj;have hjl:j<ss.length:=hlt j (List.mem_of_getElem? hj);obtain⟨y,hy⟩:∃y,ss[j]? =some y:=⟨_,List.getElem?_eq_getElem hjl⟩
     obtain⟨gs,cs,ws,hvs,hgs,hrw,hws⟩:=hn1.get hy;cases hvs
     have hdr:now.drop i=j::now.drop (i+1):=by
      obtain⟨hi',rfl⟩:=List.getElem?_eq_some_iff.1 hj;exact List.drop_eq_getElem_cons hi'
     rw[hdr,stepG,hy] at hcon;simp only at hcon;have hrow1:Lw.rowAt h1 bb (o+i*1) [b7 j]:=e1.rowAt (fun k=>k) hrow
     have hset:Lw.rowAt h1 gs (0+j*7+1) (bq y.set):=fun q u hu=>by
      have hq:(za y.kind y.set ws y.rule)[1+q]? =some u:=by
       match q with
       | 0=>exact hu
       | 1=>exact hu
       | 2=>exact hu
       | 3=>exact hu
       |q+4=>simp[bq] at hu
      have:=hrw (1+q) u hq
      rwa [<-Nat.add_assoc] at this
     iterate 4 refine bT ?_
     refine cU ?_;refine xp rfl (bK rfl rfl i rfl ha) ?_;refine xp rfl (aE rfl (hrow1 0 _ rfl)) ?_;refine aY ?_;refine eW ?_;refine bT ?_;refine EM (fun(_u:Unit) (h':af)=>ak h1 h') (fun(_u:Unit)=>[(51,.bool (iE y c))]) rfl ?_ ?_
     · refine aa ?_;refine RW.ew (d:=20) (b':=true) rfl (decide_eq_true (by omega)) ?_;refine aa ?_;refine xp rfl (aE rfl (hn1.blk.cell (i:=0) rfl)) ?_;refine aa ?_;refine RW.ew (d:=29) (b':=true) rfl (decide_eq_true (by omega)) ?_;refine aa ?_;refine xp rfl (aE rfl (hn1.blk.cell (i:=0) rfl)) ?_;refine aY ?_;refine xp rfl (bK rfl rfl j rfl rfl hjl) ?_;refine aa ?_;refine xp rfl (aE rfl (hrw 0 _ rfl)) ?_;refine aa ?_;refine ie 40 (fun hk=>?_) (fun hk=>?_)
       · have hk':=of_decide_eq_true hk;have hk2:y.kind=1:=by omega
         refine aa ?_;refine xp rfl (aE rfl (hn1.blk.cell (i:=0) rfl)) ?_;refine aY ?_;refine xp rfl (bK rfl rfl j rfl rfl hjl) ?_;refine aa ?_;refine xp rfl (gj rfl hset) ?_;refine aa ?_;refine xo rfl (bz rfl (zF y.set c)) ?_;rintro _ h2 ⟨rfl,e2⟩;refine aa ?_;exact Ak () e2 ⟨au rfl (by simp[iE,hk2]),sb rfl⟩
       · have hk':=of_decide_eq_false hk;have hk2:¬y.kind=1:=by omega
         refine aa ?_;exact Ak () (Ext.refl _ _) ⟨au rfl (by simp[iE,hk2]),sb rfl⟩
     · rintro _ h2 e2;have e02:=e1.trans e2;have ho2:aT b7 h2 h0.size 3 ov acc:=aT.ah ho e2;have hn2:bE h2 O nb _ ss st:=hn.ah e02 (fun _ _ k=>k);have hz2:=e02.size;refine jX (fun hb=>?_) (fun hb=>?_)
       · rw[if_pos hb] at hcon;have hacc2:(acc++y.to).length<=tgt.length:=by rw[<-hcon];exact om _ _ _ _
         rw[List.length_append] at hacc2;obtain⟨gs,cs,ws,hvs,hgs,hrw2,hws2⟩:=hn2.get hy;cases hvs;obtain⟨wa,wn,wc,rfl,_⟩:=id hws2;obtain⟨hwl,hwn,hwm⟩:=wS hws2;refine aa ?_;refine xp rfl (aE rfl (hn2.blk.cell (i:=0) rfl)) ?_;refine aY ?_;refine xp rfl (bK rfl rfl j rfl rfl hjl) ?_;refine aa ?_;refine xp rfl (aE rfl (hrw2 5 _ rfl)) ?_;refine xo rfl (aL.append underlying39 H.Er rfl rfl ho2 (by simp[hwl]) hwn (by intro u hu;simp at hu;obtain⟨j,_,rfl⟩:=hu;rfl) (by simp only[maxLen];omega) (by omega) (by omega)) ?_;rintro ov3 h3 ⟨ho3,hx3,-,hv3⟩;refine aa ?_
         have ho3':aT b7 h3 h0.size 3 ov3 (acc++y.to):=by
          unfold aT;rw[List.length_append,hwl,List.map_append];exact ho3
         have e3:ak h0 h3:=aT.grown e02 ho2 (Nat.le_refl _) hx3
         have hal3:∀j∈acc++y.to,j<ss.length:=fun j hj=>by
          rcases List.mem_append.1 hj with k|k
          · exact hal j k
          · exact hgood y (List.mem_of_getElem? hy) j k
         exact ih (i+1,ov3,acc++y.to) ⟨e3,by show i+1<=nn;omega,ho3',hal3,hcon⟩
       · rw[if_neg (by rw[hb];decide)] at hcon;refine aa ?_;exact ih (i+1,ov,acc) ⟨e02,by show i+1<=nn;omega,ho2,hal,hcon⟩
   · have hnil:now.drop i=[]:=List.drop_of_length_le (by omega);rw[hnil,stepG] at hcon;subst hcon;have hol:∀b,ov.ownBlock=some b->h0.size<=b/\b<h1.size:=fun b hb=>aj.lt ho hb
     have hn':bE h1 (fun b=>O b\/bw ov.ownBlock b) nb (.slice va ss.length vc) ss st:=hn.ah e1 (fun b hb k=>k.elim id (fun k=>by have:=(hol b k.symm).1;omega));refine aa ?_;refine xo rfl (bz rfl (nN (tb:=ov.ownBlock) hn' hgood hss ho rfl (by omega) (fun b hb=>⟨.inr hb.symm,by have:=hol b hb;omega,fun k=>by have:=hol b hb;have:=(hown b k).2;omega⟩) hal hpot)) ?_;rintro _ h2 ⟨ho2,hx2⟩;refine aa ?_;refine bU ?_;rw[cH,if_neg hz,htgt];refine⟨_,rfl,gX ho2 (by omega),⟨by have:=hx2.size;omega,fun b hb _=>?_⟩⟩;rw[hx2.block b (by omega) (fun k=>by have:=hol b k.symm;omega)];exact e1.block b hb (fun k=>k)
theorem cK {α:Type}{e:gI α}{Q Q':Nat->Prop}{xs:List α}(k:aP e h Q v xs) (hq:∀b,Q' b->Q b):aP e h Q' v xs:=k.mv ⟨Nat.le_refl _,fun b _ hn=>⟨rfl,fun k=>hn (hq b k)⟩⟩
theorem oW (x:UInt8):an Tryd.prog 68 #[.int .u8 (x.toNat:Nat)] h (b8 fun r h'=>r= .bool (decide (x∈aR))/\h'=h):=by
 refine cV ?_;refine aa ?_;refine G.loop (σ:=Nat) (fun i=>[(0,.int .u8 (x.toNat:Nat)),(3,.string (bs aR)),(4,.int .i64 i)]) (fun i h'=>h'=h/\i<=12/\x∉aR.take i) (fun i=>12-i) (0) rfl ⟨rfl,rfl,rfl,trivial⟩ ⟨rfl,by decide,by simp⟩ ?_;rintro i h1 ⟨rfl,hi,hno⟩ ih;have hz:(bs aR).size=12:=rfl;refine hU rfl ?_;refine DL func68 2 rfl ?_;refine xp rfl (av.oD underlying9 rfl) ?_;refine Ah 1 [0,3,4,8] rfl ?_;refine sM rfl rfl (fun hlt=>?_) (fun hlt=>?_)
 · have hlt':i<aR.length:=by show i<12;omega
   have hat:aR[i]? =some aR[i]:=List.getElem?_eq_getElem hlt';refine kZ rfl ?_;refine hU rfl ?_;refine G.block rfl rfl ?_;refine DL func68 2 rfl ?_;refine xp rfl (av.wA underlying9 rfl rfl i rfl (jS hat)) ?_;refine Ah 2 [0,3,4,8,15] rfl ?_;refine sM rfl rfl (fun he=>?_) (fun he=>?_)
   · have he:aR[i]=x:=(bf rfl).1 he;refine CI func68 1 [0,2,3,4,8,15] rfl ?_;refine y2 func68 rfl rfl ?_;exact⟨_,rfl,by rw[show decide (x∈aR)=true by rw[<-he];simp];rfl,rfl⟩
   · have he:¬aR[i]=x:=fun e=>he ((bf rfl).2 e)
     refine kZ rfl ?_;refine G.oK ?_;refine G.oA func68 rfl ?_;refine DM 1 rfl rfl (av.nT rfl rfl ⟨by omega,by omega⟩) ?_;refine Ah 1 [0,3,4,8,15] rfl ?_;exact ih (i+1) _ _ ⟨rfl,rfl,rfl,trivial⟩ ⟨rfl,by omega,by rw[List.take_add_one,hat];simp only[List.mem_append,not_or];exact⟨hno,by simp;exact fun e=>he e.symm⟩⟩ (by omega)
 · obtain rfl:i=12:=by omega
   have hno:x∉aR:=hno;refine aa ?_;refine bU ?_;exact⟨_,rfl,by rw[show decide (x∈aR)=false by simp[hno]];rfl,rfl⟩
def mC (x:UInt8):Int:=match bX x with|some n=>n|none=> -1
theorem oF {x:UInt8}:(0<=mC x)↔∃n,bX x=some n/\n<16/\mC x=n:=by
 unfold mC;cases hv:bX x with
 |none=>simp
 |some n=>exact⟨fun _=>⟨n,rfl,iU hv,rfl⟩,fun _=>Int.natCast_nonneg _⟩
theorem zE {x:UInt8}(h:¬0<=mC x):bX x=none:=by
 unfold mC at h;cases hv:bX x with
 |none=>rfl
 |some n=>rw[hv] at h;exact absurd (Int.natCast_nonneg n) h
theorem jB (x:UInt8):an Tryd.prog 69 #[.int .u8 (x.toNat:Nat)] h (b8 fun r h'=>r= .int .i64 (mC x)/\h'=h):=by
 have hx:=x.toNat_lt;refine cV ?_;refine bT ?_;refine cU ?_;refine aY ?_;refine eW ?_
 iterate 2 refine bT ?_
 refine jY [(8,.bool (decide (48<=x.toNat/\x.toNat<=57)))] rfl ?_ ?_
 · refine aa ?_;refine ie 5 (fun hg=>?_) (fun hg=>?_)
   · refine aa ?_;exact bH rfl ⟨au rfl (by have:=of_decide_eq_true hg;simp only[decide_eq_decide];omega),sb rfl⟩
   · refine aa ?_;exact bH rfl ⟨au rfl (by have:=of_decide_eq_false hg;simp;omega),sb rfl⟩
 · refine bF (fun h1=>?_) (fun h1=>?_)
   · refine bT ?_;refine cU ?_;refine aY ?_;refine xp rfl (av.sub rfl rfl) ?_;refine xp rfl (vj rfl (wrap_i64 ⟨by rw[wrap_u8 (by omega)];omega,by rw[wrap_u8 (by omega)];omega⟩)) ?_;refine aa ?_;refine bU ?_;refine⟨_,rfl,?_,rfl⟩;have:bX x=some (x.toNat-48):=by unfold bX;rw[if_pos h1]
     unfold mC;rw[this]
     show Value.int _ _=Value.int _ _
     rw[wrap_u8 (by omega)];congr 1;simp only;omega
   · iterate 3 refine bT ?_
     refine jY [(17,.bool (decide (97<=x.toNat/\x.toNat<=102)))] rfl ?_ ?_
     · refine aa ?_;refine ie 14 (fun hg=>?_) (fun hg=>?_)
       · refine aa ?_;exact bH rfl ⟨au rfl (by have:=of_decide_eq_true hg;simp only[decide_eq_decide];omega),sb rfl⟩
       · refine aa ?_;exact bH rfl ⟨au rfl (by have:=of_decide_eq_false hg;simp;omega),sb rfl⟩
     · refine bF (fun h2=>?_) (fun h2=>?_)
       · have hw:IntKind.u8.wrap ((x.toNat:Int)-97)=(x.toNat:Int)-97:=wrap_u8 (by omega);refine bT ?_;refine cU ?_;refine aY ?_;refine xp rfl (av.sub rfl rfl) ?_;refine xp rfl (vj rfl (wrap_i64 ⟨by rw[hw];omega,by rw[hw];omega⟩)) ?_;refine xp rfl (av.nT rfl rfl ⟨by rw[hw];omega,by rw[hw];omega⟩) ?_;refine aa ?_;refine bU ?_;refine⟨_,rfl,?_,rfl⟩;have:bX x=some (x.toNat-87):=by unfold bX;rw[if_neg h1,if_pos h2]
         unfold mC;rw[this]
         show Value.int _ _=Value.int _ _
         rw[hw];congr 1;simp only;omega
       · iterate 3 refine bT ?_
         refine jY [(27,.bool (decide (65<=x.toNat/\x.toNat<=70)))] rfl ?_ ?_
         · refine aa ?_;refine ie 24 (fun hg=>?_) (fun hg=>?_)
           · refine aa ?_;exact bH rfl ⟨au rfl (by have:=of_decide_eq_true hg;simp only[decide_eq_decide];omega),sb rfl⟩
           · refine aa ?_;exact bH rfl ⟨au rfl (by have:=of_decide_eq_false hg;simp;omega),sb rfl⟩
         · refine bF (fun h3=>?_) (fun h3=>?_)
           · have hw:IntKind.u8.wrap ((x.toNat:Int)-65)=(x.toNat:Int)-65:=wrap_u8 (by omega);refine bT ?_;refine cU ?_;refine aY ?_;refine xp rfl (av.sub rfl rfl) ?_;refine xp rfl (vj rfl (wrap_i64 ⟨by rw[hw];omega,by rw[hw];omega⟩)) ?_;refine xp rfl (av.nT rfl rfl ⟨by rw[hw];omega,by rw[hw];omega⟩) ?_;refine aa ?_;refine bU ?_;refine⟨_,rfl,?_,rfl⟩;have:bX x=some (x.toNat-55):=by unfold bX;rw[if_neg h1,if_neg h2,if_pos h3]
             unfold mC;rw[this]
             show Value.int _ _=Value.int _ _
             rw[hw];congr 1;simp only;omega
           · refine aa ?_;refine bU ?_;have:bX x=none:=by unfold bX;rw[if_neg h1,if_neg h2,if_neg h3]
             exact⟨_,rfl,by unfold mC;rw[this];rfl,rfl⟩
def p6 (s:By) (i:Nat):Int:=match s[i]? with|some c=>c.toNat|none=> -1
theorem bM (s:By) (i:Nat):(s.length<=i/\s.drop i=[]/\p6 s i= -1)\/∃c,s[i]? =some c/\i<s.length/\s.drop i=c::s.drop (i+1)/\p6 s i=(c.toNat:Nat):=by
 rcases Nat.lt_or_ge i s.length with h|h
 · refine .inr ⟨s[i],List.getElem?_eq_getElem h,h,List.drop_eq_getElem_cons h,?_⟩;unfold p6;rw[List.getElem?_eq_getElem h]
 · refine .inl ⟨h,List.drop_of_length_le h,?_⟩;unfold p6;rw[List.getElem?_eq_none h]
theorem dA (s:By) (i:Nat):an Tryd.prog 40 #[.string (bs s),.int .i64 (i:Nat)] h (b8 fun r h'=>r= .int .i64 (p6 s i)/\h'=h):=by
 have hz:=dF s;refine cV ?_;refine aa ?_;refine bF (fun hge=>?_) (fun hge=>?_)
 · have e:p6 s i= -1:=by unfold p6;rw[List.getElem?_eq_none (by omega)]
   refine aa ?_;refine bU ?_;exact⟨_,rfl,by rw[e];rfl,rfl⟩
 · obtain⟨c,hc⟩:∃c,s[i]? =some c:=⟨s[i]'(by omega),List.getElem?_eq_getElem (by omega)⟩
   have hcl:=c.toNat_lt;have e:p6 s i=(c.toNat:Nat):=by unfold p6;rw[hc]
   refine aa ?_;refine xp rfl (Al rfl rfl i rfl (jS hc)) ?_;refine xp rfl (vj rfl (wrap_i64 ⟨by omega,by omega⟩)) ?_;refine aa ?_;refine bU ?_;exact⟨_,rfl,by rw[e];rfl,rfl⟩
theorem Ey (s:By) (i:Nat){j:Int}(hj:j=i):an Tryd.prog 40 #[.string (bs s),.int .i64 j] h (b8 fun r h'=>r= .int .i64 (p6 s i)/\h'=h):=by subst hj;exact dA s i
def uH (inb:Bool):By->Option (UInt8×By)
 | []=>none
 |b::r=>if b=92 then eB r else if b∈aR/\(inb=true\/(b≠45/\b≠94)) then none else some (b,r)
theorem tK (l:By):uH true l=jw l:=by
 cases l with
 |nil=>rfl
 |cons b r=>simp[uH,jw]
def FP (s:By) (p:Option (UInt8×By)) (r:Value):Prop :=
 match p with
 |none=>∃b:Int,r= .tuple #[.int .u8 b,.int .i64 (-1)]
 |some (c,t)=>∃k:Nat,k<=s.length/\t=s.drop k/\r= .tuple #[.int .u8 (c.toNat:Nat),.int .i64 (k:Nat)]
theorem p9 (c:UInt8):IntKind.u8.wrap (((c.toNat:Nat):Int))=((c.toNat:Nat):Int):=wrap_u8 (by have:=c.toNat_lt;omega)
theorem Bc:∀m n:Fin 16,IntKind.u8.wrap ((m.val:Int)*16+(n.val:Int))=((UInt8.ofNat (m.val*16+n.val)).toNat:Nat):=by decide +kernel
theorem Fp {m:Nat}(hm:m<16) (hn:n<16):IntKind.u8.wrap ((m:Int)*16+(n:Int))=((UInt8.ofNat (m*16+n)).toNat:Nat):=Bc ⟨m,hm⟩ ⟨n,hn⟩
theorem lz (inb:Bool) (b:UInt8) (r:By):uH inb (b::r)=if b=92 then eB r else if b∈aR/\(inb=true\/(b≠45/\b≠94)) then none else some (b,r):=rfl
theorem iF (s:By) (i:Nat) (_hi:i<=s.length) (hs:s.length<=1000000) (inb:Bool):an Tryd.prog 61 #[.string (bs s),.int .i64 (i:Nat),.bool inb] h (b8 fun r h'=>FP s (uH inb (s.drop i)) r/\h'=h):=by
 have hz:=dF s;refine cV ?_;refine aa ?_;refine xo rfl (bz rfl (dA s i)) ?_;rintro _ _ ⟨rfl,rfl⟩;refine aa ?_;refine bF (fun hneg=>?_) (fun hneg=>?_)
 · have hd:s.drop i=[]:=by
    rcases bM s i with ⟨_,hd,_⟩|⟨c,_,_,_,ha⟩
    · exact hd
    · omega
   rw[hd];refine aa ?_;refine bU ?_;exact⟨_,rfl,⟨0,rfl⟩,rfl⟩
 · obtain⟨c,hc,hlt,hd,ha⟩:∃c,s[i]? =some c/\i<s.length/\s.drop i=c::s.drop (i+1)/\p6 s i=(c.toNat:Nat):=by
    rcases bM s i with ⟨_,_,ha⟩|k
    · omega
    · exact k
   have hcl:=c.toNat_lt;rw[hd,ha];rw[ha] at hneg;refine aa ?_;refine bF (fun hne=>?_) (fun hne=>?_)
   · have hne:¬c=92:=fun e=>hne (by rw[e];rfl)
     iterate 2 refine bT ?_
     refine jY [(30,.bool (decide (c∈aR/\(inb=true\/(c≠45/\c≠94)))))] rfl ?_ ?_
     · refine aa ?_;refine xo rfl (bz rfl (p9 c▸oW c)) ?_;rintro _ _ ⟨rfl,rfl⟩;refine aa ?_;refine ie 20 (fun hsp=>?_) (fun hsp=>?_)
       · have hsp:c∈aR:=of_decide_eq_true hsp;refine aa ?_;refine ie 22 (fun hin=>?_) (fun hin=>?_)
         · refine aa ?_;exact bH rfl ⟨au rfl (by simp[hsp,hin]),sb rfl⟩
         · refine aa ?_;refine ie 25 (fun h45=>?_) (fun h45=>?_)
           · have h45:c≠45:=fun e=>(of_decide_eq_true h45) ((bf rfl).2 e)
             refine aa ?_;exact bH rfl ⟨au rfl (by simp only[hin,hsp,true_and];simp only[Bool.false_eq_true,false_or,ne_eq,h45,not_false_eq_true,true_and];exact decide_eq_decide.2 (not_congr (bf rfl))),sb rfl⟩
           · have h45:c=45:=(bf rfl).1 (Classical.not_not.1 (of_decide_eq_false h45));refine aa ?_;exact bH rfl ⟨au rfl (by simp[hin,h45]),sb rfl⟩
       · have hsp:¬c∈aR:=of_decide_eq_false hsp;refine aa ?_;exact bH rfl ⟨au rfl (by simp[hsp]),sb rfl⟩
     · refine bF (fun hno=>?_) (fun hno=>?_)
       · have hl:uH inb (c::s.drop (i+1))=none:=by rw[lz,if_neg hne,if_pos hno]
         refine aa ?_;refine bU ?_;exact⟨_,rfl,by rw[hl];exact⟨0,rfl⟩,rfl⟩
       · have hl:uH inb (c::s.drop (i+1))=some (c,s.drop (i+1)):=by rw[lz,if_neg hne,if_neg hno]
         refine aa ?_;refine bU ?_;exact⟨_,rfl,by rw[hl];exact⟨i+1,by omega,rfl,by rw[p9];rfl⟩,rfl⟩
   · have he92:c=92:=(bf rfl).1 (Classical.not_not.1 hne);have hl:uH inb (c::s.drop (i+1))=eB (s.drop (i+1)):=by rw[lz,if_pos he92]
     rw[hl];refine aa ?_;refine xo rfl (bz rfl (Ey s (i+1) rfl)) ?_;rintro _ _ ⟨rfl,rfl⟩;refine aa ?_
     rcases bM s (i+1) with ⟨hlen,hd1,ha1⟩|⟨d,hdc,hlt1,hd1,ha1⟩
     · rw[hd1,ha1];refine oe rfl (by decide) ?_;refine aa ?_;refine oe rfl (by decide) ?_;refine aa ?_;refine oe rfl (by decide) ?_
       iterate 3 refine bT ?_
       refine jY [(75,.bool false)] rfl ?_ ?_
       · refine aa ?_;refine RW.ew (d:=53) (b':=false) rfl (decide_eq_false (by decide)) ?_;refine aa ?_;exact bH rfl ⟨au rfl (rfl),sb rfl⟩
       · refine oe rfl (by decide) ?_
         iterate 3 refine bT ?_
         refine jY [(97,.bool false)] rfl ?_ ?_
         · refine aa ?_;refine RW.ew (d:=93) (b':=false) rfl (decide_eq_false (by decide)) ?_;refine aa ?_;exact bH rfl ⟨au rfl (rfl),sb rfl⟩
         · refine oe rfl (by decide) ?_;refine aa ?_;refine bU ?_;exact⟨_,rfl,⟨0,rfl⟩,rfl⟩
     · have hdl:=d.toNat_lt;rw[hd1,ha1,show i+1+1=i+2 from rfl];refine bF (fun e1=>?_) (fun e1=>?_)
       · have e1:d=110:=(bf rfl).1 e1;refine aa ?_;refine bU ?_;exact⟨_,rfl,by rw[show eB (d::s.drop (i+2))=some (10,s.drop (i+2)) by unfold eB;simp[e1]];exact⟨i+2,by omega,rfl,rfl⟩,rfl⟩
       · have e1:¬d=110:=fun e=>e1 ((bf rfl).2 e)
         refine aa ?_;refine bF (fun e2=>?_) (fun e2=>?_)
         · have e2:d=116:=(bf rfl).1 e2;refine aa ?_;refine bU ?_;exact⟨_,rfl,by rw[show eB (d::s.drop (i+2))=some (9,s.drop (i+2)) by unfold eB;simp[e2]];exact⟨i+2,by omega,rfl,rfl⟩,rfl⟩
         · have e2:¬d=116:=fun e=>e2 ((bf rfl).2 e)
           refine aa ?_;refine bF (fun e3=>?_) (fun e3=>?_)
           · have e3:d=114:=(bf rfl).1 e3;refine aa ?_;refine bU ?_;exact⟨_,rfl,by rw[show eB (d::s.drop (i+2))=some (13,s.drop (i+2)) by unfold eB;simp[e3]];exact⟨i+2,by omega,rfl,rfl⟩,rfl⟩
           · have e3:¬d=114:=fun e=>e3 ((bf rfl).2 e)
             iterate 3 refine bT ?_
             refine jY [(75,.bool (decide (d=120/\((s[i+2]?).bind bX).isSome=true/\((s[i+3]?).bind bX).isSome=true)))] rfl ?_ ?_
             · refine aa ?_;refine ie 53 (fun h120=>?_) (fun h120=>?_)
               · have h120:d=120:=(bf rfl).1 (of_decide_eq_true h120);refine aa ?_;refine ie 60 (fun hlen3=>?_) (fun hlen3=>?_)
                 · have hlen3:i+3<s.length:=by have:=of_decide_eq_true hlen3;omega
                   have hx:s[i+2]? =some s[i+2]:=List.getElem?_eq_getElem (by omega);have hy:s[i+3]? =some s[i+3]:=List.getElem?_eq_getElem hlen3;generalize s[i+2]=x at hx;generalize s[i+3]=y at hy;refine aa ?_;refine xp rfl (Al rfl rfl (i+2) rfl (jS hx)) ?_;refine xo rfl (bz rfl (jB x)) ?_;rintro _ _ ⟨rfl,rfl⟩;refine aa ?_;refine ie 68 (fun hdx=>?_) (fun hdx=>?_)
                   · obtain⟨m,hm,_,_⟩:=oF.1 (of_decide_eq_true hdx);refine aa ?_;refine xp rfl (Al rfl rfl (i+3) rfl (jS hy)) ?_;refine xo rfl (bz rfl (jB y)) ?_;rintro _ _ ⟨rfl,rfl⟩;refine aa ?_;exact bH rfl ⟨au rfl (by rw[decide_eq_decide];rw[hx,hy];exact⟨fun k=>by obtain⟨n,hn,_,_⟩:=oF.1 k;exact⟨h120,by simp[hm],by simp[hn]⟩,fun⟨_,_,a3⟩=>by obtain⟨n',a4⟩:=Option.isSome_iff_exists.1 a3;exact oF.2 ⟨n',a4,iU a4,by unfold mC;rw[show bX y=some n' from a4]⟩⟩),sb rfl⟩
                   · have hdx:=zE (of_decide_eq_false hdx);refine aa ?_;exact bH rfl ⟨au rfl (by rw[eq_comm,decide_eq_false_iff_not,hx];rintro⟨_,a2,_⟩;simp[hdx] at a2),sb rfl⟩
                 · have hlen3:¬i+3<s.length:=by have:=of_decide_eq_false hlen3;omega
                   refine aa ?_;exact bH rfl ⟨au rfl (by rw[eq_comm,decide_eq_false_iff_not];rintro⟨_,_,a3⟩;rw[List.getElem?_eq_none (by omega)] at a3;cases a3),sb rfl⟩
               · have h120:¬d=120:=fun e=>(of_decide_eq_false h120) ((bf rfl).2 e)
                 refine aa ?_;exact bH rfl ⟨au rfl (by simp[h120]),sb rfl⟩
             · refine bF (fun hx=>?_) (fun hx=>?_)
               · obtain⟨h120,x,y,m,n,hx,hy,hm,hn⟩:d=120/\∃x y m n,s[i+2]? =some x/\s[i+3]? =some y/\bX x=some m/\bX y=some n:=by
                  obtain⟨a1,a2,a3⟩:=hx;cases hx2:s[i+2]? with
                  |none=>rw[hx2] at a2;cases a2
                  |some x =>
                   cases hx3:s[i+3]? with
                   |none=>rw[hx3] at a3;cases a3
                   |some y =>
                    rw[hx2] at a2;rw[hx3] at a3;obtain⟨m,hm⟩:=Option.isSome_iff_exists.1 a2;obtain⟨n,hn⟩:=Option.isSome_iff_exists.1 a3;exact⟨a1,x,y,m,n,rfl,rfl,hm,hn⟩
                 have hm16:=iU hm;have hn16:=iU hn;have hix:mC x=m:=by unfold mC;rw[hm]
                 have hiy:mC y=n:=by unfold mC;rw[hn]
                 have hlx:=(List.getElem?_eq_some_iff.1 hx)
                 have hly:=(List.getElem?_eq_some_iff.1 hy)
                 have hdx:s.drop (i+2)=x::s.drop (i+3):=by rw[List.drop_eq_getElem_cons hlx.1,hlx.2]
                 have hdy:s.drop (i+3)=y::s.drop (i+4):=by rw[List.drop_eq_getElem_cons hly.1,hly.2]
                 have hl2:=hly.1;refine aa ?_;refine EL ?_;refine aa ?_;refine me rfl (Al rfl rfl (i+2) rfl (jS hx)) ?_;refine EZ (jB x) ?_;refine me rfl (av.Ej rfl rfl ⟨by rw[hix];omega,by rw[hix];omega⟩) ?_;refine aa ?_;refine me rfl (Al rfl rfl (i+3) rfl (jS hy)) ?_;refine EZ (jB y) ?_;refine me rfl (av.nT rfl rfl ⟨by rw[hix,hiy];omega,by rw[hix,hiy];omega⟩) ?_;refine aa ?_;refine bU ?_;exact⟨_,rfl,by rw[show eB (d::s.drop (i+2))=some (UInt8.ofNat (m*16+n),s.drop (i+4)) by rw[hdx,hdy];unfold eB;simp[h120,hm,hn]];exact⟨i+4,by omega,rfl,by rw[hix,hiy,Fp hm16 hn16];rfl⟩,rfl⟩
               · iterate 3 refine bT ?_
                 refine jY [(97,.bool (decide (d∈aR)))] rfl ?_ ?_
                 · refine aa ?_;refine RW.ew (d:=93) (b':=true) rfl (decide_eq_true (by omega)) ?_;refine aa ?_;refine xo rfl (bz rfl (p9 d▸oW d)) ?_;rintro _ _ ⟨rfl,rfl⟩;refine aa ?_;exact bH rfl ⟨au rfl (rfl),sb rfl⟩
                 · have hno:d=120->eB (d::s.drop (i+2))=none:=fun h120=>by
                    subst h120;unfold eB;simp only[show ¬((120:UInt8)=110) by decide,show ¬((120:UInt8)=116) by decide,show ¬((120:UInt8)=114) by decide,if_false,if_true];split
                    · rename_i x y t ht;have h2:s[i+2]? =some x:=by have:=congrArg (·[0]?) ht;simpa using this
                      have h3:s[i+3]? =some y:=by have:=congrArg (·[1]?) ht;simpa using this
                      split
                      · rename_i m n hm hn;exact absurd ⟨rfl,by rw[h2];simp[hm],by rw[h3];simp[hn]⟩ hx
                      · rfl
                    · rfl
                   refine bF (fun hsp=>?_) (fun hsp=>?_)
                   · refine aa ?_;refine bU ?_;have h120:¬d=120:=fun e=>by rw[e] at hsp;revert hsp;decide
                     exact⟨_,rfl,by rw[show eB (d::s.drop (i+2))=some (d,s.drop (i+2)) by unfold eB;simp[e1,e2,e3,h120,hsp]];exact⟨i+2,by omega,rfl,by rw[p9];rfl⟩,rfl⟩
                   · have hfin:eB (d::s.drop (i+2))=none:=by
                      by_cases h120:d=120
                      · exact hno h120
                      · unfold eB;simp[e1,e2,e3,h120,hsp]
                     refine aa ?_;refine bU ?_;exact⟨_,rfl,by rw[hfin];exact⟨0,rfl⟩,rfl⟩
theorem DW (x:Nat):((x:Nat):Int).tmod 2=((x%2:Nat):Int):=by rw[Int.tmod_eq_emod_of_nonneg (Int.natCast_nonneg _)];omega
theorem gU (s:Nat):∀v∈bq s,v.oneCell'=true:=by
 intro v hv;simp[bq,cw] at hv
 rcases hv with rfl|rfl|rfl|rfl<;>rfl
theorem pL (s q:Nat) (hq:q<4):(bq s)[0+q*1]? =some (cw s q):=by
 match q,hq with
 | 0,_=>rfl
 | 1,_=>rfl
 | 2,_=>rfl
 | 3,_=>rfl
theorem wG (s:Nat) (i:Nat) (hi:i<256):(bq s).set (0+i / 64*1) (.int .u64 ((tc s (i / 64) ||| 2 ^ (i%64):Nat):Int))=bq (s |||(1 <<< i)):=by
 have h:=vS 0 s (.bool true) i hi;have h2:=congrArg (fun l=>(l.drop 1).take 4) h;have h4:i / 64<4:=by omega
 generalize i / 64=q at *
 match q,h4 with
 | 0,_=>exact h2
 | 1,_=>exact h2
 | 2,_=>exact h2
 | 3,_=>exact h2
theorem mD (s:Nat) (b:UInt8):an Tryd.prog 56 #[.agg (bq s).toArray,.int .u8 (b.toNat:Nat)] h (b8 fun r h'=>r= .bool (s.testBit b.toNat)/\ak h h'):=by
 have hb:=b.toNat_lt;have hq:b.toNat / 64<4:=by omega
 have hcv:IntKind.i64.wrap ((b.toNat:Nat):Int)=((b.toNat:Nat):Int):=wrap_i64 ⟨by omega,by omega⟩
 have hdiv:IntKind.i64.wrap (((b.toNat:Int)).tdiv 64)=((b.toNat / 64:Nat):Int):=by
  rw[Int.tdiv_eq_ediv_of_nonneg (by omega),wrap_i64 ⟨by omega,by omega⟩];omega
 have hmod:((b.toNat:Int)).tmod 64=((b.toNat%64:Nat):Int):=by rw[Int.tmod_eq_emod_of_nonneg (by omega)];omega
 have hm64:b.toNat%64<64:=Nat.mod_lt _ (by decide);refine cV ?_;refine aa ?_;refine xo rfl (wY) ?_;rintro _ h1 ⟨rfl,hk,he,hz⟩;have hk:aB h1 h.size 46 (bq s):=hk;refine aY ?_;refine eW ?_;refine bT ?_;refine cU ?_;refine aY ?_;refine xp rfl (vj rfl hcv) ?_;refine xp rfl (nY rfl rfl (by decide)) ?_;refine xp rfl (wZ rfl rfl (b.toNat / 64) hdiv hq) ?_;refine xp rfl (aE rfl (hk.cell (pL s _ hq))) ?_;refine aY ?_;refine xp rfl (vj rfl hcv) ?_;refine xp rfl (nX rfl rfl (by decide)) ?_;refine xp rfl (yZ rfl rfl (by rw[hmod];omega)) ?_;refine xp rfl (nX rfl rfl (by decide)) ?_;refine aa ?_;refine bU ?_;refine⟨_,rfl,?_,he⟩
 show Value.bool _=_
 rw[hmod,CL _ _ hm64,DW,yA];cases s.testBit b.toNat<;>rfl
theorem BA {x k:Nat}(hx:x<2 ^ 64) (hk:k<64) (hb:x.testBit k=false):x+2 ^ k=x ||| 2 ^ k:=by
 have h2:2 ^ k<2 ^ 64:=Nat.pow_lt_pow_right (by decide) hk
 have hand:(BitVec.ofNat 65 x) &&& (BitVec.ofNat 65 (2 ^ k))=0#65:=by
  apply BitVec.eq_of_toNat_eq
  rw[BitVec.toNat_and,BitVec.toNat_ofNat,BitVec.toNat_ofNat,Nat.mod_eq_of_lt (by omega),Nat.mod_eq_of_lt (by omega)]
  apply Nat.eq_of_testBit_eq
  intro i;rw[Nat.testBit_and,Nat.testBit_two_pow]
  by_cases e:k=i
  · subst e;simp[hb]
  · simp[e]
 have h:=congrArg BitVec.toNat (BitVec.add_eq_or_of_and_eq_zero _ _ hand);rw[BitVec.toNat_add,BitVec.toNat_or,BitVec.toNat_ofNat,BitVec.toNat_ofNat,Nat.mod_eq_of_lt (show x<2 ^ 65 by omega),Nat.mod_eq_of_lt (show 2 ^ k<2 ^ 65 by omega),Nat.mod_eq_of_lt (by omega)] at h;exact h
theorem B2 {s:Nat}(h:s.testBit i=true):s |||(1 <<< i)=s:=by
 apply Nat.eq_of_testBit_eq
 intro j;rw[Nat.testBit_or,Nat.one_shiftLeft,Nat.testBit_two_pow]
 by_cases e:i=j
 · subst e;simp[h]
 · simp[e]
theorem fe (s a b:Nat) (hb:b<=255) (ha:a<=256):an Tryd.prog 60 #[.agg (bq s).toArray,.int .i64 (a:Nat),.int .i64 (b:Nat)] h (b8 fun r h'=>r= .agg (bq (gk s a (b+1-a))).toArray/\ak h h'):=by
 refine cV ?_;refine aa ?_;refine xo rfl (wY) ?_;rintro _ h1 ⟨rfl,hk,he,hz⟩;refine xo rfl (jf) ?_;rintro _ h2 ⟨rfl,hk2,he2,hz2⟩;have hk:aB h1 h.size 46 (bq s):=hk;have hk1:=hk.ah he2;have hk2:aB h2 h1.size 46 (bq 0):=hk2;refine aa ?_;refine fG (σ:=Nat×Nat) (fun q=>[(7,.int .i64 (q.1:Nat))]) (fun q h'=>aB h' h.size 46 (bq q.2)/\aB h' h1.size 46 (bq 0)/\ak h h'/\q.1<=256/\gk q.2 q.1 (b+1-q.1)=gk s a (b+1-a)) (fun q=>b+1-q.1) ((a,s)) ⟨hk1,hk2,he.trans he2,ha,rfl⟩ rfl ?_;rintro⟨i,s'⟩ h3 ⟨hk3,hk33,he3,hi,hsp⟩ ih
 try dsimp only
 dsimp only at hk3 hi hsp;refine aa ?_;refine bF (fun hle=>?_) (fun hle=>?_)
 · rw[qA _ _ _ (by omega)] at hsp;have hi8:i<256:=by omega
   have hub:(UInt8.ofNat i).toNat=i:=by simp;omega
   have hcv:IntKind.u8.wrap ((i:Nat):Int)=(((UInt8.ofNat i).toNat:Nat):Int):=by rw[hub];exact wrap_u8 (by omega)
   have hq:i / 64<4:=by omega
   have hdiv:IntKind.i64.wrap (((i:Int)).tdiv 64)=((i / 64:Nat):Int):=by
    rw[Int.tdiv_eq_ediv_of_nonneg (by omega),wrap_i64 ⟨by omega,by omega⟩];omega
   have hmod:((i:Int)).tmod 64=((i%64:Nat):Int):=by rw[Int.tmod_eq_emod_of_nonneg (by omega)];omega
   refine aa ?_;refine xp rfl (gj rfl hk3.row) ?_;refine aa ?_;refine xo rfl (bz rfl (hcv▸mD s' (UInt8.ofNat i))) ?_;rintro _ h4 ⟨rfl,he4⟩;refine aa ?_;have hk4:=hk3.ah he4;have hk44:=hk33.ah he4;rw[hub];refine jX (fun hnot=>?_) (fun hnot=>?_)
   · have hbit:s'.testBit i=false:=by simpa using hnot
     have hw:=tZ s' (i / 64);have hk4':aB h4 h.size 46 [cw s' 0,cw s' 1,cw s' 2,cw s' 3]:=hk4;refine Af 12 11 ?_;refine aS 0 ?_;refine bL 1 rfl (fun h' e=>nY rfl rfl (by decide)) ?_;refine aS 2 ?_;refine bL 3 rfl (fun h' e=>nY rfl rfl (by decide)) ?_;refine bL 4 rfl (fun h' e=>wZ rfl rfl (i / 64) hdiv hq) ?_;refine bL 5 rfl (fun h' e=>aE rfl (e.old (hk4.cell (pL s' _ hq)))) ?_;refine aS 6 ?_;refine bL 7 rfl (fun h' e=>nX rfl rfl (by decide)) ?_;refine bL 8 rfl (fun h' e=>u0 rfl rfl (by rw[hmod];omega)) ?_;refine bL 9 rfl (fun h' e=>av.add rfl rfl) ?_;refine bL 10 rfl (fun h' e=>wZ rfl rfl (i / 64) hdiv hq) ?_;refine qp 11 rfl (n8 rfl rfl hk4') ?_;rintro _ h5 ⟨rfl,hk5,hx5,hz5⟩;refine⟨nofun,?_⟩;refine lg ?_;refine aa ?_
     have hval:IntKind.u64.wrap (((tc s' (i / 64):Nat):Int)+IntKind.u64.wrap (1*2 ^ min (((i:Int)).tmod 64).toNat IntKind.u64.bits))=((tc s' (i / 64) ||| 2 ^ (i%64):Nat):Int):=by
      have hm64:i%64<64:=Nat.mod_lt _ (by decide)
      have hbw:(tc s' (i / 64)).testBit (i%64)=false:=by
       rw[ir,show 64*(i / 64)+i%64=i from Nat.div_add_mod i 64,hbit];simp
      rw[hmod,CM,<-BA hw hm64 hbw];have h2:2 ^ (i%64)<2 ^ 64:=Nat.pow_lt_pow_right (by decide) hm64;have h3:tc s' (i / 64) ||| 2 ^ (i%64)<2 ^ 64:=Nat.or_lt_two_pow hw h2;rw[<-BA hw hm64 hbw] at h3;generalize 2 ^ (i%64)=p at *;rw[iM ⟨by omega,by omega⟩];omega
     have hk5:aB h5 h.size 46 (bq (s' |||(1 <<< i))):=by rw[<-wG s' i hi8,<-hval];exact hk5
     exact ih (i+1,s' |||(1 <<< i)) ⟨hk5,hk44.ext hx5 (by show ¬_=_;omega),ak.only (he3.trans he4) hx5 (Nat.le_refl _),by show i+1<=256;omega,by show gk _ (i+1) (b+1-(i+1))=_;rw[<-hsp];rfl⟩
   · have hbit:s'.testBit i=true:=by simpa using hnot
     rw[B2 hbit] at hsp;refine aa ?_;exact ih (i+1,s') ⟨hk4,hk44,he3.trans he4,by show i+1<=256;omega,by show gk _ (i+1) (b+1-(i+1))=_;rw[<-hsp];rfl⟩
 · have h0:b+1-i=0:=by omega
   rw[h0] at hsp;have hsp:s'=gk s a (b+1-a):=hsp;subst hsp;refine aa ?_;refine xp rfl (gj rfl hk3.row) ?_;refine bN rfl (dx rfl rfl hk33 (gU _)) ?_;rintro _ h4 ⟨rfl,hk4,hx4,hz4⟩;refine aa ?_;have hk4:aB h4 h1.size 46 (bq (gk s a (b+1-a))):=hk4;refine jK (jI rfl hk4.row jJ) ?_;exact⟨_,rfl,rfl,ak.only he3 hx4 (by omega)⟩
theorem vB:∀(n s a:Nat),s<2 ^ 256->a+n<=256->gk s a n<2 ^ 256
 | 0,s,a,h,_=>h
 |n+1,s,a,h,hn=>vB n _ _ (Nat.or_lt_two_pow h (by rw[Nat.one_shiftLeft];exact Nat.pow_lt_pow_right (by decide) (by omega))) (by omega)
def Ac (n0:Nat) (h':af) (s:By) (p:Option (Nd×By)) (r:Value):Prop :=
 match p with
 |none=>∃(k st:Nat) (w:Value),w.oneCell'=true/\r= .tuple #[.agg (aX k st w).toArray,.int .i64 (-1)]
 |some (x,t)=>∃(w:Value) (k:Nat),k<=s.length/\t=s.drop k/\r= .tuple #[.agg (aX x.kind x.set w).toArray,.int .i64 (k:Nat)]/\aA h' (vh n0) (aX x.kind x.set w) x
theorem vC (a b:UInt8) (h:acc<2 ^ 256) (hab:a.toNat<=b.toNat+1):gK acc a b<2 ^ 256:=vB _ _ _ h (by have:=a.toNat_lt;have:=b.toNat_lt;omega)
theorem zu (ha:acc<2 ^ 256) (ho:∀i,o.testBit i=(decide (i<256) && !acc.testBit i)):o=fW acc:=by
 apply Nat.eq_of_testBit_eq
 intro i;unfold fW;rw[ho,Nat.testBit_xor,show yl=2 ^ 256-1 from rfl,Nat.testBit_two_pow_sub_one]
 by_cases hi:i<256
 · simp[hi]
 · have:acc.testBit i=false:=Nat.testBit_lt_two_pow (Nat.lt_of_lt_of_le ha (Nat.pow_le_pow_right (by decide) (by omega)));simp[hi,this]
theorem dD (s:By) (j:Nat) (c:UInt8):(p6 s j=(c.toNat:Nat))↔(s.drop j).head? =some c:=by
 rcases bM s j with ⟨_,hd,ha⟩|⟨d,_,_,hd,ha⟩
 · rw[hd,ha];constructor
   · intro e;omega
   · intro e;cases e
 · rw[hd,ha];simp only[List.head?_cons,Option.some.injEq];exact⟨fun e=>UInt8.toNat_inj.1 (by omega),fun e=>by rw[e]⟩
theorem tail_drop (s:By) (j:Nat):(s.drop j).tail=s.drop (j+1):=by rw[List.tail_drop]
theorem qT (k s:Nat) (w:Value):∀(j:Nat) (v:Value),(bq s)[j]? =some v->(aX k s w)[1+j]? =some v
 | 0,_,h=>h
 | 1,_,h=>h
 | 2,_,h=>h
 | 3,_,h=>h
 |_+4,_,h=>by simp[bq] at h
theorem zP {b:Nat}(h:∀i,o.testBit i=(decide (i<b) && !acc.testBit i)) (hb:acc.testBit b=false) (i:Nat):(o |||(1 <<< b)).testBit i=(decide (i<b+1) && !acc.testBit i):=by
 rw[Nat.testBit_or,h,Nat.one_shiftLeft,Nat.testBit_two_pow]
 by_cases e:b=i
 · subst e;simp[hb]
 · by_cases e2:i<b
   · simp[e,e2,show i<b+1 by omega]
   · simp[e,e2,show ¬i<b+1 by omega]
theorem zQ {b:Nat}(h:∀i,o.testBit i=(decide (i<b) && !acc.testBit i)) (hb:acc.testBit b=true) (i:Nat):o.testBit i=(decide (i<b+1) && !acc.testBit i):=by
 rw[h]
 by_cases e:b=i
 · subst e;simp[hb]
 · by_cases e2:i<b
   · simp[e2,show i<b+1 by omega]
   · simp[e2,show ¬i<b+1 by omega]
theorem se (s:By) (i:Nat) (hi:i<=s.length) (hs:s.length<=1000000):an Tryd.prog 59 #[.string (bs s),.int .i64 (i:Nat)] h (b8 fun r h'=>Ac h.size h' s (bR (s.drop i)) r/\ak h h'):=by
 have hbr:=mc (s.drop i);refine cV ?_;refine aa ?_;refine xo rfl (jf) ?_;rintro _ h1 ⟨rfl,hkr,he1,hz1⟩;refine aa ?_;refine xp rfl (aq (H.Dy _) rfl) ?_;refine xo rfl (jf) ?_;rintro _ h2 ⟨rfl,hk2,he2,hz2⟩;refine bN rfl (dx rfl rfl hk2) ?_;rintro _ h3 ⟨rfl,hk3,hx3,hz3⟩;have hk3:aB h3 h1.size 49 (aX 1 0 (.slice none 0 0)):=hk3;have hkr:aB h1 h.size 49 (aX 0 0 (.slice none 0 0)):=hkr;have e3:ak h h3:=ak.only (he1.trans he2) hx3 (by omega);have hkr3:aB h3 h.size 49 (aX 0 0 (.slice none 0 0)):=(hkr.ah he2).ext hx3 (by show ¬_=_;omega);refine aa ?_;refine xo rfl (bz rfl (dA s i)) ?_;rintro _ h3 ⟨rfl,rfl⟩;refine aa ?_
 have go:∀(nt:Bool) (i1:Nat) (h':af) (ρ':Env),Sub [(0,.string (bs s)),(1,.int .i64 (i1:Nat)),(4,.pointer (some ⟨h.size,0,none⟩)),(6,.pointer (some ⟨h1.size,0,none⟩)),(7,.bool nt)] ρ'->h'=h3->nt=decide ((s.drop i).head? =some 94)->i1<=s.length->s.drop i1=(if (s.drop i).head? =some 94 then (s.drop i).tail else s.drop i)->G Tryd.prog 59 f59 [.code [1,1,1,1]] ρ' h' (b8 fun r h'=>Ac h.size h' s (bR (s.drop i)) r/\ak h h'):=by
  rintro nt i1 h3 ρ' hsub rfl hnt hi1 hd1;rw[<-hd1] at hbr;generalize htg:iX true 0 (s.drop i1)=tgt at hbr;refine G.sub (ρ':=[(0,.string (bs s)),(1,.int .i64 (i1:Nat)),(4,.pointer (some ⟨h.size,0,none⟩)),(6,.pointer (some ⟨h1.size,0,none⟩)),(7,.bool nt)]) hsub ?_;refine aa ?_;refine fG (σ:=Nat×Nat×Nat) (fun q=>[(1,.int .i64 (q.2.2:Nat)),(8,.int .i64 (q.1:Nat))]) (fun q h'=>aB h' h1.size 49 (aX 1 q.2.1 (.slice none 0 0))/\aB h' h.size 49 (aX 0 0 (.slice none 0 0))/\ak h h'/\(q.2.2<=s.length/\q.1<=q.2.2/\q.2.1<2 ^ 256)/\iX (q.1 ==0) q.2.1 (s.drop q.2.2)=tgt) (fun q=>s.length-q.2.2) ((0,0,i1)) ⟨hk3,hkr3,e3,⟨hi1,Nat.zero_le _,by show (0:Nat)<2 ^ 256;decide⟩,htg⟩ rfl ?_;rintro⟨many,acc,j⟩ h5 ⟨hk5,hkr5,e5,⟨hj,hmj,hacc⟩,hcon⟩ ih
  try dsimp only
  dsimp only at hk5 hj hmj hacc hcon;have hlt5:=hk5.lt
  iterate 2 refine bT ?_
  refine jY [(29,.bool (decide (¬((many ==0)=false/\(s.drop j).head? =some 93))))] rfl ?_ ?_
  · refine aa ?_;refine ie 24 (fun hm=>?_) (fun hm=>?_)
    · have hm:many=0:=by have:=of_decide_eq_true hm;omega
      refine aa ?_;exact bH rfl ⟨au rfl (by simp[hm]),sb rfl⟩
    · have hm:¬many=0:=by have:=of_decide_eq_false hm;omega
      refine aa ?_;refine xo rfl (bz rfl (dA s j)) ?_;rintro _ h5 ⟨rfl,rfl⟩;refine aa ?_;exact bH rfl ⟨au rfl (by simp only[show (many ==0)=false by simpa using hm,true_and];exact decide_eq_decide.2 (not_congr (dD s j 93))),sb rfl⟩
  · refine bF (fun hgo=>?_) (fun hgo=>?_)
    · refine aa ?_;refine xo rfl (bz rfl (iF s j hj hs true)) ?_;rintro _ h5 ⟨hl,rfl⟩;rw[tK] at hl
      rcases hp:jw (s.drop j) with _|⟨a,r⟩<;>rw[hp] at hl
      · obtain⟨b0,rfl⟩:=hl;have hnone:bR (s.drop i)=none:=by rw[hbr,<-hcon,fu hgo (CR hp)];rfl
        refine aa ?_;refine n6 rfl (by decide) ?_;refine aa ?_;refine xp rfl (gj rfl hk5.row) ?_;refine bN rfl (dx rfl rfl hkr5 (aA.one (bg h5 (fun _=>False) 1 acc))) ?_;rintro _ h6 ⟨rfl,hk6,hx6,hz6⟩;refine aa ?_;have hk6:aB h6 h.size 49 (aX 1 acc (.slice none 0 0)):=hk6;refine jK (jI rfl hk6.row (vf jJ)) ?_;exact⟨_,rfl,by rw[hnone];exact⟨1,acc,_,rfl,rfl⟩,ak.only e5 hx6 (Nat.le_refl _)⟩
      · obtain⟨k,hk,rfl,rfl⟩:=hl;have hrl:=iT hp;simp only[List.length_drop] at hrl;refine aa ?_;refine oe rfl (by simp) ?_;refine aa ?_;refine xo rfl (bz rfl (dA s k)) ?_;rintro _ h5 ⟨rfl,rfl⟩;refine aa ?_;refine bF (fun h45=>?_) (fun h45=>?_)
        · have a1:=(dD s k 45).1 h45
          have hk1:k+1<=s.length:=by
           rcases bM s k with ⟨_,hd,_⟩|⟨_,_,hlt,_,_⟩
           · rw[hd] at a1;cases a1
           · exact hlt
          refine aa ?_;refine xo rfl (bz rfl (iF s (k+1) hk1 hs true)) ?_;rintro _ h5 ⟨hl2,rfl⟩;rw[tK] at hl2
          rcases hp2:jw (s.drop (k+1)) with _|⟨b,r2⟩<;>rw[hp2] at hl2
          · obtain⟨b0,rfl⟩:=hl2;have hnone:bR (s.drop i)=none:=by rw[hbr,<-hcon,fu hgo (CP hp a1 (by rw[tail_drop];exact hp2))];rfl
            iterate 5 refine aY ?_
            refine eW ?_;refine bT ?_;refine jY [(59,.bool true)] rfl ?_ ?_
            · refine aa ?_;refine RW.ew (d:=55) (b':=true) rfl (decide_eq_true (by decide)) ?_;refine aa ?_;exact bH rfl ⟨au rfl (rfl),sb rfl⟩
            · refine n6 rfl (by decide) ?_;refine aa ?_;refine xp rfl (gj rfl hk5.row) ?_;refine bN rfl (dx rfl rfl hkr5 (aA.one (bg h5 (fun _=>False) 1 acc))) ?_;rintro _ h6 ⟨rfl,hk6,hx6,hz6⟩;refine aa ?_;have hk6:aB h6 h.size 49 (aX 1 acc (.slice none 0 0)):=hk6;refine jK (jI rfl hk6.row (vf jJ)) ?_;exact⟨_,rfl,by rw[hnone];exact⟨1,acc,_,rfl,rfl⟩,ak.only e5 hx6 (Nat.le_refl _)⟩
          · obtain⟨k2,hk2',rfl,rfl⟩:=hl2;have hbl:=iT hp2;simp only[List.length_drop] at hbl;have hf4:=CO hp a1 (by rw[tail_drop];exact hp2);have hbt:=b.toNat_lt;have hat:=a.toNat_lt
            iterate 5 refine aY ?_
            refine eW ?_;refine bT ?_;refine jY [(59,.bool (decide (b.toNat<a.toNat)))] rfl ?_ ?_
            · refine aa ?_;refine RW.ew (d:=55) (b':=false) rfl (decide_eq_false (by simp)) ?_;refine aa ?_;exact bH rfl ⟨au rfl (by simp),sb rfl⟩
            · refine bF (fun hlow=>?_) (fun hlow=>?_)
              · rw[if_pos hlow] at hf4;have hnone:bR (s.drop i)=none:=by rw[hbr,<-hcon,fu hgo hf4];rfl
                refine aa ?_;refine xp rfl (gj rfl hk5.row) ?_;refine bN rfl (dx rfl rfl hkr5 (aA.one (bg h5 (fun _=>False) 1 acc))) ?_;rintro _ h6 ⟨rfl,hk6,hx6,hz6⟩;refine aa ?_;have hk6:aB h6 h.size 49 (aX 1 acc (.slice none 0 0)):=hk6;refine jK (jI rfl hk6.row (vf jJ)) ?_;exact⟨_,rfl,by rw[hnone];exact⟨1,acc,_,rfl,rfl⟩,ak.only e5 hx6 (Nat.le_refl _)⟩
              · rw[if_neg hlow] at hf4;have hsp:=jC (acc:=acc) hgo hf4;refine aa ?_;refine xp rfl (gj rfl (show Lw.rowAt h5 h1.size 1 (bq acc) from hk5.part 1 (qT _ _ _))) ?_;refine aY ?_;refine xp rfl (vj rfl (wrap_i64 ⟨by omega,by omega⟩)) ?_;refine aY ?_;refine xp rfl (vj rfl (wrap_i64 ⟨by omega,by omega⟩)) ?_;refine xo rfl (bz rfl (fe acc a.toNat b.toNat (by omega) (by omega))) ?_;rintro _ h6 ⟨rfl,he6⟩;refine aa ?_;refine bN rfl (dx rfl rfl ((hk5.ah he6)) (gU _)) ?_;rintro _ h7 ⟨rfl,hk7,hx7,hz7⟩;refine aa ?_;have hk7:aB h7 h1.size 49 (aX 1 (gK acc a b) (.slice none 0 0)):=hk7;exact ih (many+1,gK acc a b,k2) ⟨hk7,(hkr5.ah he6).ext hx7 (by show ¬_=_;omega),ak.only (e5.trans he6) hx7 (by omega),⟨hk2',by show many+1<=k2;omega,vC a b hacc (by omega)⟩,by rw[<-hcon,hsp];rfl⟩
        · have a1:(s.drop k).head? ≠some 45:=fun e=>h45 ((dD s k 45).2 e)
          have hf2:=CQ hp a1;have hat:=a.toNat_lt;have hsp:=jC (acc:=acc) hgo hf2;refine aa ?_;refine xp rfl (gj rfl (show Lw.rowAt h5 h1.size 1 (bq acc) from hk5.part 1 (qT _ _ _))) ?_;refine aY ?_;refine xp rfl (vj rfl (wrap_i64 ⟨by omega,by omega⟩)) ?_;refine aY ?_;refine xp rfl (vj rfl (wrap_i64 ⟨by omega,by omega⟩)) ?_;refine xo rfl (bz rfl (fe acc a.toNat a.toNat (by omega) (by omega))) ?_;rintro _ h6 ⟨rfl,he6⟩;refine aa ?_;refine bN rfl (dx rfl rfl ((hk5.ah he6)) (gU _)) ?_;rintro _ h7 ⟨rfl,hk7,hx7,hz7⟩;refine aa ?_;have hk7:aB h7 h1.size 49 (aX 1 (gK acc a a) (.slice none 0 0)):=hk7;exact ih (many+1,gK acc a a,k) ⟨hk7,(hkr5.ah he6).ext hx7 (by show ¬_=_;omega),ak.only (e5.trans he6) hx7 (by omega),⟨hk,by show many+1<=k;omega,vC a a hacc (by omega)⟩,by rw[<-hcon,hsp];rfl⟩
    · have hgo:=Classical.not_not.1 hgo;have htgt:tgt=some (acc,s.drop (j+1)):=by rw[<-hcon];unfold iX;rw[if_pos hgo,tail_drop]
      have hj1:j+1<=s.length:=by
       have a1:=hgo.2
       rcases bM s j with ⟨_,hd,_⟩|⟨_,_,hlt,_,_⟩
       · rw[hd] at a1;cases a1
       · exact hlt
      rw[htgt] at hbr;refine aa ?_
      have fin:∀(fs:Nat) (h':af) (ρ':Env),Sub [(1,.int .i64 (j:Nat)),(4,.pointer (some ⟨h.size,0,none⟩)),(6,.pointer (some ⟨h1.size,0,none⟩))] ρ'->aB h' h1.size 49 (aX 1 fs (.slice none 0 0))->aB h' h.size 49 (aX 0 0 (.slice none 0 0))->ak h h'->bR (s.drop i)=some (.mk 1 fs [],s.drop (j+1))->G Tryd.prog 59 f59 [.code [1,1,1,1,1,1]] ρ' h' (b8 fun r h'=>Ac h.size h' s (bR (s.drop i)) r/\ak h h'):=by
       rintro fs h8 ρ' hsub hk8 hkr8 e8 hb8;refine G.sub (ρ':=[(1,.int .i64 (j:Nat)),(4,.pointer (some ⟨h.size,0,none⟩)),(6,.pointer (some ⟨h1.size,0,none⟩))]) hsub ?_;refine aa ?_;refine xp rfl (gj rfl hk8.row) ?_;refine aa ?_;refine bN rfl (dx rfl rfl hkr8 (aA.one (bg h8 (fun _=>False) 1 fs))) ?_;rintro _ h9 ⟨rfl,hk9,hx9,hz9⟩;refine aa ?_;have hk9:aB h9 h.size 49 (aX 1 fs (.slice none 0 0)):=hk9;refine jK (jI rfl hk9.row (vf jJ)) ?_;exact⟨_,rfl,by rw[hb8];exact⟨_,j+1,hj1,rfl,rfl,bg _ _ _ _⟩,ak.only e8 hx9 (Nat.le_refl _)⟩
      refine jX (fun hb=>?_) (fun hb=>?_)
      · have hnt':(s.drop i).head? =some 94:=by rw[hnt] at hb;exact of_decide_eq_true hb
        simp only[hnt',if_true] at hbr;refine aa ?_;refine xo rfl (jf) ?_;rintro _ h6 ⟨rfl,hk6,he6,hz6⟩;refine aa ?_;have hk6:aB h6 h5.size 46 (bq 0):=hk6;refine fG (σ:=Nat×Nat) (fun q=>[(13,.int .i64 (q.1:Nat))]) (fun q h'=>aB h' h1.size 49 (aX 1 acc (.slice none 0 0))/\aB h' h.size 49 (aX 0 0 (.slice none 0 0))/\aB h' h5.size 46 (bq q.2)/\ak h h'/\q.1<=256/\∀i,q.2.testBit i=(decide (i<q.1) && !acc.testBit i)) (fun q=>256-q.1) ((0,0)) ⟨hk5.ah he6,hkr5.ah he6,hk6,e5.trans he6,by decide,by simp⟩ rfl ?_;rintro⟨b,o⟩ h7 ⟨hk7,hkr7,ho7,e7,hb256,hbits⟩ ih2
        try dsimp only
        dsimp only at ho7 hb256 hbits;refine aa ?_;refine bF (fun hlt=>?_) (fun hlt=>?_)
        · have hlt':b<256:=by omega
          have hub:(UInt8.ofNat b).toNat=b:=by simp;omega
          have hcv:IntKind.u8.wrap ((b:Nat):Int)=(((UInt8.ofNat b).toNat:Nat):Int):=by rw[hub];exact wrap_u8 (by omega)
          refine aa ?_;refine xp rfl (gj rfl (show Lw.rowAt h7 h1.size 1 (bq acc) from hk7.part 1 (qT _ _ _))) ?_;refine aa ?_;refine xo rfl (bz rfl (hcv▸mD acc (UInt8.ofNat b))) ?_;rintro _ h8 ⟨rfl,he8⟩;refine aa ?_;rw[hub];refine jX (fun hnot=>?_) (fun hnot=>?_)
          · have hbit:acc.testBit b=false:=by simpa using hnot
            refine aa ?_;refine xp rfl (gj rfl (ho7.ah he8).row) ?_;refine aa ?_;refine xo rfl (bz rfl (fe o b b (by omega) (by omega))) ?_;rintro _ h9 ⟨rfl,he9⟩;refine bN rfl (dx rfl rfl (((ho7.ah he8).ah he9)) (gU _)) ?_;rintro _ h10 ⟨rfl,hk10,hx10,hz10⟩;refine aa ?_;have hsp:gk o b (b+1-b)=o |||(1 <<< b):=by rw[show b+1-b=1 by omega];rfl
            have hk10:aB h10 h5.size 46 (bq (o |||(1 <<< b))):=by rw[<-hsp];exact hk10
            exact ih2 (b+1,o |||(1 <<< b)) ⟨((hk7.ah he8).ah he9).ext hx10 (by show ¬_=_;omega),((hkr7.ah he8).ah he9).ext hx10 (by show ¬_=_;omega),hk10,ak.only ((e7.trans he8).trans he9) hx10 (by omega),by show b+1<=256;omega,zP hbits hbit⟩
          · have hbit:acc.testBit b=true:=by simpa using hnot
            refine aa ?_;exact ih2 (b+1,o) ⟨hk7.ah he8,hkr7.ah he8,ho7.ah he8,e7.trans he8,by show b+1<=256;omega,zQ hbits hbit⟩
        · obtain rfl:b=256:=by omega
          have hno:=zu hacc hbits;refine aa ?_;refine xp rfl (gj rfl ho7.row) ?_;refine aa ?_;refine bN rfl (dx rfl rfl hk7 (gU _)) ?_;rintro _ h8 ⟨rfl,hk8,hx8,hz8⟩;refine eW ?_;have hk8:aB h8 h1.size 49 (aX 1 (fW acc) (.slice none 0 0)):=by rw[<-hno];exact hk8
          exact fin (fW acc) _ _ (by exact sb rfl) hk8 (hkr7.ext hx8 (by show ¬_=_;omega)) (ak.only e7 hx8 (by omega)) hbr
      · have hnt':¬(s.drop i).head? =some 94:=by rw[hnt] at hb;exact of_decide_eq_false hb
        simp only[hnt',if_false] at hbr;refine bT ?_;exact fin acc _ _ (by exact sb rfl) hk5 hkr5 e5 hbr
 refine jX (fun hb=>?_) (fun hb=>?_)
 · have hb:p6 s i=94:=of_decide_eq_true hb;have a1:=(dD s i 94).1 hb
   have hi1:i+1<=s.length:=by
    rcases bM s i with ⟨_,hd,_⟩|⟨_,_,hlt,_,_⟩
    · rw[hd] at a1;cases a1
    · exact hlt
   refine cU ?_
   iterate 3 refine aY ?_
   refine eW ?_;exact go _ (i+1) _ _ (by exact sb rfl) rfl (by rw[hb];simp[a1]) hi1 (by rw[if_pos a1,tail_drop])
 · have hb:¬p6 s i=94:=of_decide_eq_false hb;have a1:¬(s.drop i).head? =some 94:=fun e=>hb ((dD s i 94).2 e)
   refine bT ?_;exact go _ i _ _ (by exact sb rfl) rfl (by rw[decide_eq_false hb];exact(decide_eq_false a1).symm) hi (by rw[if_neg a1])
theorem rG {xs:List Nd}(kind:Nat) (hv:aP jg h O v xs):an Tryd.prog 41 #[.int .i64 (kind:Nat),v] h (b8 fun r h'=>(∃w,r= .agg (aX (aG kind xs).kind (aG kind xs).set w).toArray/\aA h' O (aX (aG kind xs).kind (aG kind xs).set w) (aG kind xs))/\ak h h'):=by
 obtain⟨oa,n,c,rfl,hsl⟩:=hv.open;have hn:=hsl.len;refine cV ?_;refine aa ?_;refine xo rfl (jf) ?_;rintro _ h1 ⟨rfl,hk,he,hz⟩;refine aa ?_;have hk:aB h1 h.size 49 (aX 0 0 (.slice none 0 0)):=hk;have hsl1:=hsl.mv (Mv.ah he);have hv1:=hv.ah he;refine bF (fun e0=>?_) (fun e0=>?_)
 · obtain rfl:n=0:=by omega
   have hx:xs=[]:=List.eq_nil_of_length_eq_zero hn;subst hx;refine aa ?_;refine xp rfl (aq (H.wN ) rfl) ?_;refine bN rfl (dx rfl rfl hk) ?_;rintro _ h2 ⟨rfl,hk2,hx2,hz2⟩;refine aa ?_;have hk2:aB h2 h.size 49 (aX 0 0 (.slice none 0 0)):=hk2;refine jK (jI rfl hk2.row jJ) ?_;exact⟨_,rfl,⟨_,rfl,bg _ _ 0 0⟩,ak.only he hx2 (Nat.le_refl _)⟩
 · refine aa ?_;refine bF (fun e1=>?_) (fun e1=>?_)
   · obtain rfl:n=1:=by omega
     obtain⟨x,rfl⟩:=List.length_eq_one_iff.1 hn;obtain⟨b,o,cs,ha,ho,hr,hR⟩:=hsl.get 0 x rfl;have hr:=he.rowAt (fun k=>k) hr;obtain⟨w,rfl,hw⟩:=aA.open hR;refine bT ?_;refine cU ?_;refine aY ?_;refine xp rfl (bK rfl rfl 0 rfl ha (by decide)) ?_;refine xp rfl (gj rfl hr) ?_;refine bN rfl (dx rfl rfl hk (jg.one hR)) ?_;rintro _ h2 ⟨rfl,hk2,hx2,hz2⟩;refine aa ?_;have hk2:aB h2 h.size 49 (aX x.kind x.set w):=hk2;refine jK (jI rfl hk2.row jJ) ?_;exact⟨_,rfl,⟨w,rfl,aA.ah hR (ak.only he hx2 (Nat.le_refl _))⟩,ak.only he hx2 (Nat.le_refl _)⟩
   · refine aa ?_;refine xp rfl (aq (H.nQ _ _ _ _) rfl) ?_;refine bN rfl (dx rfl rfl hk) ?_;rintro _ h2 ⟨rfl,hk2,hx2,hz2⟩;refine aa ?_;have hk2:aB h2 h.size 49 (aX kind 0 (.slice oa n c)):=hk2;refine jK (jI rfl hk2.row jJ) ?_
     have hj:aG kind xs= .mk kind 0 xs:=by
      unfold aG;split
      · simp at hn;omega
      · simp at hn;omega
      · rfl
     rw[hj];exact⟨_,rfl,⟨.slice oa n c,rfl,aA.of kind 0 (hv.ah (ak.only he hx2 (Nat.le_refl _)))⟩,ak.only he hx2 (Nat.le_refl _)⟩
def lQ (c:Int):Nat:=if c=42 then 4 else if c=43 then 5 else if c=63 then 6 else 0
theorem iw (c:Int):an Tryd.prog 43 #[.int .i64 c] h (b8 fun r h'=>r= .int .i64 (lQ c:Nat)/\h'=h):=by
 refine cV ?_;refine aa ?_;refine bF (fun e1=>?_) (fun e1=>?_)
 · refine aa ?_;refine bU ?_;exact⟨_,rfl,by unfold lQ;rw[if_pos e1];rfl,rfl⟩
 · refine aa ?_;refine bF (fun e2=>?_) (fun e2=>?_)
   · refine aa ?_;refine bU ?_;exact⟨_,rfl,by unfold lQ;rw[if_neg e1,if_pos e2];rfl,rfl⟩
   · refine aa ?_;refine bF (fun e3=>?_) (fun e3=>?_)
     · refine aa ?_;refine bU ?_;exact⟨_,rfl,by unfold lQ;rw[if_neg e1,if_neg e2,if_pos e3];rfl,rfl⟩
     · refine aa ?_;refine bU ?_;exact⟨_,rfl,by unfold lQ;rw[if_neg e1,if_neg e2,if_neg e3];rfl,rfl⟩
theorem ni (s:By) (j:Nat):lQ (p6 s j)=bp ((s.drop j).head?.getD 0):=by
 rcases bM s j with ⟨_,hd,ha⟩|⟨c,_,_,hd,ha⟩
 · rw[hd,ha];rfl
 · rw[hd,ha];simp only[List.head?_cons,Option.getD_some];unfold lQ bp;have e1:(((c.toNat:Nat):Int)=42)↔c=42:=bf rfl;have e2:(((c.toNat:Nat):Int)=43)↔c=43:=bf rfl;have e3:(((c.toNat:Nat):Int)=63)↔c=63:=bf rfl;simp only[e1,e2,e3]
def uZ (d:Nat):Prop:=∀(h:af) (s:By) (i:Nat),i<=s.length->(s.drop i).length<d->s.length<=1000000 ->
 an Tryd.prog 25 #[.string (bs s),.int .i64 (i:Nat)] h (b8 fun r h'=>Ac h.size h' s (bk d (s.drop i)) r/\ak h h')
theorem eM {k:Nat}{w:Value}(hw:w.oneCell'=true):∀v∈aX k st w,v.oneCell'=true:=by
 intro v hv;simp[aX,cw] at hv
 rcases hv with rfl|rfl|rfl|rfl|rfl|rfl<;>first|rfl|exact hw
theorem wP {d:Nat}(ih:uZ d) (s:By) (i:Nat) (hi:i<=s.length) (hd:(s.drop i).length<=d) (hs:s.length<=1000000):an Tryd.prog 42 #[.string (bs s),.int .i64 (i:Nat)] h (b8 fun r h'=>Ac h.size h' s (bP (bk d) (s.drop i)) r/\ak h h'):=by
 refine cV ?_;refine aa ?_;refine xo rfl (jf) ?_;rintro _ h1 ⟨rfl,hkr,he1,hz1⟩;refine aa ?_;refine xo rfl (bz rfl (dA s i)) ?_;rintro _ h1 ⟨rfl,rfl⟩;refine aa ?_;have hkr:aB h1 h.size 49 (aX 0 0 (.slice none 0 0)):=hkr;refine bF (fun c1=>?_) (fun c1=>?_)
 · have a1:=(dD s i 40).1 c1
   obtain⟨hlt,hdr⟩:i<s.length/\s.drop i=40::s.drop (i+1):=by
    rcases bM s i with ⟨_,hd,_⟩|⟨c,_,hlt,hd,_⟩
    · rw[hd] at a1;cases a1
    · rw[hd] at a1;simp at a1;subst a1;exact⟨hlt,hd⟩
   rw[hdr];rw[hdr] at hd;simp only[List.length_cons] at hd;refine aa ?_;refine xo rfl (bz rfl (ih h1 s (i+1) (by omega) (by omega) hs)) ?_;rintro _ h2 ⟨hv,he2⟩;have hz2:=he2.size;have hkr2:=hkr.ah he2
   rcases hp:bk d (s.drop (i+1)) with _|⟨x,t⟩<;>rw[hp] at hv
   · obtain⟨k,st,w,hw,rfl⟩:=hv;have hat:bP (bk d) (40::s.drop (i+1))=none:=by unfold bP;simp[hp]
     refine aa ?_;refine xo rfl (jf) ?_;rintro _ h3 ⟨rfl,hk3,he3,hz3⟩;refine bN rfl (dx rfl rfl hk3 (eM hw)) ?_;rintro _ h4 ⟨rfl,hk4,hx4,hz4⟩;refine aY ?_;refine eW ?_
     iterate 2 refine bT ?_
     have hk4:aB h4 h2.size 49 (aX k st w):=hk4;refine jY [(29,.bool true)] rfl ?_ ?_
     · refine aa ?_;refine RW.ew (d:=24) (b':=true) rfl (decide_eq_true (by decide)) ?_;refine aa ?_;exact bH rfl ⟨au rfl (rfl),sb rfl⟩
     · refine n6 rfl (by decide) ?_;refine aa ?_;refine xp rfl (gj rfl hk4.row) ?_;refine bN rfl (dx rfl rfl (((hkr2.ah he3).ext hx4 (by show ¬_=_;omega))) (eM hw)) ?_;rintro _ h5 ⟨rfl,hk5,hx5,hz5⟩;refine aa ?_;have hk5:aB h5 h.size 49 (aX k st w):=hk5;refine jK (jI rfl hk5.row (vf jJ)) ?_;exact⟨_,rfl,by rw[hat];exact⟨k,st,w,hw,rfl⟩,ak.only (ak.only ((he1.trans he2).trans he3) hx4 (by omega)) hx5 (Nat.le_refl _)⟩
   · obtain⟨w,k,hk,rfl,rfl,hnd⟩:=hv;refine aa ?_;refine xo rfl (jf) ?_;rintro _ h3 ⟨rfl,hk3,he3,hz3⟩;refine bN rfl (dx rfl rfl hk3 (aA.one hnd)) ?_;rintro _ h4 ⟨rfl,hk4,hx4,hz4⟩;refine aY ?_;refine eW ?_
     iterate 2 refine bT ?_
     have hk4:aB h4 h2.size 49 (aX x.kind x.set w):=hk4;have hkr4:=(hkr2.ah he3).ext hx4 (by show ¬_=_;omega);have e24:ak h2 h4:=ak.only he3 hx4 (Nat.le_refl _);have hnd4:=hnd.ah e24;have e4:=(he1.trans he2).trans e24;refine jY [(29,.bool (decide (¬(s.drop k).head? =some 41)))] rfl ?_ ?_
     · refine aa ?_;refine RW.ew (d:=24) (b':=false) rfl (decide_eq_false (by simp)) ?_;refine aa ?_;refine xo rfl (bz rfl (dA s k)) ?_;rintro _ h4 ⟨rfl,rfl⟩;refine aa ?_;exact bH rfl ⟨au rfl (by exact decide_eq_decide.2 (not_congr (dD s k 41))),sb rfl⟩
     · refine bF (fun hno=>?_) (fun hno=>?_)
       · have hat:bP (bk d) (40::s.drop (i+1))=none:=by
          unfold bP;simp only[if_true,hp];split
          · rename_i heq;rw[heq] at hno;exact absurd rfl hno
          · rfl
         refine aa ?_;refine xp rfl (gj rfl hk4.row) ?_;refine bN rfl (dx rfl rfl hkr4 (aA.one hnd4)) ?_;rintro _ h5 ⟨rfl,hk5,hx5,hz5⟩;refine aa ?_;have hk5:aB h5 h.size 49 (aX x.kind x.set w):=hk5;refine jK (jI rfl hk5.row (vf jJ)) ?_;exact⟨_,rfl,by rw[hat];exact⟨x.kind,x.set,w,by obtain⟨w',hw',oa,n,c,rfl,_⟩:=aA.open hnd4;simp[aX] at hw';rw[hw'];rfl,rfl⟩,ak.only e4 hx5 (Nat.le_refl _)⟩
       · have hno:=Classical.not_not.1 hno
         obtain⟨hk1,hdk⟩:k<s.length/\s.drop k=41::s.drop (k+1):=by
          rcases bM s k with ⟨_,hd,_⟩|⟨c,_,hlt,hd,_⟩
          · rw[hd] at hno;cases hno
          · rw[hd] at hno;simp at hno;subst hno;exact⟨hlt,hd⟩
         have hat:bP (bk d) (40::s.drop (i+1))=some (x,s.drop (k+1)):=by unfold bP;simp only[if_true,hp,hdk]
         refine aa ?_;refine xp rfl (gj rfl hk4.row) ?_;refine aa ?_;refine bN rfl (dx rfl rfl hkr4 (aA.one hnd4)) ?_;rintro _ h5 ⟨rfl,hk5,hx5,hz5⟩;refine aa ?_;have hk5:aB h5 h.size 49 (aX x.kind x.set w):=hk5;refine jK (jI rfl hk5.row (vf jJ)) ?_;exact⟨_,rfl,by rw[hat];exact⟨w,k+1,by omega,rfl,rfl,cO hnd4 (by omega) hx5 (fun b _ (hb:b=h.size)=>by omega)⟩,ak.only e4 hx5 (Nat.le_refl _)⟩
 · have a1:¬(s.drop i).head? =some 40:=fun e=>c1 ((dD s i 40).2 e)
   refine aa ?_;refine bF (fun c2=>?_) (fun c2=>?_)
   · have a2:=(dD s i 91).1 c2
     obtain⟨hlt,hdr⟩:i<s.length/\s.drop i=91::s.drop (i+1):=by
      rcases bM s i with ⟨_,hd,_⟩|⟨c,_,hlt,hd,_⟩
      · rw[hd] at a2;cases a2
      · rw[hd] at a2;simp at a2;subst a2;exact⟨hlt,hd⟩
     have hat:bP (bk d) (s.drop i)=bR (s.drop (i+1)):=by rw[hdr];unfold bP;simp
     rw[hat];refine aa ?_;refine xo rfl (bz rfl (se s (i+1) (by omega) hs)) ?_;rintro _ h2 ⟨hv,he2⟩;have hz2:=he2.size;have hkr2:=hkr.ah he2
     rcases hp:bR (s.drop (i+1)) with _|⟨x,t⟩<;>rw[hp] at hv
     · obtain⟨k,st,w,hw,rfl⟩:=hv;refine aa ?_;refine bN rfl (dx rfl rfl hkr2 (eM hw)) ?_;rintro _ h3 ⟨rfl,hk3,hx3,hz3⟩;refine aa ?_;have hk3:aB h3 h.size 49 (aX k st w):=hk3;refine jK (jI rfl hk3.row (vf jJ)) ?_;exact⟨_,rfl,⟨k,st,w,hw,rfl⟩,ak.only (he1.trans he2) hx3 (Nat.le_refl _)⟩
     · obtain⟨w,k,hk,rfl,rfl,hnd⟩:=hv;refine aa ?_;refine bN rfl (dx rfl rfl hkr2 (aA.one hnd)) ?_;rintro _ h3 ⟨rfl,hk3,hx3,hz3⟩;refine aa ?_;have hk3:aB h3 h.size 49 (aX x.kind x.set w):=hk3;refine jK (jI rfl hk3.row (vf jJ)) ?_;exact⟨_,rfl,⟨w,k,hk,rfl,rfl,cO hnd (by omega) hx3 (fun b _ (hb:b=h.size)=>by omega)⟩,ak.only (he1.trans he2) hx3 (Nat.le_refl _)⟩
   · have a2:¬(s.drop i).head? =some 91:=fun e=>c2 ((dD s i 91).2 e)
     refine aa ?_;refine bF (fun c3=>?_) (fun c3=>?_)
     · have a3:=(dD s i 46).1 c3
       obtain⟨hlt,hdr⟩:i<s.length/\s.drop i=46::s.drop (i+1):=by
        rcases bM s i with ⟨_,hd,_⟩|⟨c,_,hlt,hd,_⟩
        · rw[hd] at a3;cases a3
        · rw[hd] at a3;simp at a3;subst a3;exact⟨hlt,hd⟩
       have hat:bP (bk d) (s.drop i)=some (wH,s.drop (i+1)):=by rw[hdr];unfold bP;simp
       rw[hat];refine aa ?_;refine xp rfl (aq (H.Bu ) rfl) ?_;refine xo rfl (bz rfl (fe 0 0 9 (by decide) (by decide))) ?_;rintro _ h2 ⟨rfl,he2⟩;refine xo rfl (bz rfl (fe (gk 0 0 10) 11 255 (by decide) (by decide))) ?_;rintro _ h3 ⟨rfl,he3⟩;refine xp rfl (aq (H.wM _ _ _ _ _) rfl) ?_;refine aa ?_;refine bN rfl (dx rfl rfl (((hkr.ah he2).ah he3)) (aA.one (bg h3 (fun _=>False) 1 wH.set))) ?_;rintro _ h4 ⟨rfl,hk4,hx4,hz4⟩;refine aa ?_;have hk4:aB h4 h.size 49 (aX 1 wH.set (.slice none 0 0)):=hk4;refine jK (jI rfl hk4.row (vf jJ)) ?_;exact⟨_,rfl,⟨.slice none 0 0,i+1,by omega,rfl,rfl,bg _ _ _ _⟩,ak.only ((he1.trans he2).trans he3) hx4 (Nat.le_refl _)⟩
     · have a3:¬(s.drop i).head? =some 46:=fun e=>c3 ((dD s i 46).2 e)
       have hat:bP (bk d) (s.drop i)=(uH false (s.drop i)).map fun p=>(mP p.1,p.2):=by
        rcases bM s i with ⟨_,hd,_⟩|⟨c,_,hlt,hd,_⟩
        · rw[hd];rfl
        · rw[hd] at a1 a2 a3 ⊢;simp only[List.head?_cons,Option.some.injEq] at a1 a2 a3;rw[lz];unfold bP;simp only[a1,a2,a3,if_false]
          by_cases h92:c=92
          · simp[h92]
          · simp only[h92,if_false]
            have hiff:(c∈[(41:UInt8),93,124,42,43,63])↔(c∈aR/\(false=true\/(c≠45/\c≠94))):=by
             have key:∀n:Fin 256,(UInt8.ofNat n.val≠40->UInt8.ofNat n.val≠91->UInt8.ofNat n.val≠46->UInt8.ofNat n.val≠92->((UInt8.ofNat n.val∈[(41:UInt8),93,124,42,43,63])↔(UInt8.ofNat n.val∈aR/\(false=true\/(UInt8.ofNat n.val≠45/\UInt8.ofNat n.val≠94))))):=by decide +kernel
             have:=key ⟨c.toNat,c.toNat_lt⟩;simp only[UInt8.ofNat_toNat] at this;exact this a1 a2 a3 h92
            by_cases hm:c∈[(41:UInt8),93,124,42,43,63]
            · rw[if_pos hm,if_pos (hiff.1 hm)];rfl
            · rw[if_neg hm,if_neg (fun k=>hm (hiff.2 k))];rfl
       rw[hat];refine aa ?_;refine xo rfl (bz rfl (iF s i hi hs false)) ?_;rintro _ h1 ⟨hl,rfl⟩
       rcases hp:uH false (s.drop i) with _|⟨b,t⟩<;>rw[hp] at hl
       · obtain⟨b0,rfl⟩:=hl;refine aa ?_;refine n6 rfl (by decide) ?_;refine aa ?_;refine xp rfl (aq (H.wN ) rfl) ?_;refine bN rfl (dx rfl rfl hkr) ?_;rintro _ h2 ⟨rfl,hk2,hx2,hz2⟩;refine aa ?_;have hk2:aB h2 h.size 49 (aX 0 0 (.slice none 0 0)):=hk2;refine jK (jI rfl hk2.row (vf jJ)) ?_;exact⟨_,rfl,⟨0,0,_,rfl,rfl⟩,ak.only he1 hx2 (Nat.le_refl _)⟩
       · obtain⟨k,hk,rfl,rfl⟩:=hl;have hbl:=b.toNat_lt;refine aa ?_;refine oe rfl (by simp) ?_;refine aa ?_;refine xp rfl (aq (H.Bu ) rfl) ?_;refine aY ?_;refine xp rfl (vj rfl (wrap_i64 ⟨by omega,by omega⟩)) ?_;refine aY ?_;refine xp rfl (vj rfl (wrap_i64 ⟨by omega,by omega⟩)) ?_;refine xo rfl (bz rfl (fe 0 b.toNat b.toNat (by omega) (by omega))) ?_;rintro _ h2 ⟨rfl,he2⟩;refine xp rfl (aq (H.wM _ _ _ _ _) rfl) ?_;refine aa ?_;refine bN rfl (dx rfl rfl ((hkr.ah he2)) (aA.one (bg h2 (fun _=>False) 1 (mP b).set))) ?_;rintro _ h3 ⟨rfl,hk3,hx3,hz3⟩;refine aa ?_;have hk3:aB h3 h.size 49 (aX 1 (mP b).set (.slice none 0 0)):=hk3;refine jK (jI rfl hk3.row (vf jJ)) ?_;exact⟨_,rfl,⟨.slice none 0 0,k,hk,rfl,rfl,bg _ _ _ _⟩,ak.only (he1.trans he2) hx3 (Nat.le_refl _)⟩
end
end Go.Proofs.YtbbjkiigpdjaaaaDoor

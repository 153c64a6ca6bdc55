/- What the proof of the statement leans on (part 24). -/
import Derived.Lib.Split
import Derived.Test.YtckomlgchbkekaaGreatDoorQw

namespace Go.Proofs.YtckomlgchbkekaaGreatDoor
open Go Go.Lw
theorem gW {h:ai}(s:ByteArray) (c:Int):aj Tryz.prog 72 #[.string s,.int .u8 c] h (aN fun r h'=>r= .int .i64 (Lib.indexByte s.data.toList c.toNat.toUInt8)/\h'=h) :=
 aj.DM fun w=>Tryz.strings_IndexByte s c w
theorem wrap_u8 {i:Int}(h:0<=i/\i<=255):IntKind.u8.wrap i=i:=by
 have h8:(2:Int) ^ 8=256:=rfl;simp only[IntKind.wrap,IntKind.bits,IntKind.signed,h8,Bool.false_and,Bool.false_eq_true,if_false];omega
end Go.Proofs.YtckomlgchbkekaaGreatDoor
namespace Go.Proofs.YtckomlgchbkekaaGreatDoor
open Go.Proofs.Tryz
open Go Go.Lw
set_option maxRecDepth 20000 set_option maxHeartbeats 4000000
section
variable {rb n m d lim:Nat}{h h':ai}{c a:UInt8}{l r:By}{x:Nd}{M:Nat->Prop}
def si:Value:=.iface 387 (.agg #[])
def Dq (c:List PanicEntry):Prop:=c=[{ v:=si,recovered:=false }]
def St (h:ai) (rb:Nat) (l:By):Prop:=az h rb 390 [.string (bs l)]
abbrev BQ (rb:Nat):Value:=.pointer (some ⟨rb,0,none⟩)
abbrev only (rb:Nat):Nat->Prop:=fun b=>b=rb
def PR {α:Type}(rb:Nat) (h:ai) (p:Option (α×By)) (Φ:α->Value->ai->Prop):Ending->ai->Prop :=
 Dj (fun v h'=>∃x r,p=some (x,r)/\Φ x v h'/\St h' rb r/\Ext (only rb) h h') (fun ch h'=>Dq ch/\p=none/\Ext (only rb) h h')
theorem cS {α:Type}{p:Option (α×By)}{Φ:α->Value->ai->Prop}{c:List PanicEntry}(hc:Dq c) (hp:p=none) (hx:Ext (only rb) h h'):PR rb h p Φ (.panicked c) h':=⟨hc,hp,hx⟩
theorem Jq {Φ:Value->ai->Prop}{X:List PanicEntry->ai->Prop}{c:List PanicEntry}(k:X c h):Dj Φ X (.panicked c) h:=k
theorem St.cell {h:ai}{rb:Nat}{l:By}(k:St h rb l):cellAt h ⟨rb,0,none⟩=some (.string (bs l)):=az.cell k (i:=0) rfl
theorem St.lt {h:ai}{rb:Nat}{l:By}(k:St h rb l):rb<h.size:=az.lt k
def bq:By->Option (UInt8×By)| []=>none|c::r=>some (c,r)
theorem iB (h:bq l=none):l=[]:=by cases l with|nil=>rfl|cons c r=>cases h
theorem fe (h:bq l=some (c,r)):l=c::r:=by cases l with|nil=>cases h|cons d t=>cases h;rfl
theorem so (hs:St h rb l):aj Tryz.prog 368 #[BQ rb] h (aN fun r h'=>r= .int .u8 ((l.head?.getD 0).toNat:Nat)/\h'=h):=by
 refine bf ?_;refine aa ?_;refine xp rfl (aA rfl hs.cell) ?_;refine aa ?_;refine aQ (fun he=>?_) (fun he=>?_)
 · have hl:l=[]:=jg he;subst hl;refine aa ?_;refine aW ?_;exact⟨_,rfl,rfl,rfl⟩
 · obtain⟨c,r,rfl⟩:=List.exists_cons_of_ne_nil (fun(e:l=[])=>he (by rw[e];rfl));refine aa ?_;refine xp rfl (aA rfl hs.cell) ?_;refine xp rfl (oK rfl rfl 0 rfl (cQ rfl)) ?_;refine aa ?_;refine aW ?_;exact⟨_,rfl,rfl,rfl⟩
theorem fc (hs:St h rb l) (hl:l.length<=1000000):aj Tryz.prog 369 #[BQ rb] h (PR rb h (bq l) fun c v _=>v= .int .u8 (c.toNat:Nat)):=by
 refine bf ?_;refine aa ?_;refine xp rfl (aA rfl hs.cell) ?_;refine aa ?_;refine aQ (fun he=>?_) (fun he=>?_)
 · have hl:l=[]:=jg he;subst hl;refine aa ?_;refine xp rfl (au (H.gu ) rfl) ?_;refine aa ?_;refine aY rfl (cF (Φ:=fun _ _=>False) rfl (cS rfl rfl (av _ _))) ?_;rintro _ _ hpn;exact hpn.elim
 · obtain⟨c,r,rfl⟩:=List.exists_cons_of_ne_nil (fun(e:l=[])=>he (by rw[e];rfl));have hz:(bs (c::r)).size=r.length+1:=by rw[aC];rfl
   have hd:=iX (c::r) 1;simp only[List.length_cons] at hl;refine aa ?_;refine xp rfl (aA rfl hs.cell) ?_;refine xp rfl (oK rfl rfl 0 rfl (cQ rfl)) ?_;refine aa ?_;refine xp rfl (aA rfl hs.cell) ?_;refine xp rfl (an.dB underlying9 rfl rfl 1 rfl (by omega)) ?_;refine aa ?_;refine aY rfl (b7 rfl rfl hs) ?_;rintro _ h1 ⟨rfl,hk,hx,hz1⟩;refine aa ?_;refine aW ?_;exact⟨c,r,rfl,rfl,by rw[hd] at hk;exact hk,hx⟩
theorem jO (c:UInt8) (hs:St h rb l) (hl:l.length<=1000000):aj Tryz.prog 301 #[BQ rb,.int .u8 (c.toNat:Nat)] h (aN fun v h' =>
 ((l.head? =some c/\v= .bool true/\St h' rb l.tail)\/(l.head? ≠some c/\v= .bool false/\St h' rb l))/\Ext (only rb) h h'):=by
 refine bf ?_;refine aI ?_;refine bU ?_;refine aU ?_;refine bJ ?_
 iterate 2 refine aI ?_
 refine dM [(18,.bool (decide (l.head? ≠some c)))] rfl ?_ ?_
 · refine aa ?_;refine xp rfl (aA rfl hs.cell) ?_;refine aa ?_;refine dx 10 (fun he=>?_) (fun he=>?_)
   · have hl:l=[]:=jg (of_decide_eq_true he);refine aa ?_;exact aL rfl ⟨ak rfl (by subst hl;simp),sb rfl⟩
   · obtain⟨d,r,rfl⟩:=List.exists_cons_of_ne_nil (fun(e:l=[])=>(of_decide_eq_false he) (by rw[e];rfl));refine aa ?_;refine xp rfl (aA rfl hs.cell) ?_;refine xp rfl (oK rfl rfl 0 rfl (cQ rfl)) ?_;refine aa ?_;exact aL rfl ⟨ak rfl (by simp only[List.head?_cons,Option.some.injEq,ne_eq];exact Me d c),sb rfl⟩
 · refine aQ (fun hn=>?_) (fun hn=>?_)
   · refine aa ?_;refine aW ?_;exact⟨_,rfl,.inr ⟨hn,rfl,hs⟩,av _ _⟩
   · have hn:=Classical.not_not.1 hn;obtain⟨d,r,rfl⟩:=List.exists_cons_of_ne_nil (fun(e:l=[])=>by rw[e] at hn;cases hn);have hz:(bs (d::r)).size=r.length+1:=by rw[aC];rfl
     have hd:=iX (d::r) 1;simp only[List.length_cons] at hl;refine aa ?_;refine xp rfl (aA rfl hs.cell) ?_;refine xp rfl (an.dB underlying9 rfl rfl 1 rfl (by omega)) ?_;refine aa ?_;refine aY rfl (b7 rfl rfl hs) ?_;rintro _ h1 ⟨rfl,hk,hx,hz1⟩;refine aa ?_;refine aW ?_;exact⟨_,rfl,.inl ⟨hn,rfl,by rw[hd] at hk;exact hk⟩,hx⟩
theorem sx (c:UInt8) (hs:St h rb l) (hl:l.length<=1000000):aj Tryz.prog 384 #[BQ rb,.int .u8 (c.toNat:Nat)] h (PR rb h (if l.head? =some c then some ((),l.tail) else none) fun _ _ _=>True):=by
 refine bf ?_;refine aa ?_;refine xo rfl (aG rfl (jO c hs hl)) ?_;rintro _ h1 ⟨hor,hx⟩
 rcases hor with ⟨h1,rfl,h2⟩|⟨h1,rfl,h2⟩
 · refine aa ?_;refine bV rfl (by decide) ?_;refine aa ?_;refine gE ?_;exact⟨(),_,if_pos h1,trivial,h2,hx⟩
 · refine aa ?_;refine fH rfl (by decide) ?_;refine aa ?_;refine xp rfl (au (H.gu ) rfl) ?_;refine aa ?_;refine aY rfl (cF (Φ:=fun _ _=>False) rfl (cS rfl (if_neg h1) hx)) ?_;rintro _ _ hpn;exact hpn.elim
theorem lB (x:UInt8):aj Tryz.prog 72 #[.string ⟨#[40,41,91,93,124,42,43,63,46,92,45,94]⟩,.int .u8 (x.toNat:Nat)] h (aN fun r h'=>r= .int .i64 (Lib.indexByte eS x)/\h'=h) :=
 (gW _ _).ret fun _ _ ⟨ho,he⟩=>⟨by rw[ho];simp[eS],he⟩
theorem iQ:∀x:UInt8,(0<=Lib.indexByte eS x)↔x∈eS:=by
 have h:∀n:Fin 256,(0<=Lib.indexByte eS (UInt8.ofNat n.val))↔(UInt8.ofNat n.val)∈eS:=by decide +kernel
 intro x;have:=h ⟨x.toNat,x.toNat_lt⟩;simpa using this
def yG:By:=[48,49,50,51,52,53,54,55,56,57,97,98,99,100,101,102]
theorem yF (x:UInt8):aj Tryz.prog 72 #[.string ⟨#[48,49,50,51,52,53,54,55,56,57,97,98,99,100,101,102]⟩,.int .u8 (x.toNat:Nat)] h (aN fun r h'=>r= .int .i64 (Lib.indexByte yG x)/\h'=h) :=
 (gW _ _).ret fun _ _ ⟨ho,he⟩=>⟨by rw[ho];simp[yG],he⟩
theorem IP:∀n:Fin 256,IntKind.u8.wrap ((BitVec.ofInt IntKind.u8.bits (n.val:Int) |||BitVec.ofInt IntKind.u8.bits 32).toNat)=(((UInt8.ofNat n.val) ||| 32).toNat:Nat):=by decide +kernel
theorem low (x:UInt8):IntKind.u8.wrap ((BitVec.ofInt IntKind.u8.bits (x.toNat:Int) |||BitVec.ofInt IntKind.u8.bits 32).toNat)=((x ||| 32).toNat:Nat):=by
 have:=IP ⟨x.toNat,x.toNat_lt⟩;simpa using this
theorem I6:∀n:Fin 256,jX (UInt8.ofNat n.val)=if Lib.indexByte yG ((UInt8.ofNat n.val) ||| 32)<0\/n.val<48 then none else some (Lib.indexByte yG ((UInt8.ofNat n.val) ||| 32)).toNat:=by decide +kernel
theorem Qk (x:UInt8):jX x=if Lib.indexByte yG (x ||| 32)<0\/x.toNat<48 then none else some (Lib.indexByte yG (x ||| 32)).toNat:=by
 have:=I6 ⟨x.toNat,x.toNat_lt⟩;simpa using this
theorem EY {x:UInt8}(h:jX x=some n):n<16:=by
 unfold jX at h;split at h
 · cases h;omega
 · split at h
   · cases h;omega
   · split at h
     · cases h;omega
     · cases h
theorem qm (x:UInt8):aj Tryz.prog 392 #[.int .u8 (x.toNat:Nat)] h (Dj (fun v h'=>∃n:Nat,jX x=some n/\n<16/\v= .int .u8 n/\h'=h) (fun ch h'=>Dq ch/\jX x=none/\h'=h)):=by
 have hd:=Qk x;refine bf ?_;refine aI ?_;refine bU ?_;refine aU ?_;refine bJ ?_;refine aI ?_;refine bU ?_;refine aU ?_;refine xp rfl (an.zh rfl rfl) ?_;refine xo rfl (aG rfl ((low x▸yF (x ||| 32)))) ?_;rintro _ _ ⟨rfl,rfl⟩;refine aU ?_;refine bJ ?_
 iterate 2 refine aI ?_
 refine dM [(12,.bool (decide (Lib.indexByte yG (x ||| 32)<0\/x.toNat<48)))] rfl ?_ ?_
 · refine aa ?_;refine dx 9 (fun hg=>?_) (fun hg=>?_)
   · refine aa ?_;exact aL rfl ⟨ak rfl (by have:=of_decide_eq_true hg;simp[this]),sb rfl⟩
   · refine aa ?_;exact aL rfl ⟨ak rfl (by have:=of_decide_eq_false hg;simp only[decide_eq_decide];omega),sb rfl⟩
 · refine aQ (fun hn=>?_) (fun hn=>?_)
   · rw[if_pos hn] at hd;refine aa ?_;refine xp rfl (au (H.gu ) rfl) ?_;refine aa ?_;refine aY rfl (cF (Φ:=fun _ _=>False) rfl (Jq ⟨rfl,hd,rfl⟩)) ?_;rintro _ _ hpn;exact hpn.elim
   · rw[if_neg hn] at hd;have h16:=EY hd;refine aa ?_;refine aW ?_;refine⟨_,hd,h16,?_,rfl⟩
     show Value.int .u8 _=_
     congr 1
     have:IntKind.u8.wrap (Lib.indexByte yG (x ||| 32))=Lib.indexByte yG (x ||| 32):=wrap_u8 (by omega);rw[this];omega
theorem G6:∀m n:Fin 16,IntKind.u8.wrap ((BitVec.ofInt IntKind.u8.bits (IntKind.u8.wrap ((m.val:Int)*2 ^ min (4:Int).toNat IntKind.u8.bits)) |||BitVec.ofInt IntKind.u8.bits (n.val:Int)).toNat)=((UInt8.ofNat (m.val*16+n.val)).toNat:Nat):=by decide +kernel
theorem Pc (hm:m<16) (hn:n<16):IntKind.u8.wrap ((BitVec.ofInt IntKind.u8.bits (IntKind.u8.wrap ((m:Int)*2 ^ min (4:Int).toNat IntKind.u8.bits)) |||BitVec.ofInt IntKind.u8.bits (n:Int)).toNat)=((UInt8.ofNat (m*16+n)).toNat:Nat):=G6 ⟨m,hm⟩ ⟨n,hn⟩
theorem K9 {x:UInt8}(t:By) (h:jX x=none):ou (120::x::t)=none:=by
 unfold ou;cases t with
 |nil=>rfl
 |cons y t=>simp[h]
theorem mR (hs:St h rb l) (hl:l.length<=1000000):aj Tryz.prog 387 #[BQ rb] h (PR rb h (ou l) fun c v _=>v= .int .u8 (c.toNat:Nat)):=by
 refine bf ?_;refine aa ?_;refine xo rfl (uu rfl (fc hs hl) ((fun _ _ ⟨hc,hp,hx⟩=>cS hc (by rw[iB hp];rfl) hx))) ?_;rintro _ h1 ⟨c,r,hp,rfl,hs1,hx1⟩;refine aa ?_;obtain rfl:=fe hp;simp only[List.length_cons] at hl;refine aQ (fun e1=>?_) (fun e1=>?_)
 · have e1:c=110:=(cv rfl).1 e1;refine aa ?_;refine aW ?_;exact⟨10,r,by unfold ou;simp[e1],rfl,hs1,hx1⟩
 · have e1:¬c=110:=fun e=>e1 ((cv rfl).2 e)
   refine aa ?_;refine aQ (fun e2=>?_) (fun e2=>?_)
   · have e2:c=116:=(cv rfl).1 e2;refine aa ?_;refine aW ?_;exact⟨9,r,by unfold ou;simp[e2],rfl,hs1,hx1⟩
   · have e2:¬c=116:=fun e=>e2 ((cv rfl).2 e)
     refine aa ?_;refine aQ (fun e3=>?_) (fun e3=>?_)
     · have e3:c=114:=(cv rfl).1 e3;refine aa ?_;refine aW ?_;exact⟨13,r,by unfold ou;simp[e3],rfl,hs1,hx1⟩
     · have e3:¬c=114:=fun e=>e3 ((cv rfl).2 e)
       refine aa ?_;refine aQ (fun e4=>?_) (fun e4=>?_)
       · have e4:c=120:=(cv rfl).1 e4;subst e4;refine aa ?_;refine xo rfl (uu rfl (fc hs1 (by omega)) ((fun _ _ ⟨hc,hp,hx⟩=>cS hc (by rw[iB hp];rfl) (hx1.trans hx)))) ?_;rintro _ h2 ⟨x,r2,hp2,rfl,hs2,hx2⟩;refine xo rfl (uu rfl (qm x) ((fun _ h' ⟨hc,hq,hh⟩=>cS hc (by obtain rfl:=fe hp2;exact K9 _ hq) (by subst hh;exact hx1.trans hx2)))) ?_;rintro _ _ ⟨m,hm,hm16,rfl,rfl⟩;refine aU ?_;refine bJ ?_;refine aI ?_;refine bU ?_;refine aU ?_;refine xp rfl (Ee rfl rfl (by omega)) ?_;refine aa ?_;obtain rfl:=fe hp2;simp only[List.length_cons] at hl;refine xo rfl (uu rfl (fc hs2 (by omega)) ((fun _ _ ⟨hc,hp,hx⟩=>cS hc (by rw[iB hp];rfl) ((hx1.trans hx2).trans hx)))) ?_;rintro _ h3 ⟨y,r3,hp3,rfl,hs3,hx3⟩;refine xo rfl (uu rfl (qm y) ((fun _ h' ⟨hc,hq,hh⟩=>cS hc (by obtain rfl:=fe hp3;unfold ou;simp[hm,hq]) (by subst hh;exact(hx1.trans hx2).trans hx3)))) ?_;rintro _ _ ⟨n,hn,hn16,rfl,rfl⟩;refine xp rfl (an.zh rfl rfl) ?_;refine aa ?_;obtain rfl:=fe hp3;refine aW ?_;exact⟨UInt8.ofNat (m*16+n),r3,by unfold ou;simp[hm,hn],by show Value.int _ _=_;rw[Pc hm16 hn16],hs3,(hx1.trans hx2).trans hx3⟩
       · have e4:¬c=120:=fun e=>e4 ((cv rfl).2 e)
         refine aa ?_;refine xo rfl (aG rfl (lB c)) ?_;rintro _ _ ⟨rfl,rfl⟩;refine aa ?_;refine aQ (fun e5=>?_) (fun e5=>?_)
         · have e5:=(iQ c).1 e5;refine aa ?_;refine aW ?_;exact⟨c,r,by unfold ou;simp[e1,e2,e3,e4,e5],rfl,hs1,hx1⟩
         · have e5:¬c∈eS:=fun e=>e5 ((iQ c).2 e)
           refine aa ?_;refine xp rfl (au (H.gu ) rfl) ?_;refine aa ?_;refine aY rfl (cF (Φ:=fun _ _=>False) rfl (cS rfl (by unfold ou;simp[e1,e2,e3,e4,e5]) hx1)) ?_;rintro _ _ hpn;exact hpn.elim
theorem nZ (hs:St h rb l) (hl:l.length<=1000000):aj Tryz.prog 391 #[BQ rb] h (PR rb h (ni l) fun c v _=>v= .int .u8 (c.toNat:Nat)):=by
 refine bf ?_;refine aa ?_;refine xo rfl (uu rfl (fc hs hl) ((fun _ _ ⟨hc,hp,hx⟩=>cS hc (by rw[iB hp];rfl) hx))) ?_;rintro _ h1 ⟨c,r,hp,rfl,hs1,hx1⟩;refine aa ?_;obtain rfl:=fe hp;simp only[List.length_cons] at hl;refine aQ (fun e1=>?_) (fun e1=>?_)
 · have e1:c=92:=(cv rfl).1 e1;refine aa ?_;refine xo rfl (uu rfl (mR hs1 (by omega)) ((fun _ _ ⟨hc,hp,hx⟩=>cS hc (by unfold ni;simp[e1,hp]) (hx1.trans hx)))) ?_;rintro _ h2 ⟨d,r2,hp2,rfl,hs2,hx2⟩;refine aa ?_;refine aW ?_;exact⟨d,r2,by unfold ni;simp[e1,hp2],rfl,hs2,hx1.trans hx2⟩
 · have e1:¬c=92:=fun e=>e1 ((cv rfl).2 e)
   refine aa ?_;refine xo rfl (aG rfl (lB c)) ?_;rintro _ _ ⟨rfl,rfl⟩;refine aa ?_;refine aQ (fun e5=>?_) (fun e5=>?_)
   · have e5:=(iQ c).1 e5;refine aa ?_;refine xp rfl (au (H.gu ) rfl) ?_;refine aa ?_;refine aY rfl (cF (Φ:=fun _ _=>False) rfl (cS rfl (by unfold ni;simp[e1,e5]) hx1)) ?_;rintro _ _ hpn;exact hpn.elim
   · have e5:¬c∈eS:=fun e=>e5 ((iQ c).2 e)
     refine aa ?_;refine aW ?_;exact⟨c,r,by unfold ni;simp[e1,e5],rfl,hs1,hx1⟩
theorem GH (k s:Nat) (v:Value) (i:Nat) (hi:i<256):(cP k s v).set (1+i / 64*1) (.int .u64 ((BV s (i / 64) ||| 2 ^ (i%64):Nat):Int))=cP k (s |||(1 <<< i)) v:=by
 have h4:i / 64<4:=by omega
 have hw:=FO s i;have hs:∀q,q≠i / 64->dL (s |||(1 <<< i)) q=dL s q:=fun q hq=>by unfold dL;rw[FP s i q hq]
 have he:dL (s |||(1 <<< i)) (i / 64)= .int .u64 ((BV s (i / 64) ||| 2 ^ (i%64):Nat):Int):=by unfold dL;rw[hw]
 rw[<-he];generalize i / 64=q at *;unfold cP
 match q,h4 with
 | 0,_=>rw[hs 1 (by decide),hs 2 (by decide),hs 3 (by decide)];rfl
 | 1,_=>rw[hs 0 (by decide),hs 2 (by decide),hs 3 (by decide)];rfl
 | 2,_=>rw[hs 0 (by decide),hs 1 (by decide),hs 3 (by decide)];rfl
 | 3,_=>rw[hs 0 (by decide),hs 1 (by decide),hs 2 (by decide)];rfl
theorem GG (k s:Nat) (v:Value) (q:Nat) (hq:q<4):(cP k s v)[1+q*1]? =some (dL s q):=by
 match q,hq with
 | 0,_=>rfl
 | 1,_=>rfl
 | 2,_=>rfl
 | 3,_=>rfl
theorem KS {w i:Nat}(hw:w<18446744073709551616):IntKind.u64.wrap ((BitVec.ofInt IntKind.u64.bits (w:Int) |||BitVec.ofInt IntKind.u64.bits (IntKind.u64.wrap (1*2 ^ min (((i:Int)).tmod 64).toNat IntKind.u64.bits))).toNat:Int)=((w ||| 2 ^ (i%64):Nat):Int):=by
 have h1:((i:Int)).tmod 64=((i%64:Nat):Int):=by rw[Int.tmod_eq_emod_of_nonneg (by omega)];omega
 have hb:i%64<64:=Nat.mod_lt _ (by decide);have h2:2 ^ (i%64)<2 ^ 64:=Nat.pow_lt_pow_right (by decide) hb;rw[h1,MK,OW hw h2]
theorem B9 (s i n:Nat) (h:0<n):vI s i n=vI (s |||(1 <<< i)) (i+1) (n-1):=by
 cases n with
 |zero=>omega
 |succ n=>rfl
theorem fX {nb k s:Nat}{v:Value}(hk:az h nb 318 (cP k s v)) (a b:UInt8):aj Tryz.prog 386 #[.pointer (some ⟨nb,1,none⟩),.int .u8 (a.toNat:Nat),.int .u8 (b.toNat:Nat)] h (aN fun _ h' =>
 az h' nb 318 (cP k (mF s a b) v)/\Ext (only nb) h h'):=by
 have ha:=a.toNat_lt;have hb:=b.toNat_lt;refine bf ?_;refine aI ?_;refine bU ?_;refine aU ?_;refine xp rfl (ur rfl (wrap_i64 ⟨by omega,by omega⟩)) ?_;refine aa ?_;refine eR (σ:=Nat×Nat) (fun q=>[(6,.int .i64 (q.1:Nat))]) (fun q h'=>az h' nb 318 (cP k q.2 v)/\Ext (only nb) h h'/\q.1<=256/\vI q.2 q.1 (b.toNat+1-q.1)=mF s a b) (fun q=>b.toNat+1-q.1) ((a.toNat,s)) ⟨hk,av _ _,by show a.toNat<=256;omega,rfl⟩ rfl ?_;rintro⟨i,s'⟩ h1 ⟨hk1,hx1,hi,hsp⟩ ih
 try dsimp only
 dsimp only at hk1 hi hsp
 iterate 2 refine aI ?_
 refine bU ?_
 iterate 2 refine aU ?_
 refine xp rfl (ur rfl (wrap_i64 ⟨by omega,by omega⟩)) ?_;refine aa ?_;refine aQ (fun hle=>?_) (fun hle=>?_)
 · have hi255:i<=b.toNat:=by omega
   rw[B9 _ _ _ (by omega)] at hsp;have hq:i / 64<4:=by omega
   have hdiv:IntKind.i64.wrap (((i:Int)).tdiv 64)=((i / 64:Nat):Int):=by
    rw[Int.tdiv_eq_ediv_of_nonneg (by omega),wrap_i64 ⟨by omega,by omega⟩];omega
   have hw:=BU s' (i / 64);have hset:=GH k s' v i (by omega);have hk1':az h1 nb 318 [.int .i64 k,dL s' 0,dL s' 1,dL s' 2,dL s' 3,v]:=hk1;refine aa ?_;refine ic 13 12 ?_;refine ax 0 ?_;refine ax 1 ?_;refine aS 2 rfl (fun h' e=>dh rfl rfl (by decide)) ?_;refine ax 3 ?_;refine aS 4 rfl (fun h' e=>Ds rfl rfl (i / 64) hdiv hq) ?_;refine aS 5 rfl (fun h' e=>aA rfl (e.old (hk1.cell (GG k s' v _ hq)))) ?_;refine ax 6 ?_;refine aS 7 rfl (fun h' e=>cI rfl rfl (by decide)) ?_;refine aS 8 rfl (fun h' e=>Ee rfl rfl (by rw[Int.tmod_eq_emod_of_nonneg (by omega)];omega)) ?_;refine aS 9 rfl (fun h' e=>an.zh rfl rfl) ?_;refine BO 10 ?_;refine aS 11 rfl (fun h' e=>Ds rfl rfl (i / 64) hdiv hq) ?_;refine eK 12 rfl (b7 rfl rfl hk1') ?_;rintro _ h2 ⟨rfl,hk2,hx2,hz2⟩;refine⟨nofun,?_⟩;refine dP ?_;refine aa ?_;rw[KS hw,show [.int .i64 (k:Int),dL s' 0,dL s' 1,dL s' 2,dL s' 3,v]=cP k s' v from rfl,hset] at hk2;exact ih (i+1,s' |||(1 <<< i)) ⟨hk2,hx1.trans hx2,by show i+1<=256;omega,by show vI _ (i+1) (b.toNat+1-(i+1))=_;rw[<-hsp];rfl⟩
 · have h0:b.toNat+1-i=0:=by omega
   rw[h0] at hsp;refine aa ?_;refine gE ?_;exact⟨_,rfl,by rw[<-hsp];exact hk1,hx1⟩
theorem EZ (s:Nat) (b:UInt8):aj Tryz.prog 272 #[.agg (tF s).toArray,.int .u8 (b.toNat:Nat)] h (aN fun r h'=>r= .bool (s.testBit b.toNat)/\ah h h'):=by
 have hb:=b.toNat_lt;have hq:b.toNat / 64<4:=by omega
 have hdiv:IntKind.u8.wrap (((b.toNat:Int)).tdiv 64)=((b.toNat / 64:Nat):Int):=by
  rw[Int.tdiv_eq_ediv_of_nonneg (by omega),wrap_u8 (by omega)];omega
 have hmod:((b.toNat:Int)).tmod 64=((b.toNat%64:Nat):Int):=by rw[Int.tmod_eq_emod_of_nonneg (by omega)];omega
 have hm64:b.toNat%64<64:=Nat.mod_lt _ (by decide)
 have hword:∀q,q<4->(tF s)[0+q*1]? =some (dL s q):=fun q hq=>by
  match q,hq with
  | 0,_=>rfl
  | 1,_=>rfl
  | 2,_=>rfl
  | 3,_=>rfl
 refine bf ?_;refine aa ?_;refine xo rfl (cM) ?_;rintro _ h1 ⟨rfl,hk,he,hz⟩;refine aU ?_;refine bJ ?_;refine aI ?_;refine bU ?_;refine aU ?_;refine xp rfl (dh rfl rfl (by decide)) ?_;have hk:az h1 h.size 315 (tF s):=hk;refine xp rfl (Ds rfl rfl (b.toNat / 64) hdiv hq) ?_;refine xp rfl (aA rfl (hk.cell (hword _ hq))) ?_;refine aU ?_;refine xp rfl (cI rfl rfl (by decide)) ?_;refine xp rfl (zq rfl rfl (by rw[hmod];omega)) ?_;refine xp rfl (an.tS rfl rfl) ?_;refine aa ?_;refine aW ?_;refine⟨_,rfl,?_,he⟩;rw[hmod,MH _ _ hm64,Pu (Nat.lt_of_le_of_lt (Nat.shiftRight_le _ _) (BU s _)),Ir];cases s.testBit b.toNat<;>rfl
theorem iO.only {h0:ai}{g:Nat}(e:Ext M h0 h) (x:Ext (fun b=>b=g) h h') (hg:h0.size<=g):Ext M h0 h' :=
 ⟨Nat.le_trans e.size x.size,fun b hb hm=>by rw[x.block b (Nat.lt_of_lt_of_le hb e.size) (by omega)];exact e.block b hb hm⟩
theorem iO.af {h0:ai}(e:Ext M h0 h) (x:ah h h'):Ext M h0 h':=e.trans (ah.of x)
theorem rI:∀(n m acc:Nat) (s:By),s.length<n->s.length<m->kM n acc s=kM m acc s
 | 0,_,_,_,h,_=>by omega
 |_,0,_,_,_,h=>by omega
 |n+1,m+1,acc,s,hn,hm=>by
  rw[kM,kM];cases hf:dW s with
  |none=>rfl
  |some p =>
   obtain⟨⟨a,b⟩,r⟩:=p;have hlen:=lO hf;simp only;split
   · rfl
   · exact rI n m _ _ (by omega) (by omega)
def mS (first:Bool) (acc:Nat) (l:By):Option (Nat×By):=if first=false/\l.head? =some 93 then some (acc,l.tail) else kM (l.length+1) acc l
theorem nu {first:Bool}{acc:Nat}(h:¬(first=false/\l.head? =some 93)) (hf:dW l=none):mS first acc l=none:=by
 unfold mS;rw[if_neg h,kM,hf]
theorem tL {first:Bool}{acc:Nat}{b:UInt8}(h:¬(first=false/\l.head? =some 93)) (hf:dW l=some ((a,b),r)):mS first acc l=mS false (mF acc a b) r:=by
 have hlen:=lO hf;unfold mS;rw[if_neg h,kM,hf];simp only[true_and];split
 · simp
 · rename_i hne
   rw[if_neg (fun e=>by
    cases r with
    |nil=>cases e
    |cons c t=>simp at e;subst e;exact hne t rfl)]
   exact rI _ _ _ _ (by omega) (by omega)
theorem Na (h:ni l=none):dW l=none:=by unfold dW;rw[h]
theorem M9 (h:ni l=some (a,r)) (hr:r.head? ≠some 45):dW l=some ((a,a),r):=by
 unfold dW;rw[h];simp only;split
 · exact absurd rfl hr
 · rfl
theorem M8 (h:ni l=some (a,r)) (hr:r.head? =some 45) (hb:ni r.tail=none):dW l=none:=by
 unfold dW;rw[h];cases r with
 |nil=>cases hr
 |cons c t=>simp at hr;subst hr;simp at hb;simp[hb]
theorem M7 {r':By}{b:UInt8}(h:ni l=some (a,r)) (hr:r.head? =some 45) (hb:ni r.tail=some (b,r')):dW l=if b.toNat<a.toNat then none else some ((a,b),r'):=by
 unfold dW;rw[h];cases r with
 |nil=>cases hr
 |cons c t=>simp at hr;subst hr;simp at hb;simp[hb]
theorem vk (l:By):gR l=(mS true 0 (if l.head? =some 94 then l.tail else l)).map fun p=>(.mk 1 (if l.head? =some 94 then lM p.1 else p.1) [],p.2):=by
 unfold gR mS;split
 · simp
 · rename_i hne
   have h1:l.head? ≠some 94:=fun e=>by
    cases l with
    |nil=>cases e
    |cons c t=>simp at e;subst e;exact hne t rfl
   simp[h1]
theorem Iq (s q:Nat) (hq:q<4):BV (lM s) q=18446744073709551615 ^^^ BV s q:=by
 apply Nat.eq_of_testBit_eq
 intro i;rw[jI,Nat.testBit_xor,jI];unfold lM;rw[Nat.testBit_xor,show HT=2 ^ 256-1 from rfl,Nat.testBit_two_pow_sub_one,show (18446744073709551615:Nat)=2 ^ 64-1 from rfl,Nat.testBit_two_pow_sub_one]
 by_cases hi:i<64
 · have:64*q+i<256:=by omega
   simp[hi,this]
 · simp[hi]
theorem Mb {x:Nat}(hx:x<18446744073709551616):IntKind.u64.wrap ((BitVec.ofInt IntKind.u64.bits (if IntKind.u64.signed then -1 else IntKind.u64.max) ^^^ BitVec.ofInt IntKind.u64.bits (x:Int)).toNat:Int)=((18446744073709551615 ^^^ x:Nat):Int):=by
 have e:(BitVec.ofInt IntKind.u64.bits (if IntKind.u64.signed then -1 else IntKind.u64.max) ^^^ BitVec.ofInt IntKind.u64.bits (x:Int)).toNat=18446744073709551615 ^^^ x:=by
  rw[BitVec.toNat_xor]
  have h1:(BitVec.ofInt IntKind.u64.bits (x:Int)).toNat=x:=by
   show (BitVec.ofInt 64 (x:Int)).toNat=x
   simp only[BitVec.toNat_ofInt];omega
  rw[h1];rfl
 rw[e];have:18446744073709551615 ^^^ x<2 ^ 64:=Nat.xor_lt_two_pow (by decide) hx;exact jr ⟨by omega,by omega⟩
def AI (s q i:Nat):Value:=if i<q then dL (lM s) i else dL s i
def KX (s q:Nat):List Value:=[.int .i64 1,AI s q 0,AI s q 1,AI s q 2,AI s q 3,.slice none 0 0]
theorem GF (s q:Nat) (hq:q<4):(KX s q)[1+q*1]? =some (dL s q):=by
 match q,hq with
 | 0,_=>rfl
 | 1,_=>rfl
 | 2,_=>rfl
 | 3,_=>rfl
theorem IN (s q:Nat) (hq:q<4):(KX s q).set (1+q*1) (.int .u64 ((18446744073709551615 ^^^ BV s q:Nat):Int))=KX s (q+1):=by
 rw[<-Iq s q hq]
 match q,hq with
 | 0,_=>rfl
 | 1,_=>rfl
 | 2,_=>rfl
 | 3,_=>rfl
abbrev D6 (n:Nat):Nat->Prop:=fun b=>b<n
def Dl (n:Nat) (x:Nd) (v:Value) (h':ai):Prop:=∃w,v= .agg (cP x.kind x.set w).toArray/\bw h' (D6 n) (cP x.kind x.set w) x
theorem eI (h:ai) (O:Nat->Prop) (k s:Nat):bw h O (cP k s (.slice none 0 0)) (.mk k s []):=.of k s (aR.nil _ _ _)
theorem vj (hs:St h rb l) (hl:l.length<=1000000):aj Tryz.prog 385 #[BQ rb] h (PR rb h (gR l) (Dl h.size)):=by
 have hlt:=hs.lt;have hbr:=vk l;refine bf ?_;refine aa ?_;refine xo rfl (cC) ?_;rintro _ h1 ⟨rfl,hkr,he1,hz1⟩;refine aa ?_;refine xp rfl (au (H.D8 _) rfl) ?_;refine xo rfl (cC) ?_;rintro _ h2 ⟨rfl,hk2,he2,hz2⟩;refine aY rfl (bM rfl rfl hk2) ?_;rintro _ h3 ⟨rfl,hk3,hx3,hz3⟩;have hk3:az h3 h1.size 318 (cP 1 0 (.slice none 0 0)):=hk3;have hkr:az h1 h.size 318 (cP 0 0 (.slice none 0 0)):=hkr;have e3:ah h h3:=ah.only (he1.trans he2) hx3 (by omega);have hkr3:az h3 h.size 318 (cP 0 0 (.slice none 0 0)):=(hkr.af he2).ext hx3 (by show ¬_=_;omega);have hs3:St h3 rb l:=az.af hs e3;refine aa ?_;refine xo rfl (aG rfl (jO 94 hs3 hl)) ?_;rintro _ h4 ⟨hor,hx4⟩
 obtain⟨nt,l1,rfl,hnt,hl1,hs4⟩:∃(nt:Bool) (l1:By),_=Value.bool nt/\nt=decide (l.head? =some 94)/\l1=(if l.head? =some 94 then l.tail else l)/\St h4 rb l1:=by
  rcases hor with ⟨a1,a2,a3⟩|⟨a1,a2,a3⟩
  · exact⟨true,_,a2,by simp[a1],by rw[if_pos a1],a3⟩
  · exact⟨false,_,a2,by simp[a1],by rw[if_neg a1],a3⟩
 rw[<-hl1] at hbr;have hl1l:l1.length<=1000000:=by rw[hl1];split;(have:l.tail.length<=l.length:=by simp);omega;exact hl
 have hkr4:=hkr3.ext hx4 (by show ¬_=_;omega);have hk4:=hk3.ext hx4 (by show ¬_=_;omega);have e4:Ext (only rb) h h4:=(ah.of e3).trans hx4;have hz4:=hx4.size;generalize htg:mS true 0 l1=tgt at hbr;refine aa ?_;refine eR (σ:=Bool×Nat×By) (fun q=>[(5,.bool q.1)]) (fun q h'=>St h' rb q.2.2/\az h' h1.size 318 (cP 1 q.2.1 (.slice none 0 0))/\az h' h.size 318 (cP 0 0 (.slice none 0 0))/\Ext (only rb) h h'/\q.2.2.length<=1000000/\mS q.1 q.2.1 q.2.2=tgt) (fun q=>q.2.2.length) ((true,0,l1)) ⟨hs4,hk4,hkr4,e4,hl1l,htg⟩ rfl ?_;rintro⟨first,acc,m⟩ h5 ⟨hs5,hk5,hkr5,e5,hm,hcon⟩ ih
 try dsimp only
 dsimp only at hs5 hk5 hm hcon
 iterate 2 refine aI ?_
 refine dM [(17,.bool (decide (¬(first=false/\m.head? =some 93))))] rfl ?_ ?_
 · refine aa ?_;refine dx 13 (fun hf=>?_) (fun hf=>?_)
   · refine aa ?_;exact aL rfl ⟨ak rfl (by simp[hf]),sb rfl⟩
   · refine aa ?_;refine xo rfl (aG rfl (so hs5)) ?_;rintro _ _ ⟨rfl,rfl⟩;refine aa ?_;exact aL rfl ⟨ak rfl (by cases m with|nil=>simp|cons c t=>simp only[hf,List.head?_cons,Option.getD_some,Option.some.injEq,true_and];exact decide_eq_decide.2 (not_congr (cv rfl))),sb rfl⟩
 · refine aQ (fun hgo=>?_) (fun hgo=>?_)
   · refine aa ?_;refine xo rfl (uu rfl (nZ hs5 hm) ((fun _ _ ⟨hc,hp,hx⟩=>cS hc (by rw[hbr,<-hcon,nu hgo (Na hp)];rfl) (e5.trans hx)))) ?_;rintro _ h6 ⟨a,r,ha,rfl,hs6,hx6⟩;have hrl:=n7 ha;have hk6:=hk5.ext hx6 (by show ¬_=_;omega);have hkr6:=hkr5.ext hx6 (by show ¬_=_;omega);have e6:=e5.trans hx6;refine aa ?_;refine xo rfl (aG rfl (jO 45 hs6 (by omega))) ?_;rintro _ h7 ⟨hor7,hx7⟩;have hk7:=hk6.ext hx7 (by show ¬_=_;omega);have hkr7:=hkr6.ext hx7 (by show ¬_=_;omega);have e7:=e6.trans hx7
     rcases hor7 with ⟨a1,rfl,hs7⟩|⟨a1,rfl,hs7⟩
     · have htl:r.tail.length<=r.length:=by simp
       refine aa ?_;refine fH rfl (by decide) ?_;refine aa ?_;refine xo rfl (uu rfl (nZ hs7 (by omega)) ((fun _ _ ⟨hc,hp,hx⟩=>cS hc (by rw[hbr,<-hcon,nu hgo (M8 ha a1 hp)];rfl) (e7.trans hx)))) ?_;rintro _ h8 ⟨b,r8,hb,rfl,hs8,hx8⟩;have hbl:=n7 hb;have hk8:=hk7.ext hx8 (by show ¬_=_;omega);have hkr8:=hkr7.ext hx8 (by show ¬_=_;omega);have e8:=e7.trans hx8;have hf4:=M7 ha a1 hb;refine aa ?_;refine aQ (fun hlow=>?_) (fun hlow=>?_)
       · rw[if_pos (by omega)] at hf4;refine aa ?_;refine xp rfl (au (H.gu ) rfl) ?_;refine aa ?_;refine aY rfl (cF (Φ:=fun _ _=>False) rfl (cS rfl (by rw[hbr,<-hcon,nu hgo hf4];rfl) e8)) ?_;rintro _ _ hpn;exact hpn.elim
       · rw[if_neg (by omega)] at hf4;refine aa ?_;refine xo rfl (aG rfl (fX hk8 a b)) ?_;rintro _ h9 ⟨hk9,hx9⟩;refine aa ?_;have hsp:=tL (acc:=acc) hgo hf4;exact ih (false,mF acc a b,r8) ⟨az.ext hs8 hx9 (by show ¬_=_;omega),hk9,hkr8.ext hx9 (by show ¬_=_;omega),iO.only e8 hx9 (by omega),by show r8.length<=_;omega,by rw[<-hcon,hsp]⟩
     · have hf2:=M9 ha a1;refine aa ?_;refine bV rfl (by decide) ?_;refine aa ?_;refine bV rfl (by simp) ?_;refine aa ?_;refine xo rfl (aG rfl (fX hk7 a a)) ?_;rintro _ h9 ⟨hk9,hx9⟩;refine aa ?_;have hsp:=tL (acc:=acc) hgo hf2;exact ih (false,mF acc a a,r) ⟨az.ext hs7 hx9 (by show ¬_=_;omega),hk9,hkr7.ext hx9 (by show ¬_=_;omega),iO.only e7 hx9 (by omega),by show r.length<=_;omega,by rw[<-hcon,hsp]⟩
   · have hgo:=Classical.not_not.1 hgo;have htgt:tgt=some (acc,m.tail):=by rw[<-hcon];unfold mS;rw[if_pos hgo]
     refine aa ?_;refine xo rfl (uu rfl (sx 93 hs5 hm) ((fun _ _ ⟨hc,hp,hx⟩=>absurd hp (by rw[if_pos hgo.2];simp)))) ?_;rintro _ h6 ⟨_,r,hp,_,hs6,hx6⟩;refine aa ?_;rw[if_pos hgo.2] at hp;cases hp;have hk6:=hk5.ext hx6 (by show ¬_=_;omega);have hkr6:=hkr5.ext hx6 (by show ¬_=_;omega);have e6:=e5.trans hx6;have hk6:az h6 h1.size 318 (KX acc 0):=hk6;refine eR (σ:=Nat) (fun q=>[(36,.int .i64 (q:Nat))]) (fun q h'=>q<=4/\St h' rb m.tail/\az h' h1.size 318 (KX acc (if nt then q else 0))/\az h' h.size 318 (cP 0 0 (.slice none 0 0))/\Ext (only rb) h h') (fun q=>4-q) (0) ⟨by omega,hs6,by cases nt<;>exact hk6,hkr6,e6⟩ rfl ?_;rintro q h7 ⟨hq,hs7,hk7,hkr7,e7⟩ ih;refine aa ?_;refine aQ (fun hq4=>?_) (fun hq4=>?_)
     · have hq4':q<4:=by omega
       refine aa ?_;refine oL (fun hb=>?_) (fun hb=>?_)
       · rw[if_pos hb] at hk7;have hk7':az h7 h1.size 318 [.int .i64 1,AI acc q 0,AI acc q 1,AI acc q 2,AI acc q 3,.slice none 0 0]:=hk7;refine bU ?_
         iterate 3 refine aU ?_
         refine xp rfl (Ds rfl rfl q rfl hq4') ?_;refine xp rfl (aA rfl (hk7.cell (GF acc q hq4'))) ?_;refine xp rfl (an.No rfl) ?_;refine aU ?_;refine xp rfl (Ds rfl rfl q rfl hq4') ?_;refine aY rfl (b7 rfl rfl hk7') ?_;rintro _ h8 ⟨rfl,hk8,hx8,hz8⟩;refine aa ?_;have hk8:az h8 h1.size 318 (KX acc (q+1)):=by rw[<-IN acc q hq4',<-Mb (BU acc q)];exact hk8
         exact ih (q+1) ⟨by omega,az.ext hs7 hx8 (by show ¬_=_;omega),by rw[if_pos hb];exact hk8,hkr7.ext hx8 (by show ¬_=_;omega),iO.only e7 hx8 (by omega)⟩
       · rw[if_neg (by rw[hb];decide)] at hk7;refine aa ?_;exact ih (q+1) ⟨by omega,hs7,by rw[if_neg (by rw[hb];decide)];exact hk7,hkr7,e7⟩
     · obtain rfl:q=4:=by omega
       have hfin:KX acc (if nt then 4 else 0)=cP 1 (if l.head? =some 94 then lM acc else acc) (.slice none 0 0):=by
        subst hnt
        by_cases hd:l.head? =some 94<;>simp[hd]<;>rfl
       rw[hfin] at hk7;have hbr2:gR l=some (.mk 1 (if l.head? =some 94 then lM acc else acc) [],m.tail):=by rw[hbr,htgt];rfl
       generalize (if l.head? =some 94 then lM acc else acc)=fs at hk7 hbr2;refine aa ?_;refine xp rfl (bI rfl hk7.row) ?_;refine aY rfl (bM rfl rfl hkr7 (bw.one (eI h7 (only rb) 1 fs))) ?_;rintro _ h8 ⟨rfl,hk8,hx8,hz8⟩;refine aa ?_;have hk8:az h8 h.size 318 (cP 1 fs (.slice none 0 0)):=hk8;refine fG (fT rfl hk8.row fF) ?_;exact⟨_,m.tail,hbr2,⟨_,rfl,eI _ _ _ _⟩,az.ext hs7 hx8 (by show ¬_=_;omega),iO.only e7 hx8 (Nat.le_refl _)⟩
theorem bw.low {cs:List Value}(k:bw h (D6 m) cs x) (hn:n<=m) (e:Ext M h h') (hM:∀b,b<h.size->M b->b<m):bw h' (D6 n) cs x :=
 k.mv (Mv.dI e fun b hb ho=>⟨fun hm=>ho (hM b hb hm),fun k=>ho (Nat.lt_of_lt_of_le k hn)⟩)
theorem GB {cs ds:List Value}(h:cs.length=ds.length):over cs 0 ds=ds:=by
 unfold over;rw[List.drop_of_length_le (by omega)];simp
theorem og {O:Nat->Prop}{v:Value}{xs:List Nd}(kind:Nat) (hv:aR qj h O v xs):aj Tryz.prog 302 #[.int .i64 (kind:Nat),v] h (aN fun r h'=>(∃w,r= .agg (cP (bG kind xs).kind (bG kind xs).set w).toArray/\bw h' O (cP (bG kind xs).kind (bG kind xs).set w) (bG kind xs))/\ah h h'):=by
 obtain⟨oa,n,c,rfl,hsl⟩:=hv.open;have hn:=hsl.len;refine bf ?_;refine aa ?_;refine xo rfl (cC) ?_;rintro _ h1 ⟨rfl,hk,he,hz⟩;refine aa ?_;have hk:az h1 h.size 318 (cP 0 0 (.slice none 0 0)):=hk;have hsl1:=hsl.mv (Mv.af he);have hv1:=hv.af he;refine aQ (fun e0=>?_) (fun e0=>?_)
 · obtain rfl:n=0:=by omega
   have hx:xs=[]:=List.eq_nil_of_length_eq_zero hn;subst hx;refine aa ?_;refine xp rfl (au (H.Dc ) rfl) ?_;refine aY rfl (bM rfl rfl hk) ?_;rintro _ h2 ⟨rfl,hk2,hx2,hz2⟩;refine aa ?_;have hk2:az h2 h.size 318 (cP 0 0 (.slice none 0 0)):=hk2;refine fG (fT rfl hk2.row fF) ?_;exact⟨_,rfl,⟨_,rfl,eI _ _ 0 0⟩,ah.only he hx2 (Nat.le_refl _)⟩
 · refine aa ?_;refine aQ (fun e1=>?_) (fun e1=>?_)
   · obtain rfl:n=1:=by omega
     obtain⟨x,rfl⟩:=List.length_eq_one_iff.1 hn;obtain⟨b,o,cs,ha,ho,hr,hR⟩:=hsl.get 0 x rfl;have hr:=he.rowAt (fun k=>k) hr;obtain⟨w,rfl,hw⟩:=bw.open hR;refine aI ?_;refine bU ?_;refine aU ?_;refine xp rfl (bT rfl rfl 0 rfl ha (by decide)) ?_;refine xp rfl (bI rfl hr) ?_;refine aY rfl (bM rfl rfl hk (qj.one hR)) ?_;rintro _ h2 ⟨rfl,hk2,hx2,hz2⟩;refine aa ?_;have hk2:az h2 h.size 318 (cP x.kind x.set w):=hk2;refine fG (fT rfl hk2.row fF) ?_;exact⟨_,rfl,⟨w,rfl,bw.af hR (ah.only he hx2 (Nat.le_refl _))⟩,ah.only he hx2 (Nat.le_refl _)⟩
   · refine aa ?_;refine xp rfl (au (H.pz _ _ _ _) rfl) ?_;refine aY rfl (bM rfl rfl hk) ?_;rintro _ h2 ⟨rfl,hk2,hx2,hz2⟩;refine aa ?_;have hk2:az h2 h.size 318 (cP kind 0 (.slice oa n c)):=hk2;refine fG (fT rfl hk2.row fF) ?_
     have hj:bG kind xs= .mk kind 0 xs:=by
      unfold bG;split
      · simp at hn;omega
      · simp at hn;omega
      · rfl
     rw[hj];exact⟨_,rfl,⟨.slice oa n c,rfl,bw.of kind 0 (hv.af (ah.only he hx2 (Nat.le_refl _)))⟩,ah.only he hx2 (Nat.le_refl _)⟩
def Sg (h:ai) (lim:Nat):Prop:=∃m,14<lim/\m<lim/\cellAt h ⟨14,0,none⟩=some (.map (some m)) /\
 ∃l:List (Int×Int),eJ (Value.int .u8) (Value.int .i64) h m l/\∀c:UInt8,((jG (c.toNat:Int) l).map (Value.int .i64)).getD (Value.int .i64 0)=Value.int .i64 (cG c:Nat)
theorem Sg.ext {h h':ai}{lim:Nat}(k:Sg h lim){M:Nat->Prop}(e:Ext M h h') (hM:∀b,M b->lim<=b):Sg h' lim:=by
 obtain⟨m,h1,h2,h3,l,h4,h5⟩:=k;exact⟨m,h1,h2,e.cell (fun k=>absurd (hM _ k) (by show ¬lim<=14;omega)) h3,l,h4.ext e (fun k=>by have:=hM _ k;omega),h5⟩
def uj (d lim:Nat):Prop:=∀(h:ai) (rb:Nat) (l:By),Sg h lim->lim<=rb->St h rb l->l.length<d->l.length<=1000000 ->
 aj Tryz.prog 267 #[BQ rb] h (PR rb h (cW d l) (Dl h.size))
theorem De (ih:uj d lim) (hg:Sg h lim) (hrb:lim<=rb) (hs:St h rb l) (hd:l.length<=d) (hl:l.length<=1000000):aj Tryz.prog 367 #[BQ rb] h (PR rb h (eC (cW d) l) (Dl h.size)):=by
 have hlt:=hs.lt;refine bf ?_;refine aa ?_;refine xo rfl (cC) ?_;rintro _ h1 ⟨rfl,hkr,he1,hz1⟩;refine aa ?_;refine xp rfl (au (H.D8 _) rfl) ?_;refine xo rfl (cC) ?_;rintro _ h2 ⟨rfl,hk2,he2,hz2⟩;refine aY rfl (bM rfl rfl hk2) ?_;rintro _ h3 ⟨rfl,hk3,hx3,hz3⟩;have hk3:az h3 h1.size 318 (cP 1 0 (.slice none 0 0)):=hk3;have hkr:az h1 h.size 318 (cP 0 0 (.slice none 0 0)):=hkr;have e3:ah h h3:=ah.only (he1.trans he2) hx3 (by omega);have hkr3:az h3 h.size 318 (cP 0 0 (.slice none 0 0)):=(hkr.af he2).ext hx3 (by show ¬_=_;omega);have hs3:St h3 rb l:=az.af hs e3;refine aa ?_;refine xo rfl (uu rfl (fc hs3 hl) ((fun _ _ ⟨hc,hp,hx⟩=>cS hc (by rw[iB hp];rfl) ((ah.of e3).trans hx)))) ?_;rintro _ h4 ⟨c,r,hp,rfl,hs4,hx4⟩;obtain rfl:=fe hp;simp only[List.length_cons] at hl hd;have hkr4:=hkr3.ext hx4 (by show ¬_=_;omega);have hk4:=hk3.ext hx4 (by show ¬_=_;omega);have e4:Ext (only rb) h h4:=(ah.of e3).trans hx4;have hz4:=hx4.size;have hg4:Sg h4 lim:=hg.ext e4 (fun b (hb:b=rb)=>by omega);refine aa ?_
 have fin:∀(x:Nd) (w:Value) (m:By) (h':ai) (ρ':Env),Sub [(0,BQ rb),(2,.pointer (some ⟨h.size,0,none⟩)),(3,.pointer (some ⟨h1.size,0,none⟩))] ρ'->az h' h1.size 318 (cP x.kind x.set w)->az h' h.size 318 (cP 0 0 (.slice none 0 0))->St h' rb m->bw h' (D6 (h.size+1)) (cP x.kind x.set w) x->Ext (only rb) h h'->eC (cW d) (c::r)=some (x,m)->G Tryz.prog 367 f367 [.code [1,1,1]] ρ' h' (PR rb h (eC (cW d) (c::r)) (Dl h.size)):=by
  rintro x w m hh ρ' hsub hkx hkrr hst hnd hee hat;refine G.sub (ρ':=[(0,BQ rb),(2,.pointer (some ⟨h.size,0,none⟩)),(3,.pointer (some ⟨h1.size,0,none⟩))]) hsub ?_;refine aa ?_;refine xp rfl (bI rfl hkx.row) ?_;refine aY rfl (bM rfl rfl hkrr (bw.one hnd)) ?_;rintro _ h9 ⟨rfl,hk9,hx9,hz9⟩;refine aa ?_;have hk9:az h9 h.size 318 (cP x.kind x.set w):=hk9;refine fG (fT rfl hk9.row fF) ?_;exact⟨x,m,hat,⟨w,rfl,bw.low hnd (Nat.le_succ _) hx9 (fun b _ (hb:b=h.size)=>by omega)⟩,az.ext hst hx9 (by show ¬_=_;omega),iO.only hee hx9 (Nat.le_refl _)⟩
 refine aQ (fun c1=>?_) (fun c1=>?_)
 · have c1:c=40:=(cv rfl).1 c1;subst c1;refine aa ?_;refine xo rfl (uu rfl (ih h4 rb r hg4 hrb hs4 (by omega) (by omega)) ((fun _ _ ⟨hc,hp,hx⟩=>cS hc (by unfold eC;simp[hp]) (e4.trans hx)))) ?_;rintro _ h5 ⟨x,r5,hp5,⟨w,rfl,hnd5⟩,hs5,hx5⟩;have hk5:=hk4.ext hx5 (by show ¬_=_;omega);have hkr5:=hkr4.ext hx5 (by show ¬_=_;omega);have hr5:=ju d hp5;refine aY rfl (bM rfl rfl hk5 (bw.one hnd5)) ?_;rintro _ h6 ⟨rfl,hk6,hx6,hz6⟩;refine aa ?_;have hk6:az h6 h1.size 318 (cP x.kind x.set w):=hk6;have hs6:St h6 rb r5:=az.ext hs5 hx6 (by show ¬_=_;omega);have hnd6:bw h6 (D6 (h.size+1)) (cP x.kind x.set w) x:=bw.low hnd5 (by omega) hx6 (fun b _ (hb:b=h1.size)=>by omega);have e6:=iO.only (e4.trans hx5) hx6 (by omega);refine xo rfl (uu rfl (sx 41 hs6 (by omega)) ((fun _ _ ⟨hc,hp,hx⟩=>cS hc (by unfold eC;simp only[if_true,hp5];split;rename_i t ht;cases ht;simp at hp;rfl) (e6.trans hx)))) ?_;rintro _ h7 ⟨_,r7,hp7,_,hs7,hx7⟩;refine bJ ?_;refine aI ?_
   have hcl:r5=41::r7:=by
    split at hp7
    · rename_i hh;cases hp7;cases r5 with|nil=>cases hh|cons a b=>simp at hh;subst hh;rfl
    · cases hp7
   subst hcl;exact fin x w r7 _ _ (by exact sb rfl) (hk6.ext hx7 (by show ¬_=_;omega)) ((hkr5.ext hx6 (by show ¬_=_;omega)).ext hx7 (by show ¬_=_;omega)) hs7 (bw.low hnd6 (Nat.le_refl _) hx7 (fun b _ (hb:b=rb)=>by omega)) (e6.trans hx7) (by unfold eC;simp[hp5])
 · have c1:¬c=40:=fun e=>c1 ((cv rfl).2 e)
   refine aa ?_;refine aQ (fun c2=>?_) (fun c2=>?_)
   · have c2:c=91:=(cv rfl).1 c2;refine aa ?_;refine xo rfl (uu rfl (vj hs4 (by omega)) ((fun _ _ ⟨hc,hp,hx⟩=>cS hc (by unfold eC;simp[c2,hp]) (e4.trans hx)))) ?_;rintro _ h5 ⟨x,r5,hp5,⟨w,rfl,hnd5⟩,hs5,hx5⟩;have hk5:=hk4.ext hx5 (by show ¬_=_;omega);have hkr5:=hkr4.ext hx5 (by show ¬_=_;omega);refine aY rfl (bM rfl rfl hk5 (bw.one hnd5)) ?_;rintro _ h6 ⟨rfl,hk6,hx6,hz6⟩;refine bJ ?_;refine aI ?_;have hk6:az h6 h1.size 318 (cP x.kind x.set w):=hk6;exact fin x w r5 _ _ (by exact sb rfl) hk6 (hkr5.ext hx6 (by show ¬_=_;omega)) (az.ext hs5 hx6 (by show ¬_=_;omega)) (bw.low hnd5 (by omega) hx6 (fun b _ (hb:b=h1.size)=>by omega)) (iO.only (e4.trans hx5) hx6 (by omega)) (by unfold eC;simp[c2,hp5])
   · have c2:¬c=91:=fun e=>c2 ((cv rfl).2 e)
     refine aa ?_;refine aQ (fun c3=>?_) (fun c3=>?_)
     · have c3:c=46:=(cv rfl).1 c3;refine aa ?_;refine xo rfl (aG rfl (fX hk4 0 9)) ?_;rintro _ h5 ⟨hk5,hx5⟩;refine aa ?_;refine xo rfl (aG rfl (fX hk5 11 255)) ?_;rintro _ h6 ⟨hk6,hx6⟩;refine bJ ?_;refine aI ?_;have hx56:=hx5.trans hx6;exact fin Kp (.slice none 0 0) r _ _ (by exact sb rfl) hk6 (hkr4.ext hx56 (by show ¬_=_;omega)) (az.ext hs4 hx56 (by show ¬_=_;omega)) (eI _ _ _ _) (iO.only e4 hx56 (by omega)) (by unfold eC;simp[c3])
     · have c3:¬c=46:=fun e=>c3 ((cv rfl).2 e)
       refine aa ?_;refine aQ (fun c4=>?_) (fun c4=>?_)
       · have c4:c=92:=(cv rfl).1 c4;refine aa ?_;refine xo rfl (uu rfl (mR hs4 (by omega)) ((fun _ _ ⟨hc,hp,hx⟩=>cS hc (by unfold eC;simp[c4,hp]) (e4.trans hx)))) ?_;rintro _ h5 ⟨b,r5,hp5,rfl,hs5,hx5⟩;have hk5:=hk4.ext hx5 (by show ¬_=_;omega);have hkr5:=hkr4.ext hx5 (by show ¬_=_;omega);refine aa ?_;refine xo rfl (aG rfl (fX hk5 b b)) ?_;rintro _ h6 ⟨hk6,hx6⟩;refine bJ ?_;refine aI ?_;exact fin (ze b) (.slice none 0 0) r5 _ _ (by exact sb rfl) hk6 (hkr5.ext hx6 (by show ¬_=_;omega)) (az.ext hs5 hx6 (by show ¬_=_;omega)) (eI _ _ _ _) (iO.only (e4.trans hx5) hx6 (by omega)) (by unfold eC;simp[c4,hp5])
       · have c4:¬c=92:=fun e=>c4 ((cv rfl).2 e)
         refine aa ?_;refine aQ (fun d41=>?_) (fun d41=>?_)
         · have d41:c=41:=(cv rfl).1 d41;refine aa ?_;refine fH rfl (by rw[d41];decide) ?_;refine aa ?_;refine xp rfl (au (H.gu ) rfl) ?_;refine aa ?_;refine aY rfl (cF (Φ:=fun _ _=>False) rfl (cS rfl (by unfold eC;simp[d41]) e4)) ?_;rintro _ _ hpn;exact hpn.elim
         · have d41:¬c=41:=fun e=>d41 ((cv rfl).2 e)
           refine aa ?_;refine aQ (fun d93=>?_) (fun d93=>?_)
           · have d93:c=93:=(cv rfl).1 d93;refine aa ?_;refine fH rfl (by rw[d93];decide) ?_;refine aa ?_;refine xp rfl (au (H.gu ) rfl) ?_;refine aa ?_;refine aY rfl (cF (Φ:=fun _ _=>False) rfl (cS rfl (by unfold eC;simp[d93]) e4)) ?_;rintro _ _ hpn;exact hpn.elim
           · have d93:¬c=93:=fun e=>d93 ((cv rfl).2 e)
             refine aa ?_;refine aQ (fun d124=>?_) (fun d124=>?_)
             · have d124:c=124:=(cv rfl).1 d124;refine aa ?_;refine fH rfl (by rw[d124];decide) ?_;refine aa ?_;refine xp rfl (au (H.gu ) rfl) ?_;refine aa ?_;refine aY rfl (cF (Φ:=fun _ _=>False) rfl (cS rfl (by unfold eC;simp[d124]) e4)) ?_;rintro _ _ hpn;exact hpn.elim
             · have d124:¬c=124:=fun e=>d124 ((cv rfl).2 e)
               refine aa ?_;refine aQ (fun d42=>?_) (fun d42=>?_)
               · have d42:c=42:=(cv rfl).1 d42;refine aa ?_;refine fH rfl (by rw[d42];decide) ?_;refine aa ?_;refine xp rfl (au (H.gu ) rfl) ?_;refine aa ?_;refine aY rfl (cF (Φ:=fun _ _=>False) rfl (cS rfl (by unfold eC;simp[d42]) e4)) ?_;rintro _ _ hpn;exact hpn.elim
               · have d42:¬c=42:=fun e=>d42 ((cv rfl).2 e)
                 refine aa ?_;refine aQ (fun d43=>?_) (fun d43=>?_)
                 · have d43:c=43:=(cv rfl).1 d43;refine aa ?_;refine fH rfl (by rw[d43];decide) ?_;refine aa ?_;refine xp rfl (au (H.gu ) rfl) ?_;refine aa ?_;refine aY rfl (cF (Φ:=fun _ _=>False) rfl (cS rfl (by unfold eC;simp[d43]) e4)) ?_;rintro _ _ hpn;exact hpn.elim
                 · have d43:¬c=43:=fun e=>d43 ((cv rfl).2 e)
                   refine aa ?_;refine aQ (fun d63=>?_) (fun d63=>?_)
                   · have d63:c=63:=(cv rfl).1 d63;refine aa ?_;refine xp rfl (au (H.gu ) rfl) ?_;refine aa ?_;refine aY rfl (cF (Φ:=fun _ _=>False) rfl (cS rfl (by unfold eC;simp[d63]) e4)) ?_;rintro _ _ hpn;exact hpn.elim
                   · have d63:¬c=63:=fun e=>d63 ((cv rfl).2 e)
                     refine aa ?_;refine xo rfl (aG rfl (fX hk4 c c)) ?_;rintro _ h6 ⟨hk6,hx6⟩;refine bJ ?_;refine aI ?_;exact fin (ze c) (.slice none 0 0) r _ _ (by exact sb rfl) hk6 (hkr4.ext hx6 (by show ¬_=_;omega)) (az.ext hs4 hx6 (by show ¬_=_;omega)) (eI _ _ _ _) (iO.only e4 hx6 (by omega)) (by unfold eC;simp[c1,c2,c3,c4,d41,d93,d124,d42,d43,d63])
theorem xe {ρ:Env}{dst:Option Nat}{ty:TypeId}{pos:String}{after:Array Edge}{guard:Option (Nat×Bool)}{x y:Operand}{l:List (Int×Int)}
 (hx:aT ρ x=some (.map (some m))) (hy:aT ρ y=some (.int .u8 (c.toNat:Nat))) (hm:eJ (Value.int .u8) (Value.int .i64) h m l) (hv:∀c:UInt8,((jG (c.toNat:Int) l).map (Value.int .i64)).getD (Value.int .i64 0)=Value.int .i64 (cG c:Nat)) :
 an Tryz.prog ⟨dst,.lookup 450 x y false,ty,pos,after,guard⟩ ρ h (.int .i64 (cG c:Nat)):=by
 have:=an.lookup (P:=Tryz.prog) (ρ:=ρ) (h:=h) (dst:=dst) (ty:=ty) (pos:=pos) (after:=after) (guard:=guard) (iK.int .u8) underlying450 underlying5 (z:=.int .i64 0) (et:=3) (by kernel_rfl) hx hy rfl hm
 rwa [hv c] at this
theorem Ae (h:0<cG c):dR x (c::r)=dR (.mk (cG c) 0 [x]) r:=by
 rw[dR,if_neg (by omega)]
theorem Ad {m:By}(h:cG (m.head?.getD 0)=0):dR x m=(x,m):=by
 cases m with
 |nil=>rfl
 |cons c r=>rw[dR,if_pos (by simpa using h)]
theorem Aw (ih:uj d lim) (hg:Sg h lim) (hrb:lim<=rb) (hs:St h rb l) (hd:l.length<=d) (hl:l.length<=1000000):aj Tryz.prog 332 #[BQ rb] h (PR rb h (fm (cW d) l) (Dl h.size)):=by
 have hlt:=hs.lt;refine bf ?_;refine aa ?_;refine xo rfl (cC) ?_;rintro _ h1 ⟨rfl,hkr,he1,hz1⟩;refine aa ?_;refine xo rfl (uu rfl (De ih (hg.ext he1 (fun _ k=>k.elim)) hrb (az.af hs he1) hd hl) ((fun _ _ ⟨hc,hp,hx⟩=>cS hc (by unfold fm;rw[hp];rfl) ((ah.of he1).trans hx)))) ?_;rintro _ h2 ⟨x0,m0,hp0,⟨w0,rfl,hnd2⟩,hs2,hx2⟩;refine xo rfl (cC) ?_;rintro _ h3 ⟨rfl,hk3,he3,hz3⟩;refine aY rfl (bM rfl rfl hk3 (bw.one hnd2)) ?_;rintro _ h4 ⟨rfl,hk4,hx4,hz4⟩;have hz2:=hx2.size;have hkr:az h1 h.size 318 (cP 0 0 (.slice none 0 0)):=hkr;have hk4:az h4 h2.size 318 (cP x0.kind x0.set w0):=hk4;have e2:Ext (only rb) h h2:=(ah.of he1).trans hx2;have hkr2:=hkr.ext hx2 (by show ¬_=_;omega);have e24:ah h2 h4:=ah.only he3 hx4 (Nat.le_refl _);have hnd4:bw h4 (fun b=>b<h.size+1\/b=h2.size) (cP x0.kind x0.set w0) x0:=hnd2.mv (Mv.dI e24 fun b hb hn=>⟨fun k=>k,fun k=>by have:¬b<h1.size:=hn;omega⟩);have hm0:=wA (fun h=>ju d h) hp0;have hpc:fm (cW d) l=some (dR x0 m0):=by unfold fm;rw[hp0];rfl
 generalize htg:dR x0 m0=tgt at hpc;generalize hnb:h2.size=nb at hk4 hnd4 hs2;have hnb1:h.size+1<=nb:=by omega
 refine aa ?_;refine zB (σ:=Nd×Value×By) (fun q=>[(0,BQ rb),(2,.pointer (some ⟨h.size,0,none⟩)),(3,.pointer (some ⟨nb,0,none⟩))]) (fun q h'=>St h' rb q.2.2/\az h' nb 318 (cP q.1.kind q.1.set q.2.1)/\az h' h.size 318 (cP 0 0 (.slice none 0 0))/\Ext (only rb) h h'/\bw h' (fun b=>b<h.size+1\/b=nb) (cP q.1.kind q.1.set q.2.1) q.1/\q.2.2.length<=1000000/\dR q.1 q.2.2=tgt) (fun q=>q.2.2.length) ((x0,w0,m0)) ⟨az.af hs2 e24,hk4,hkr2.af e24,iO.af e2 e24,hnd4,by show m0.length<=_;omega,htg⟩ ?_;rintro⟨x,w,m⟩ h5 ⟨hs5,hk5,hkr5,e5,hnd5,hm,hsg⟩ ih
 try dsimp only
 dsimp only at hs5 hk5 hnd5 hm hsg;have hg5:Sg h5 lim:=hg.ext e5 (fun b (hb:b=rb)=>by omega);obtain⟨mp,hm1,hm2,hcell,lm,hmap,hval⟩:=hg5;refine aa ?_;refine PI ?_;refine bP rfl (aA rfl hcell) ?_;refine aa ?_;refine PX (so hs5) ?_;refine bP rfl (xe rfl rfl hmap hval) ?_;refine aa ?_;refine aQ (fun hgo=>?_) (fun hgo=>?_)
 · have hgo:0<cG (m.head?.getD 0):=by omega
   obtain⟨c,r,rfl⟩:=List.exists_cons_of_ne_nil (fun(e:m=[])=>by rw[e] at hgo;revert hgo;decide);have hgo:0<cG c:=hgo;rw[Ae hgo] at hsg;simp only[List.length_cons] at hm;have hlt5:=hk5.lt;have hltr:=hkr5.lt
   have hn1:¬((⟨14,0,none⟩:Addr).block=rb\/Array.size h5<=(⟨14,0,none⟩:Addr).block):=by
    show ¬(14=rb\/Array.size h5<=14);omega
   have hn2:¬(nb=rb\/Array.size h5<=nb):=by omega
   have hn3:¬(mp=rb\/Array.size h5<=mp):=by omega
   have hO5:¬(h5.size<h.size+1\/h5.size=nb):=by have:=hkr5.lt;omega
   refine aa ?_;refine uq 8 (fun b=>b=rb\/Array.size h5<=b) (fun i=>Nat.blt i 7) ?_;refine aS 0 rfl (fun h' e=>aA rfl (e.cell hn1 hcell)) ?_;refine ax 1 ?_;refine aS 4 rfl (fun h' e=>bI rfl (e.rowAt hn2 hk5.row)) ?_;refine LB 2 5 rfl rfl (uu rfl (fc hs5 (by simp only[List.length_cons];omega)) ((fun _ _ ⟨_,hp,_⟩=>by cases hp))) (mz) ?_ ?_
   · rintro _ h6 ⟨_,_,hp6,rfl,hs6,hx6⟩;refine⟨fun _=>hx6.mono (fun _ _ k=>.inl k),?_⟩;cases hp6;have hmap6:=hmap.ext hx6 (by show ¬_=_;omega);have hz6:=hx6.size;have hk6:=hk5.ext hx6 (by show ¬_=_;omega);have hnd6:bw h6 (fun b=>b<h.size+1\/b=nb) (cP x.kind x.set w) x:=hnd5.mv (Mv.dI hx6 fun b hb hn=>⟨fun(k:b=rb)=>hn (.inl (by omega)),hn⟩);refine aS 3 rfl (fun h' e=>xe rfl rfl (hmap6.ext e hn3) hval) ?_;refine ct 5 rfl (mz) ?_;rintro _ _ ⟨rfl,rfl⟩;refine⟨fun _=>by first|exact Ext.push _ _ _|assumption,?_⟩;refine aS 6 rfl (fun h' e=>au (H.pz _ _ _ _) rfl) ?_;have hsl:=aR.mM (e:=qj) (t:=318) hnd6 (show ¬(h6.size<h.size+1\/h6.size=nb) by omega);have ep:=Ext.push (fun _=>False) h6 (.cells (cP x.kind x.set w).toArray 318);have hk7:=hk6.af ep;have hs7:St _ rb r:=az.af hs6 ep;have hkr7:=(hkr5.ext hx6 (by show ¬_=_;omega)).af ep;have e7:=iO.af (e5.trans hx6) ep;refine eK 7 rfl (bM rfl rfl hk7 (bw.one (bw.of (cG c) 0 hsl))) ?_;rintro _ h8 ⟨rfl,hk8,hx8,hz8⟩;refine⟨nofun,?_⟩;refine dP ?_;refine aa ?_;have hk8:az h8 nb 318 (cP (cG c) 0 (.slice (some ⟨h6.size,0,none⟩) 1 1)):=hk8;exact ih (.mk (cG c) 0 [x],.slice (some ⟨h6.size,0,none⟩) 1 1,r) ⟨az.ext hs7 hx8 (by show ¬_=_;omega),hk8,hkr7.ext hx8 (by show ¬_=_;omega),iO.only e7 hx8 (by omega),(bw.of (cG c) 0 hsl).mv (Mv.dI hx8 fun b hb hn=>⟨fun(k:b=nb)=>hn (.inr k),hn⟩),by show r.length<=_;omega,hsg⟩ (by show r.length<(c::r).length;simp)
   · rintro _ _ ⟨rfl,rfl⟩;refine⟨fun _=>by first|exact Ext.push _ _ _|assumption,?_⟩;have hsl:=aR.mM (e:=qj) (t:=318) hnd5 hO5;have ep:=Ext.push (fun _=>False) h5 (.cells (cP x.kind x.set w).toArray 318);refine ct 2 rfl (uu rfl (fc (az.af hs5 ep) (by simp only[List.length_cons];omega)) ((fun _ _ ⟨_,hp,_⟩=>by cases hp))) ?_;rintro _ h6 ⟨_,_,hp6,rfl,hs6,hx6⟩;refine⟨fun _=>hx6.mono (fun _ _ k=>.inl k),?_⟩;cases hp6;have hmap6:=(hmap.ext ep (fun k=>k)).ext hx6 (by show ¬_=_;omega);have hz6:=hx6.size;have hzp:(h5.push (.cells (cP x.kind x.set w).toArray 318)).size=h5.size+1:=by simp
     have hk6:=(hk5.af ep).ext hx6 (by show ¬_=_;omega);have hkr6:=(hkr5.af ep).ext hx6 (by show ¬_=_;omega);have hn4:¬(mp=rb\/Array.size h5<=mp):=hn3;refine aS 3 rfl (fun h' e=>xe rfl rfl (hmap6.ext e hn4) hval) ?_;refine aS 6 rfl (fun h' e=>au (H.pz _ _ _ _) rfl) ?_;have hsl6:aR qj h6 (fun b=>b<h.size+1\/b=nb) (.slice (some ⟨h5.size,0,none⟩) 1 1) [x]:=hsl.mv (Mv.dI hx6 fun b hb hn=>⟨fun(k:b=rb)=>hn (.inl (by omega)),hn⟩);refine eK 7 rfl (bM rfl rfl hk6 (bw.one (bw.of (cG c) 0 hsl6))) ?_;rintro _ h8 ⟨rfl,hk8,hx8,hz8⟩;refine⟨nofun,?_⟩;refine dP ?_;refine aa ?_;have hk8:az h8 nb 318 (cP (cG c) 0 (.slice (some ⟨h5.size,0,none⟩) 1 1)):=hk8;exact ih (.mk (cG c) 0 [x],.slice (some ⟨h5.size,0,none⟩) 1 1,r) ⟨az.ext hs6 hx8 (by show ¬_=_;omega),hk8,hkr6.ext hx8 (by show ¬_=_;omega),iO.only ((iO.af e5 ep).trans hx6) hx8 (by omega),(bw.of (cG c) 0 hsl6).mv (Mv.dI hx8 fun b hb hn=>⟨fun(k:b=nb)=>hn (.inr k),hn⟩),by show r.length<=_;omega,hsg⟩ (by show r.length<(c::r).length;simp)
 · rw[Ad (by omega)] at hsg;refine aa ?_;refine xp rfl (bI rfl hk5.row) ?_;refine aY rfl (bM rfl rfl hkr5 (bw.one hnd5)) ?_;rintro _ h6 ⟨rfl,hk6,hx6,hz6⟩;refine aa ?_;have hk6:az h6 h.size 318 (cP x.kind x.set w):=hk6;refine fG (fT rfl hk6.row fF) ?_;exact⟨x,m,by rw[hpc,<-hsg],⟨w,rfl,hnd5.mv (Mv.dI hx6 fun b hb hn=>⟨fun(k:b=h.size)=>hn (.inl (by omega)),fun(k:b<h.size)=>hn (.inl (by omega))⟩)⟩,az.ext hs5 hx6 (by show ¬_=_;omega),iO.only e5 hx6 (Nat.le_refl _)⟩
theorem vN (ih:uj d lim) (hg:Sg h lim) (hrb:lim<=rb) (hs:St h rb l) (hd:l.length<=d) (hl:l.length<=1000000):aj Tryz.prog 300 #[BQ rb] h (PR rb h (xF (cW d) l) (Dl h.size)):=by
 have hlt:=hs.lt;have hrl:∀{s x r},cW d s=some (x,r)->r.length<=s.length:=fun h=>ju d h
 refine bf ?_;refine aa ?_;refine xo rfl (cC) ?_;rintro _ h1 ⟨rfl,hkr,he1,hz1⟩;refine aa ?_;have hkr:az h1 h.size 318 (cP 0 0 (.slice none 0 0)):=hkr;generalize htg:lG (cW d) (l.length+1) l=tgt;have hrow:xF (cW d) l=tgt.map fun p=>(bG 2 p.1,p.2):=by unfold xF;rw[htg]
 have htg0:tgt.map (fun p=>(([]:List Nd)++p.1,p.2))=tgt:=by cases tgt<;>rfl
 refine eR (σ:=List Nd×Value×By) (fun q=>[(3,q.2.1)]) (fun q h'=>St h' rb q.2.2/\eY qj (D6 h1.size) h' h1.size 318 q.2.1 q.1/\az h' h.size 318 (cP 0 0 (.slice none 0 0))/\Ext (only rb) h h'/\q.2.2.length+q.1.length<=l.length/\(lG (cW d) (q.2.2.length+1) q.2.2).map (fun p=>(q.1++p.1,p.2))=tgt) (fun q=>q.2.2.length) (([],.slice none 0 0,l)) ⟨az.af hs he1,eY.nil _ _ _ _ _,hkr,ah.of he1,by show l.length+0<=_;omega,by rw[htg];exact htg0⟩ rfl ?_;rintro⟨acc,v,m⟩ h5 ⟨hs5,hv5,hkr5,e5,hm,hcon⟩ ih'
 try dsimp only
 dsimp only at hs5 hv5 hm hcon
 iterate 2 refine aI ?_
 refine dM [(24,.bool (!iZ m))] rfl ?_ ?_
 · refine aa ?_;refine xp rfl (aA rfl hs5.cell) ?_;refine aa ?_;refine dx 9 (fun he=>?_) (fun he=>?_)
   · have hne:¬bs m=⟨#[]⟩:=of_decide_eq_true he;obtain⟨c,r,rfl⟩:=List.exists_cons_of_ne_nil (fun(e:m=[])=>hne (by rw[e];rfl));refine aa ?_;refine xp rfl (aA rfl hs5.cell) ?_;refine xp rfl (oK rfl rfl 0 rfl (cQ rfl)) ?_;refine aa ?_;refine dx 17 (fun h124=>?_) (fun h124=>?_)
     · have h124:¬c=124:=fun e=>(of_decide_eq_true h124) ((cv rfl).2 e)
       refine aa ?_;refine xp rfl (aA rfl hs5.cell) ?_;refine xp rfl (oK rfl rfl 0 rfl (cQ rfl)) ?_;refine aa ?_;exact aL rfl ⟨ak rfl (by simp only[iZ];rw[show (c ==124)=false by simpa using h124,Bool.false_or,show (c ==41)=decide (c=41) by rw[Bool.eq_iff_iff];simp,<-decide_not];exact decide_eq_decide.2 (not_congr (cv rfl))),sb rfl⟩
     · have h124:c=124:=(cv rfl).1 (Classical.not_not.1 (of_decide_eq_false h124));refine aa ?_;exact aL rfl ⟨ak rfl (by simp[iZ,h124]),sb rfl⟩
   · have hne:bs m=⟨#[]⟩:=Classical.not_not.1 (of_decide_eq_false he);obtain rfl:m=[]:=jg hne;refine aa ?_;exact aL rfl ⟨ak rfl (by rfl),sb rfl⟩
 · obtain⟨css,hc1,hc2,hc3⟩:=id hv5;have hlt5:=hkr5.lt;have hz5:=e5.size;refine oL (fun hgo=>?_) (fun hgo=>?_)
   · have hend:iZ m=false:=by simpa using hgo
     have hcon':tgt=(match fm (cW d) m with|none=>none|some (x,r)=>((lG (cW d) (r.length+1) r).map fun p=>(x::p.1,p.2)).map (fun p=>(acc++p.1,p.2))):=by
      rw[<-hcon,lG,if_neg (by rw[hend];decide)];cases hp:fm (cW d) m with
      |none=>rfl
      |some q =>
       obtain⟨x,r⟩:=q;have:=fk hrl hp;simp only;rw[vO hrl m.length (r.length+1) r (by omega) (by omega)]
     refine aa ?_;refine xo rfl (uu rfl (Aw ih (hg.ext e5 (fun b (hb:b=rb)=>by omega)) hrb hs5 (by omega) (by omega)) ((fun _ _ ⟨hc,hp,hx⟩=>cS hc (by rw[hrow,hcon',hp];rfl) (e5.trans hx)))) ?_;rintro _ h6 ⟨x,r,hp,⟨w,rfl,hnd6⟩,hs6,hx6⟩;have hr6:=fk hrl hp;have hz6:=hx6.size;have hown:∀b,v.ownBlock=some b->h1.size<=b/\b<h5.size:=fun b hb=>hc2.lt hb
     have hc26:=hc2.ext hx6 (fun b hb (k:b=rb)=>by have:=hown b hb;omega);have hc36:∀(i:Nat) (cs:List Value) (x:Nd),css[i]? =some cs->acc[i]? =some x->qj.R h6 (fun b=>b8 v.ownBlock b\/b<h1.size) cs x:=fun i cs x h1' h2'=>qj.mv (hc3 i cs x h1' h2') (Mv.dI hx6 fun b hb hn=>⟨fun(k:b=rb)=>hn (.inr (by show b<_;omega)),hn⟩)
     have hnd6':qj.R h6 (fun b=>b8 v.ownBlock b\/b<h1.size) (cP x.kind x.set w) x:=bw.mv hnd6 ⟨Nat.le_refl _,fun b hb hn=>⟨rfl,fun k=>by
      have hn:¬b<h5.size:=hn
      rcases k with k|k
      · have:=hown b k.symm;omega
      · omega⟩⟩
     refine xo rfl (mz) ?_;rintro _ _ ⟨rfl,rfl⟩;refine xo rfl (aH.dO underlying316 H.Hq rfl rfl (hc26) rfl rfl (bw.one hnd6) (by omega) (by decide) (by omega)) ?_;rintro v7 h7 ⟨ho7,hx7,-,hv7⟩;refine aa ?_;have hrb7:¬b8 v.ownBlock rb:=fun k=>by have:=hown rb k.symm;omega
     have hr7:¬b8 v.ownBlock h.size:=fun k=>by have:=hown _ k.symm;omega
     have e7:Ext (only rb) h h7:=⟨by have:=hx7.size;omega,fun b hb hn=>by rw[hx7.block b (by omega) (fun k=>by have:=hown b k.symm;omega)];exact(e5.trans hx6).block b hb hn⟩
     rw[hp] at hcon';exact ih' (acc++[x],v7,r) ⟨az.ext hs6 hx7 hrb7,eY.mZ hc1 hc36 ho7 hx7 hv7 hnd6',(hkr5.ext hx6 (by show ¬_=_;omega)).ext hx7 hr7,e7,by show r.length+(acc++[x]).length<=_;rw[List.length_append,List.length_singleton];omega,by rw[hcon'];simp only[Option.map_map];congr 1;funext p;simp⟩
   · have hend:iZ m=true:=by simpa using hgo
     rw[lG,if_pos hend] at hcon;have hsl:aR qj h5 (D6 h1.size) v acc:=hv5.read (fun b hb (k:b<h1.size)=>by omega) (fun b _ k=>k);refine aa ?_;refine xo rfl (aG rfl (og 2 hsl)) ?_;rintro _ h6 ⟨⟨w,rfl,hnd6⟩,he6⟩;refine aY rfl (bM rfl rfl ((hkr5.af he6)) (bw.one hnd6)) ?_;rintro _ h7 ⟨rfl,hk7,hx7,hz7⟩;refine aa ?_;have hk7:az h7 h.size 318 (cP (bG 2 acc).kind (bG 2 acc).set w):=hk7;have hz6:=he6.size;refine fG (fT rfl hk7.row fF) ?_;exact⟨bG 2 acc,m,by rw[hrow,<-hcon];simp,⟨w,rfl,bw.low hnd6 (by omega) hx7 (fun b _ (hb:b=h.size)=>by omega)⟩,az.ext (az.af hs5 he6) hx7 (by show ¬_=_;omega),iO.only (iO.af e5 he6) hx7 (Nat.le_refl _)⟩
theorem ED (ih:uj d lim) (hg:Sg h lim) (hrb:lim<=rb) (hs:St h rb l) (hd:l.length<=d) (hl:l.length<=1000000):aj Tryz.prog 267 #[BQ rb] h (PR rb h (cW (d+1) l) (Dl h.size)):=by
 have hlt:=hs.lt;have hrl:∀{s x r},cW d s=some (x,r)->r.length<=s.length:=fun h=>ju d h
 have hrows:cW (d+1) l=match xF (cW d) l with|none=>none|some (x,r)=>qp (cW d) [x] r:=rS hrl [] l
 refine bf ?_;refine aa ?_;refine xo rfl (cC) ?_;rintro _ h1 ⟨rfl,hkr,he1,hz1⟩;refine aa ?_;refine xo rfl (uu rfl (vN ih (hg.ext he1 (fun _ k=>k.elim)) hrb (az.af hs he1) hd hl) ((fun _ _ ⟨hc,hp,hx⟩=>cS hc (by rw[hrows,hp]) ((ah.of he1).trans hx)))) ?_;rintro _ h2 ⟨x0,m0,hp0,⟨w0,rfl,hnd2⟩,hs2,hx2⟩;have hkr:az h1 h.size 318 (cP 0 0 (.slice none 0 0)):=hkr;have hz2:=hx2.size;have hm0:=Al hrl hp0;have ep:=Ext.push (fun _=>False) h2 (.cells (cP x0.kind x0.set w0).toArray 318);have hv0:eY qj (D6 h1.size) (h2.push (.cells (cP x0.kind x0.set w0).toArray 318)) h1.size 318 (.slice (some ⟨h2.size,0,none⟩) 1 1) [x0]:=eY.mM (e:=qj) hnd2 hz2;have hs3:St _ rb m0:=az.af hs2 ep;have hkr3:=(hkr.ext hx2 (by show ¬_=_;omega)).af ep;have e3:=iO.af ((ah.of he1).trans hx2) ep;rw[hp0] at hrows;simp only at hrows;generalize htg:qp (cW d) [x0] m0=tgt at hrows;refine xo rfl (mz) ?_;rintro _ _ ⟨rfl,rfl⟩;refine aa ?_;refine zB (σ:=List Nd×Value×By) (fun q=>[(0,BQ rb),(2,.pointer (some ⟨h.size,0,none⟩)),(3,q.2.1)]) (fun q h'=>St h' rb q.2.2/\eY qj (D6 h1.size) h' h1.size 318 q.2.1 q.1/\az h' h.size 318 (cP 0 0 (.slice none 0 0))/\Ext (only rb) h h'/\(q.2.2.length<=l.length/\q.2.2.length+q.1.length<=l.length+1)/\qp (cW d) q.1 q.2.2=tgt) (fun q=>q.2.2.length) (([x0],.slice (some ⟨h2.size,0,none⟩) 1 1,m0)) ⟨hs3,hv0,hkr3,e3,⟨by show m0.length<=_;omega,by show m0.length+1<=_;omega⟩,htg⟩ ?_;rintro⟨acc,v,m⟩ h5 ⟨hs5,hv5,hkr5,e5,⟨hml,hm⟩,hcon⟩ ih'
 try dsimp only
 dsimp only at hs5 hv5 hml hm hcon;refine aa ?_;refine xo rfl (aG rfl (jO 124 hs5 (by omega))) ?_;rintro _ h6 ⟨hor,hx6⟩;refine aa ?_;have hlt5:=hkr5.lt;have hz5:=e5.size;have hz6:=hx6.size;have hkr6:=hkr5.ext hx6 (by show ¬_=_;omega);have e6:=e5.trans hx6;have hv6:eY qj (D6 h1.size) h6 h1.size 318 v acc:=hv5.mv (hx6.mono fun b _ (k:b=rb)=>(by omega:b<h1.size)) (fun b hb (k:b<h1.size)=>by omega) (fun b _ k=>k);obtain⟨css,hc1,hc2,hc3⟩:=id hv6
 rcases hor with ⟨a1,rfl,hs6⟩|⟨a1,rfl,hs6⟩
 · obtain⟨c,t,rfl⟩:=List.exists_cons_of_ne_nil (fun(e:m=[])=>by rw[e] at a1;cases a1);have hs6:St h6 rb t:=hs6;simp only[List.length_cons] at hm hml
   have hcon':tgt=match xF (cW d) t with|none=>none|some (x,r)=>qp (cW d) (acc++[x]) r:=by
    have hG:=rS (rows:=cW d) hrl acc t;rw[<-hcon];refine Eq.trans ?_ hG;unfold qp;rw[if_pos a1];rfl
   refine fH rfl (by decide) ?_;refine aa ?_;refine xo rfl (uu rfl (vN ih (hg.ext e6 (fun b (hb:b=rb)=>by omega)) hrb hs6 (by omega) (by omega)) ((fun _ _ ⟨hc,hp,hx⟩=>cS hc (by rw[hrows,hcon',hp]) (e6.trans hx)))) ?_;rintro _ h7 ⟨x,r,hp,⟨w,rfl,hnd7⟩,hs7,hx7⟩;have hr7:=Al hrl hp;have hz7:=hx7.size;have hown:∀b,v.ownBlock=some b->h1.size<=b/\b<h6.size:=fun b hb=>hc2.lt hb
   have hc27:=hc2.ext hx7 (fun b hb (k:b=rb)=>by have:=hown b hb;omega);have hc37:∀(i:Nat) (cs:List Value) (x:Nd),css[i]? =some cs->acc[i]? =some x->qj.R h7 (fun b=>b8 v.ownBlock b\/b<h1.size) cs x:=fun i cs x h1' h2'=>qj.mv (hc3 i cs x h1' h2') (Mv.dI hx7 fun b hb hn=>⟨fun(k:b=rb)=>hn (.inr (by show b<_;omega)),hn⟩)
   have hnd7':qj.R h7 (fun b=>b8 v.ownBlock b\/b<h1.size) (cP x.kind x.set w) x:=bw.mv hnd7 ⟨Nat.le_refl _,fun b hb hn=>⟨rfl,fun k=>by
    have hn:¬b<h6.size:=hn
    rcases k with k|k
    · have:=hown b k.symm;omega
    · omega⟩⟩
   refine xo rfl (mz) ?_;rintro _ _ ⟨rfl,rfl⟩;refine xo rfl (aH.dO underlying316 H.Hq rfl rfl (hc27) rfl rfl (bw.one hnd7) (by omega) (by decide) (by omega)) ?_;rintro v8 h8 ⟨ho8,hx8,-,hv8⟩;refine aa ?_;have hrb8:¬b8 v.ownBlock rb:=fun k=>by have:=hown rb k.symm;omega
   have hr8:¬b8 v.ownBlock h.size:=fun k=>by have:=hown _ k.symm;omega
   have e8:Ext (only rb) h h8:=⟨by have:=hx8.size;omega,fun b hb hn=>by rw[hx8.block b (by omega) (fun k=>by have:=hown b k.symm;omega)];exact(e6.trans hx7).block b hb hn⟩
   rw[hp] at hcon';exact ih' (acc++[x],v8,r) ⟨az.ext hs7 hx8 hrb8,eY.mZ hc1 hc37 ho8 hx8 hv8 hnd7',(hkr6.ext hx7 (by show ¬_=_;omega)).ext hx8 hr8,e8,⟨by show r.length<=_;omega,by show r.length+(acc++[x]).length<=_;rw[List.length_append,List.length_singleton];omega⟩,hcon'.symm⟩ (by show r.length<(c::t).length;simp only[List.length_cons];omega)
 · refine bV rfl (by decide) ?_;have hsl:aR qj h6 (D6 h1.size) v acc:=hv6.read (fun b hb (k:b<h1.size)=>by omega) (fun b _ k=>k);have hfin:tgt=some (bG 3 acc,m):=by rw[<-hcon];unfold qp;rw[if_neg a1]
   refine aa ?_;refine xo rfl (aG rfl (og 3 hsl)) ?_;rintro _ h7 ⟨⟨w,rfl,hnd7⟩,he7⟩;refine aY rfl (bM rfl rfl ((hkr6.af he7)) (bw.one hnd7)) ?_;rintro _ h8 ⟨rfl,hk8,hx8,hz8⟩;refine aa ?_;have hk8:az h8 h.size 318 (cP (bG 3 acc).kind (bG 3 acc).set w):=hk8;have hz7:=he7.size;refine fG (fT rfl hk8.row fF) ?_;exact⟨bG 3 acc,m,by rw[hrows,hfin],⟨w,rfl,bw.low hnd7 (by omega) hx8 (fun b _ (hb:b=h.size)=>by omega)⟩,az.ext (az.af hs6 he7) hx8 (by show ¬_=_;omega),iO.only (iO.af e6 he7) hx8 (Nat.le_refl _)⟩
theorem DF (lim:Nat):∀d,uj d lim
 | 0=>fun _ _ l _ _ _ h _=>absurd h (Nat.not_lt_zero _)
 |d+1=>fun _ _ _ hg hrb hs hd hl=>ED (DF lim d) hg hrb hs (by omega) hl
end
end Go.Proofs.YtckomlgchbkekaaGreatDoor
namespace Go.Proofs.YtckomlgchbkekaaGreatDoor
open Go.Proofs.Tryz
open Go Go.Lw Go.RowKit
set_option maxRecDepth 20000 set_option maxHeartbeats 4000000
section
variable {h:ai}{nb eb:Nat}
abbrev vC:List Value:=cP 0 0 (.slice none 0 0)
theorem C5 {cs:List Value}{v0:Value}(hcs:cs.length=6) (hk:az h nb 318 cs) (he:az h eb 31 [v0]) (hne:nb≠eb) (B w:World) (ha:At B h w) :
 CallsD Tryz.prog 266 #[.pointer (some ⟨nb,0,none⟩),.pointer (some ⟨eb,0,none⟩)] (.panicking [{ v:=si,recovered:=false }]) w fun e u' w' =>
  (∃r,e= .returned r)/\u'= .panicking [{ v:=si,recovered:=true }]/\∃h',At B h' w'/\az h' nb 318 vC/\az h' eb 31 [.int .i64 10]/\Ext (fun b=>b=nb\/b=eb) h h':=by
 refine lU (v:=si) (vs:=[.pointer (some ⟨nb,0,none⟩),.pointer (some ⟨eb,0,none⟩)]) (u':=.panicking [{ v:=si,recovered:=true }]) func266 rfl rfl rfl rfl rfl rfl rfl rfl rfl rfl (fun c₀ cs hu=>.inl (by simp[recoverD,hu])) (fun a hf=>?_);refine wp_seq (wp_region ?_);refine(show RW Tryz.prog Tryz.f266.ntmps _ 0 _ h (fun ρ' h'=>h'=h/\Sub [(5,.bool true),(2,si),(0,.pointer (some ⟨nb,0,none⟩)),(1,.pointer (some ⟨eb,0,none⟩))] ρ') (fun _ _=>False) from ?_) B a w hf ha _ ?_ (fun _ _ _ _ _ _ k=>k.elim)
 · refine RW.aB rfl rfl rfl rfl (aD rfl) ?_;refine RW.aB rfl rfl rfl rfl (an.AG underlying20 rfl (.inr ⟨_,_,rfl⟩)) ?_;exact eH rfl ⟨rfl,rfl,rfl,rfl,rfl,trivial⟩
 rintro ρ' h' a1 w1 hf1 ha1 ⟨rfl,hsub⟩;have hf1:=hf1.sub hsub;refine wp_cond_true (hf1.eval (x:=.tmp 5) rfl) ?_;refine wp_seq (wp_region ?_);refine(show RW Tryz.prog Tryz.f266.ntmps _ 0 _ h' (fun ρ' g=>g=h'/\Sub [(0,.pointer (some ⟨nb,0,none⟩)),(1,.pointer (some ⟨eb,0,none⟩))] ρ') (fun _ _=>False) from ?_) B a1 w1 hf1 ha1 _ ?_ (fun _ _ _ _ _ _ k=>k.elim)
 · refine RW.aB rfl rfl rfl rfl (aD rfl) ?_;refine RW.aB rfl rfl rfl rfl (an.uw underlying387 rfl) ?_;exact eH rfl ⟨rfl,rfl,rfl,trivial⟩
 rintro ρ'' h'' a2 w2 hf2 ha2 ⟨rfl,hsub2⟩;have hf2:=hf2.sub hsub2;refine wp_region ?_;refine(show RW Tryz.prog Tryz.f266.ntmps _ 0 _ h'' (fun _ g=>az g nb 318 vC/\az g eb 31 [.int .i64 10]/\Ext (fun b=>b=nb\/b=eb) h'' g) (fun _ _=>False) from ?_) B a2 w2 hf2 ha2 _ ?_ (fun _ _ _ _ _ _ k=>k.elim)
 · refine RW.aB rfl rfl rfl rfl (au (H.Dc ) rfl) ?_;refine RW.mL rfl rfl rfl (aH.bZ H.lz rfl rfl hk rfl (by rw[hcs];decide) (by first|decide|simp[Value.oneCell'])) ?_;rintro _ h3 ⟨rfl,hk3,hx3,hz3⟩
   have hk3:az h3 nb 318 vC:=by
    rw[GB (by rw[hcs];rfl)] at hk3;exact hk3
   refine RW.mL rfl rfl rfl (aH.br H.Ep rfl rfl (he.ext hx3 (fun e=>hne e.symm)) (by simp) rfl) ?_;rintro _ h4 ⟨rfl,hk4,hx4,hz4⟩;exact eH rfl ⟨hk3.ext hx4 (fun e=>hne e),hk4,(hx3.mono fun _ _ k=>.inl k).trans (hx4.mono fun _ _ k=>.inr k)⟩
 rintro _ h5 a5 w5 hf5 ha5 ⟨hq1,hq2,hq3⟩;exact⟨hf5.nd,_,eu hf5 ha5 .nil,⟨_,rfl⟩,rfl,h5,ha5,hq1,hq2,hq3⟩
theorem C6 (B w:World) (ha:At B h w) :
 CallsD Tryz.prog 266 #[.pointer (some ⟨nb,0,none⟩),.pointer (some ⟨eb,0,none⟩)] .returning w fun e u' w'=>(∃r,e= .returned r)/\u'= .returning/\At B h w':=by
 refine lU (v:=.nilIface) (vs:=[.pointer (some ⟨nb,0,none⟩),.pointer (some ⟨eb,0,none⟩)]) (u':=.returning) func266 rfl rfl rfl rfl rfl rfl rfl rfl rfl rfl (fun c₀ cs hu=>.inr ⟨by simp[recoverD,hu],rfl,rfl⟩) (fun a hf=>?_);refine wp_seq (wp_region ?_);refine(show RW Tryz.prog Tryz.f266.ntmps _ 0 _ h (fun ρ' h'=>h'=h/\Sub [(5,.bool false)] ρ') (fun _ _=>False) from ?_) B a w hf ha _ ?_ (fun _ _ _ _ _ _ k=>k.elim)
 · refine RW.aB rfl rfl rfl rfl (aD rfl) ?_;refine RW.aB rfl rfl rfl rfl (an.AG underlying20 rfl (.inl rfl)) ?_;exact eH rfl ⟨rfl,rfl,trivial⟩
 rintro ρ' h' a1 w1 hf1 ha1 ⟨rfl,hsub⟩;have hf1:=hf1.sub hsub;refine wp_cond_false (hf1.eval (x:=.tmp 5) rfl) (wp_skip ?_);exact⟨hf1.nd,_,eu hf1 ha1 .nil,⟨_,rfl⟩,rfl,ha1⟩
theorem sG {cs:List Value}{v0:Value}{ρ:Env}{R:Ending->ai->Prop}(h2:ρ.at 2=some (.pointer (some ⟨nb,0,none⟩))) (h3:ρ.at 3=some (.pointer (some ⟨eb,0,none⟩))) (hcs:cs.length=6) (hk:az h nb 318 cs) (he:az h eb 31 [v0]) (hne:nb≠eb)
 (hR:∀h',Ext (fun b=>b=nb\/b=eb) h h'->R (.returned (.tuple #[.agg vC.toArray,.int .i64 10])) h') :
 mm Tryz.prog f207 [{ target:=.fn (.func 266) #[.pointer (some ⟨nb,0,none⟩),.pointer (some ⟨eb,0,none⟩)],args:= #[] }] (.panicking [{ v:=si,recovered:=false }]) ρ h R:=by
 intro B a w hf ha;refine leaves_cons (f:=266) (args:= #[.pointer (some ⟨nb,0,none⟩),.pointer (some ⟨eb,0,none⟩)]) (by simp) (mI func266 rfl (by decide +kernel)) ?_;refine(C5 hcs hk he hne B w ha).mono ?_;rintro e u' w' ⟨⟨r,rfl⟩,rfl,h',ha',hk',he',hx'⟩;refine⟨_,eu hf.zero ha' (.cons (cX.KM H.wD H.lz h2 hk'.row rfl) (.cons (cX.cell H.Lr h3 (he'.cell (i:=0) rfl)) .nil)),h',ha',hR h' hx'⟩
theorem CC {x:Nd}{w0:Value}{e0:Int}{ρ:Env}{R:Ending->ai->Prop}(h2:ρ.at 2=some (.pointer (some ⟨nb,0,none⟩))) (h3:ρ.at 3=some (.pointer (some ⟨eb,0,none⟩))) (hk:az h nb 318 (cP x.kind x.set w0)) (he:az h eb 31 [.int .i64 e0])
 (hR:R (.returned (.tuple #[.agg (cP x.kind x.set w0).toArray,.int .i64 e0])) h) :
 mm Tryz.prog f207 [{ target:=.fn (.func 266) #[.pointer (some ⟨nb,0,none⟩),.pointer (some ⟨eb,0,none⟩)],args:= #[] }] .returning ρ h R:=by
 intro B a w hf ha;refine leaves_cons (f:=266) (args:= #[.pointer (some ⟨nb,0,none⟩),.pointer (some ⟨eb,0,none⟩)]) (by simp) (mI func266 rfl (by decide +kernel)) ?_;refine(C6 B w ha).mono ?_;rintro e u' w' ⟨⟨r,rfl⟩,rfl,ha'⟩;refine⟨_,eu hf.zero ha' (.cons (cX.KM H.wD H.lz h2 hk.row rfl) (.cons (cX.cell H.Lr h3 (he.cell (i:=0) rfl)) .nil)),h,ha',hR⟩
def Lu (h h':ai) (s:By) (r:Value):Prop:=∃w,r= .tuple #[.agg (cP (b6 s).1.kind (b6 s).1.set w).toArray,.int .i64 (b6 s).2]/\bw h' (D6 h.size) (cP (b6 s).1.kind (b6 s).1.set w) (b6 s).1
theorem Ax {lim:Nat}(hg:Sg h lim) (hlim:lim<=h.size) (s:By) (hs:s.length<=1000000):aj Tryz.prog 207 #[.string (bs s)] h (aN fun r h'=>Lu h h' s r/\ah h h'):=by
 have hsz:=aC s;refine bf ?_;refine aa ?_;refine xo rfl (cC) ?_;rintro _ h1 ⟨rfl,hk1,he1,hz1⟩;refine xo rfl (cC) ?_;rintro _ h2 ⟨rfl,hk2,he2,hz2⟩;refine aa ?_;have hk1:az h1 h.size 318 vC:=hk1;have hk2:az h2 h1.size 31 [.int .i64 0]:=hk2;have hk12:=hk1.af he2;have e2:=he1.trans he2;refine aQ (fun hbig=>?_) (fun hbig=>?_)
 · have hE:b6 s=(mh,3):=by unfold b6;rw[if_pos (by omega)]
   refine aa ?_;refine xp rfl (au (H.Dc ) rfl) ?_;refine aY rfl (bM rfl rfl hk12) ?_;rintro _ h3 ⟨rfl,hk3,hx3,hz3⟩;refine aY rfl (b7 rfl rfl ((hk2.ext hx3 (by show ¬_=_;omega)))) ?_;rintro _ h4 ⟨rfl,hk4,hx4,hz4⟩;refine aa ?_;have hk3:az h3 h.size 318 vC:=hk3;have hk4:az h4 h1.size 31 [.int .i64 3]:=hk4;refine fG (fT rfl ((hk3.ext hx4 (by show ¬_=_;omega)).row) (OB rfl (hk4.cell (i:=0) rfl) fF)) ?_;refine⟨_,rfl,⟨.slice none 0 0,by rw[hE];rfl,by rw[hE];exact eI _ _ 0 0⟩,ah.only (ah.only e2 hx3 (Nat.le_refl _)) hx4 (by omega)⟩
 · iterate 2 refine aI ?_
   refine G.Lf (caps:=[.pointer (some ⟨h.size,0,none⟩),.pointer (some ⟨h1.size,0,none⟩)]) func207 rfl rfl rfl rfl rfl rfl rfl rfl rfl rfl rfl ?_;have hE:b6 s=match ja s with|some x=>(x,0)|none=>(mh,10):=by unfold b6;rw[if_neg (by omega)];rfl
   refine GD.seq rfl ?_;refine GD.eE func207 rfl ?_;refine fE.aB rfl rfl rfl rfl (aD rfl) ?_;refine fE.aB rfl rfl rfl rfl (au (H.Jf _) rfl) ?_;refine fE.r9 rfl rfl rfl rfl (aH.Jc rfl) ?_;rintro _ h3 ⟨rfl,hk3,he3,hz3⟩;refine fE.aB rfl rfl rfl rfl (an.assign rfl) ?_;refine eD rfl ?_;refine GD.sub (ρ':=[(0,_),(2,_),(3,_),(4,_),(7,_)]) ⟨rfl,rfl,rfl,rfl,rfl,trivial⟩ ?_;refine GD.seq rfl ?_;refine GD.eE func207 rfl ?_;refine fE.aB rfl rfl rfl rfl (aD rfl) ?_;have hk3:az h3 h2.size 390 [.string (bs s)]:=hk3;have hg3:Sg h3 lim:=hg.ext (e2.trans he3) (fun _ k=>k.elim);have hrows:=DF lim (s.length+1) h3 h2.size s hg3 (by omega) hk3 (Nat.lt_succ_self _) hs;have hk13:=hk12.af he3;have hk23:=hk2.af he3;have e3:=e2.trans he3;refine fE.r9 rfl rfl rfl rfl (bu (vs:=[_]) func267 rfl H.MY rfl (aj.Mg (hrows) ((fun _ h' ⟨hc,hp,hx⟩=>by rw[hc];exact sG rfl rfl rfl (hk13.ext hx (by show ¬_=_;omega)) (hk23.ext hx (by show ¬_=_;omega)) (by omega) (fun h'' hx2=>⟨_,rfl,⟨.slice none 0 0,by rw[hE];unfold ja;rw[hp];rfl,by rw[hE];unfold ja;rw[hp];exact eI _ _ 0 0⟩,⟨by have:=hx.size;have:=hx2.size;have:=e3.size;omega,fun b hb _=>by rw[hx2.block b (by have:=hx.size;omega) (by omega),hx.block b (by omega) (by show ¬_=_;omega)];exact e3.block b hb (fun k=>k)⟩⟩))))) ?_;rintro _ h4 ⟨x,r,hp,⟨w,rfl,hnd⟩,hs4,hx4⟩;have hz4:=hx4.size;have hk14:=hk13.ext hx4 (by show ¬_=_;omega);have hk24:=hk23.ext hx4 (by show ¬_=_;omega);have e4:ah h h4:=ah.only e3 hx4 (by omega);refine fE.mL rfl rfl rfl (aH.bZ H.lz rfl rfl hk14 (by first|rfl|(simp;done)|(simp;omega)) (by first|decide|exact of_decide_eq_true rfl|(simp;done)|(simp;omega)) (bw.one hnd)) ?_;rintro _ h5 ⟨rfl,hk5,hx5,hz5⟩;refine eD rfl ?_;refine GD.sub (ρ':=[(0,_),(2,_),(3,_),(4,_),(7,_)]) ⟨rfl,rfl,rfl,rfl,rfl,trivial⟩ ?_;refine GD.seq rfl ?_;refine GD.seq rfl ?_;refine GD.eE func207 rfl ?_;refine fE.aB rfl rfl rfl rfl (aD rfl) ?_;refine fE.aB rfl rfl rfl rfl (bh rfl) ?_;refine fE.aB rfl rfl rfl rfl (aM (off:=0) underlying390 rfl rfl H.BP rfl) ?_;have hk5:az h5 h.size 318 (cP x.kind x.set w):=hk5;have hk25:=hk24.ext hx5 (by show ¬_=_;omega);have hs5:St h5 h2.size r:=az.ext hs4 hx5 (by show ¬_=_;omega);have hnd5:bw h5 (D6 h3.size) (cP x.kind x.set w) x:=bw.low hnd (Nat.le_refl _) hx5 (fun b _ (hb:b=h.size)=>by omega);have e5:=ah.only e4 hx5 (Nat.le_refl _);refine fE.aB rfl rfl rfl rfl (bn H.Ov rfl hs5.cell) ?_;refine fE.aB rfl rfl rfl rfl (an.su rfl rfl) ?_;refine eD rfl ?_;refine GD.sub (ρ':=[(0,_),(2,_),(3,_),(4,_),(7,_),(19,_)]) ⟨rfl,rfl,rfl,rfl,rfl,rfl,trivial⟩ ?_;refine Ia rfl rfl (fun hr=>?_) (fun hr=>?_)
   · have hr:r≠[]:=fun e=>hr (by rw[e];rfl)
     have hpn:ja s=none:=by
      unfold ja;rw[hp];cases r with
      |nil=>exact absurd rfl hr
      |cons c t=>rfl
     refine GD.eE func207 rfl ?_;refine fE.aB rfl rfl rfl rfl (au (H.gu ) rfl) ?_;refine fE.aB rfl rfl rfl rfl (iY H.Kq rfl) ?_;refine fE.mL rfl rfl rfl (cF (Φ:=fun _ _=>False) rfl (sG rfl rfl rfl hk5 hk25 (by omega) (fun h'' hx2=>⟨_,rfl,⟨.slice none 0 0,by rw[hE,hpn];rfl,by rw[hE,hpn];exact eI _ _ 0 0⟩,⟨by have:=hx2.size;have:=e5.size;omega,fun b hb _=>by rw[hx2.block b (by have:=e5.size;omega) (by omega)];exact e5.block b hb (fun k=>k)⟩⟩))) ?_;rintro _ _ hpn;exact hpn.elim
   · obtain rfl:r=[]:=jg (Classical.not_not.1 hr);have hpn:ja s=some x:=by unfold ja;rw[hp]
     refine Eh rfl ?_;refine GD.seq rfl ?_;refine GD.eE func207 rfl ?_;refine fE.aB rfl rfl rfl rfl (an.bB H.wD H.lz rfl hk5.row (by first|rfl|(simp;done)|(simp;omega))) ?_;refine fE.mL rfl rfl rfl (aH.bZ H.lz rfl rfl hk5 (by first|rfl|(simp;done)|(simp;omega)) (by first|decide|exact of_decide_eq_true rfl|(simp;done)|(simp;omega)) (bw.one hnd5)) ?_;rintro _ h6 ⟨rfl,hk6,hx6,hz6⟩;refine fE.mL rfl rfl rfl (aH.br H.Ep rfl rfl (hk25.ext hx6 (by show ¬_=_;omega)) (by first|decide|exact of_decide_eq_true rfl|(simp;done)|(simp;omega)) rfl) ?_;rintro _ h7 ⟨rfl,hk7,hx7,hz7⟩;refine eD rfl ?_;refine GD.sub (ρ':=[(0,_),(2,_),(3,_),(4,_),(7,_),(19,_)]) ⟨rfl,rfl,rfl,rfl,rfl,rfl,trivial⟩ ?_;have hk6:az h6 h.size 318 (cP x.kind x.set w):=hk6;have hk7:az h7 h1.size 31 [.int .i64 0]:=hk7;have hk17:=hk6.ext hx7 (by show ¬_=_;omega);have e7:=ah.only (ah.only e5 hx6 (Nat.le_refl _)) hx7 (by omega);have hnd7:bw h7 (D6 h.size) (cP x.kind x.set w) x:=bw.low (bw.low hnd5 (Nat.le_refl _) hx6 (fun b _ (hb:b=h.size)=>by omega)) (by omega) hx7 (fun b _ (hb:b=h1.size)=>by omega);refine GD.ret func207 rfl ?_;exact CC rfl rfl hk17 hk7 ⟨_,rfl,⟨w,by rw[hE,hpn],by rw[hE,hpn];exact hnd7⟩,e7⟩
end
end Go.Proofs.YtckomlgchbkekaaGreatDoor
namespace Go.Proofs.YtckomlgchbkekaaGreatDoor
open Go.Proofs.Tryz
open Go Go.Lw
set_option maxRecDepth 20000 set_option maxHeartbeats 4000000
section
variable {h:ai}{O:Nat->Prop}{v:Value}{nb st:Nat}{ss:List cL}
def cJ (n:Nat):Value:=.int .i64 (n:Nat)
def gQ:fS Nat:=.flat cJ fun _=>rfl
def Ex (k s:Nat) (v:Value) (r:Nat):List Value:=[.int .i64 (k:Nat),dL s 0,dL s 1,dL s 2,dL s 3,v,.int .i64 (r:Nat)]
def HY (h:ai) (O:Nat->Prop) (cs:List Value) (x:cL):Prop:=∃v,cs=Ex x.kind x.set v x.rule/\aR gQ h O v x.to
theorem aR.J8 {α:Type}{e:fS α}{xs:List α}(k:aR e h O v xs):v.oneCell'=true:=by
 obtain⟨oa,n,c,rfl,_⟩:=k;rfl
def Fb:fS cL:=⟨7,by decide,HY,fun h=>by obtain⟨v,rfl,_⟩:=h;rfl,fun h=>by
 obtain⟨v,rfl,hv⟩:=h;intro u hu;simp[Ex,dL] at hu
 rcases hu with rfl|rfl|rfl|rfl|rfl|rfl|rfl<;>first|rfl|exact aR.J8 hv,fun h m=>by
 obtain⟨v,hc,hv⟩:=h;exact⟨v,hc,hv.mv m⟩⟩
structure bD (h:ai) (O:Nat->Prop) (nb:Nat) (v:Value) (ss:List cL) (st:Nat):Prop where
 blk:az h nb 314 [v,.int .i64 (st:Nat)]
 row:eY Fb (fun b=>b=nb\/O b) h (nb+1) 324 v ss
abbrev dJ (nb:Nat) (v:Value):Nat->Prop:=fun b=>b=nb\/b8 v.ownBlock b
theorem bD.own (k:bD h O nb v ss st):∀b,v.ownBlock=some b->nb<b/\b<h.size:=fun b hb=>by
 obtain⟨css,_,h2,_⟩:=k.row;have:=h2.lt hb;omega
theorem bD.ext {M:Nat->Prop}{O O':Nat->Prop}{h h':ai}{nb:Nat}{v:Value}{ss:List cL}{st:Nat}(k:bD h O nb v ss st) (e:Ext M h h') (hnb:¬M nb) (hown:∀b,v.ownBlock=some b->¬M b) (hM:∀b,b<h.size->M b->O b) (hO:∀b,b<h.size->O' b->O b):bD h' O' nb v ss st :=
 ⟨k.blk.ext e hnb,k.row.EO e hown (fun b hb hm=>.inr (hM b hb hm)) (fun b hb k=>k.imp id (hO b hb))⟩
theorem bD.af {O':Nat->Prop}{h':ai}(k:bD h O nb v ss st) (e:ah h h') (hO:∀b,b<h.size->O' b->O b):bD h' O' nb v ss st:=k.ext e (fun k=>k) (fun _ _ k=>k) (fun _ _ k=>k.elim) hO
theorem FB {w:Value}{x:cL}(hn:bD h O nb v ss st) (_hO:∀b,O b->b<h.size) (hx:HY h (fun b=>dJ nb v b\/O b) (Ex x.kind x.set w x.rule) x) (hl:ss.length<=1000000) :
 aj Tryz.prog 209 #[.pointer (some ⟨nb,0,none⟩),.agg (Ex x.kind x.set w x.rule).toArray] h (aN fun r h'=>∃v',r= .int .i64 (ss.length:Nat)/\bD h' O nb v' (ss++[x]) st/\Ext (dJ nb v) h h'/\(∀b,v'.ownBlock=some b->v.ownBlock=some b\/h.size<=b)):=by
 have hw1:∀u∈Ex x.kind x.set w x.rule,u.oneCell'=true:=Fb.one hx;refine bf ?_;refine aa ?_;refine xo rfl (cM) ?_;rintro _ h1 ⟨rfl,hk1,he1,hz1⟩;have hk1:az h1 h.size 324 (Ex x.kind x.set w x.rule):=hk1;have hn1:=hn.af (O':=O) he1 (fun _ _ k=>k);obtain⟨css,hc1,hc2,hc3⟩:=id hn1.row;have hown:=hn1.own;have hnlt:=hn1.blk.lt;have hnz:=hn.blk.lt;have hnM:¬(b8 v.ownBlock nb\/Array.size h1<=nb):=by rintro(k|k);(have:=hown nb k.symm;omega);omega
 have hkM:¬(b8 v.ownBlock h.size\/Array.size h1<=h.size):=by rintro(k|k);(have:=hn.own _ k.symm;omega);omega
 refine aa ?_;refine uq 11 (fun b=>b8 v.ownBlock b\/Array.size h1<=b) (fun i=>Nat.blt i 10) ?_;refine ax 0 ?_;refine ax 1 ?_;refine ax 2 ?_;refine ax 3 ?_;refine aS 4 rfl (fun h' e=>aA rfl (e.cell hnM (hn1.blk.cell (i:=0) rfl))) ?_;refine aS 5 rfl (fun h' e=>bI rfl (e.rowAt hkM hk1.row)) ?_;refine ct 6 rfl (mz) ?_;rintro _ _ ⟨rfl,rfl⟩;refine⟨fun _=>by first|exact Ext.push _ _ _|assumption,?_⟩;refine ct 7 rfl (aH.dO underlying312 H.Kh rfl rfl (hc2) rfl rfl (hw1) (by omega) (by decide) (by omega)) ?_;rintro v2 h2 ⟨ho2,hx2,hx2',hv2⟩;refine⟨fun _=>hx2'.mono (fun _ _ k=>.inl k),?_⟩;obtain⟨oa2,c2,rfl,_⟩:=ho2.open;refine BO 8 ?_;refine ax 9 ?_;refine eK 10 rfl (b7 rfl rfl ((hn1.blk.ext hx2 (fun k=>by have:=hown nb k.symm;omega)))) ?_;rintro _ h3 ⟨rfl,hk3,hx3,hz3⟩;refine⟨nofun,?_⟩;refine dP ?_;refine aa ?_;have hxs:Fb.R h1 (fun b=>b8 v.ownBlock b\/b=nb\/O b) (Ex x.kind x.set w x.rule) x:=Fb.mv hx ⟨he1.size,fun b hb hn=>⟨he1.block b hb (fun k=>k),fun k=>hn (by rcases k with k|k|k;(exact .inl (.inr k));(exact .inl (.inl k));exact .inr k)⟩⟩;have hrow2:eY Fb (fun b=>b=nb\/O b) h2 (nb+1) 324 (.slice oa2 (ss.length+1) c2) (ss++[x]):=eY.mZ hc1 hc3 ho2 hx2 hv2 hxs;have hrow3:eY Fb (fun b=>b=nb\/O b) h3 (nb+1) 324 (.slice oa2 (ss.length+1) c2) (ss++[x]):=hrow2.EO hx3 (fun b hb (k:b=nb)=>by have:=hv2 b hb;rcases this with k'|k';(have:=hown b k';omega);omega) (fun b _ k=>.inl k) (fun b _ k=>k);have hk3:az h3 nb 314 [.slice oa2 (ss.length+1) c2,.int .i64 (st:Nat)]:=hk3;refine xp rfl (aA rfl (hk3.cell (i:=0) rfl)) ?_;refine aa ?_;refine aW ?_;refine⟨_,rfl,_,?_,⟨hk3,hrow3⟩,⟨by have:=he1.size;have:=hx2.size;omega,fun b hb hn=>by rw[hx3.block b (by have:=hx2.size;omega) (fun k=>hn (.inl k)),hx2.block b (by omega) (fun k=>hn (.inr k)),he1.block b hb (fun k=>k)]⟩,fun b hb=>?_⟩
 · show Value.int _ _=_
   congr 1;omega
 · rcases hv2 b hb with k|k
   · exact .inl k
   · exact .inr (by omega)
theorem qG {l cap:Nat}{oa:Option Addr}{n c:Nat}{J:Nat->ai->Prop}(hn:n<=1000000)
 (hread:∀j h,J j h->cellAt h ⟨cap,0,none⟩=some (.slice oa n c)) (hy:∀j h,J (j+1) h->j<n->∃(b o k s:Nat) (w:Value),oa=some ⟨b,o,none⟩/\Lw.rowAt h b (o+j*6) (cP k s w) /\
  cV Tryz.prog l #[.int .i64 (j:Nat),.agg (cP k s w).toArray] h (aN fun r h'=>r= .bool true/\J j h')) (h0:J n h) :
 aj Tryz.prog 303 #[.func (.yield l) #[] #[],.pointer (some ⟨cap,0,none⟩)] h (aN fun _ h'=>J 0 h'):=by
 refine bf ?_;refine aa ?_;refine xp rfl (aA rfl (hread _ _ h0)) ?_;refine aa ?_;refine eR (σ:=Nat) (fun j=>[(3,.int .i64 ((j:Int)-1))]) (fun j h'=>J j h'/\j<=n) (fun j=>j) (n) ⟨h0,Nat.le_refl _⟩ rfl ?_;rintro j h1 ⟨hJ,hj⟩ ih;refine aa ?_;refine aQ (fun hge=>?_) (fun hge=>?_)
 · obtain⟨i,rfl⟩:∃i,j=i+1:=⟨j-1,by omega⟩
   obtain⟨b,o,k,s,w,ha,hrow,hyy⟩:=hy i h1 hJ (by omega);have hji:((i+1:Nat):Int)-1=((i:Nat):Int):=by omega
   rw[hji];refine fR rfl ?_;refine G.seq rfl ?_;refine G.block rfl rfl ?_;refine G.seq rfl ?_;refine G.Cf func303 rfl ?_;refine aV.aB rfl rfl rfl rfl rfl (aD rfl) ?_;refine aV.aB rfl rfl rfl rfl rfl (aD rfl) ?_;refine aV.aB rfl rfl rfl rfl rfl (bn H.Kv rfl (hread _ _ hJ)) ?_;refine aV.aB rfl rfl rfl rfl rfl (aD rfl) ?_;refine aV.aB rfl rfl rfl rfl rfl (an.nk underlying316 H.lz rfl rfl i rfl ha (by omega)) ?_;refine aV.aB rfl rfl rfl rfl rfl (an.bB H.wD H.lz rfl hrow (by first|rfl|(simp;done)|(simp;omega))) ?_;refine aV.yield (vs:=[_,_]) rfl rfl rfl rfl rfl rfl rfl (hyy) ?_;rintro _ h2 ⟨rfl,hJ2⟩;refine aV.aB rfl rfl rfl rfl rfl (an.se rfl) ?_;refine aX rfl ?_;refine bV rfl (by decide) ?_;refine aa ?_;exact ih i ⟨hJ2,by omega⟩
 · obtain rfl:j=0:=by omega
   refine aa ?_;refine gE ?_;exact⟨_,rfl,hJ⟩
theorem tZ (v:Value) (hv:v.oneCell'=true):aj Tryz.prog 268 #[v] h (aN fun r h'=>r= .func (.func 303) #[] #[.pointer (some ⟨h.size,0,none⟩)]/\h'=h.push (.cells #[v] 316)):=by
 have hcells:v.cells= #[v]:=by cases v<;>simp[Value.oneCell'] at hv<;>rfl
 refine bf ?_;refine aa ?_;refine xo rfl (aH.box rfl) ?_;rintro _ _ ⟨rfl,rfl⟩;refine aa ?_;refine xp rfl (an.makeFunc (vs:=[_]) rfl) ?_;refine aa ?_;refine aW ?_;exact⟨_,rfl,rfl,by rw[hcells]⟩
end
end Go.Proofs.YtckomlgchbkekaaGreatDoor
namespace Go.Proofs.YtckomlgchbkekaaGreatDoor
open Go Go.Lw
set_option maxRecDepth 20000
section
variable {O:Nat->Prop}{nb:Nat}{h h':ai}{v:Value}
structure Nx (O:Nat->Prop) (nb:Nat) (h:ai) (v:Value) (h':ai) (v':Value):Prop where
 ext:Ext (fun b=>dJ nb v b\/O b) h h'
 own:∀b,v'.ownBlock=some b->v.ownBlock=some b\/h.size<=b
theorem rj {O:Nat->Prop}{nb:Nat}{h:ai}{v:Value}:Nx O nb h v h v:=⟨av _ _,fun _ k=>.inl k⟩
theorem Nx.LH (e:ah h h'):Nx O nb h v h' v:=⟨e.mono fun _ _ k=>k.elim,fun _ k=>.inl k⟩
theorem Nx.mono {O O':Nat->Prop}{nb:Nat}{h h':ai}{v v':Value}(k:Nx O nb h v h' v') (hO:∀b,b<h.size->O b->O' b):Nx O' nb h v h' v':=⟨k.ext.mono fun b hb k=>k.imp id (hO b hb),k.own⟩
theorem Nx.trans {O':Nat->Prop}{h1 h2:ai}{v1 v2:Value}(k:Nx O nb h v h1 v1) (k':Nx O' nb h1 v1 h2 v2) (hO:∀b,b<h.size->O' b->O b):Nx O nb h v h2 v2:=by
 refine⟨⟨Nat.le_trans k.ext.size k'.ext.size,fun b hb hn=>?_⟩,fun b hb=>?_⟩
 · rw[k'.ext.block b (Nat.lt_of_lt_of_le hb k.ext.size) ?_,k.ext.block b hb hn];rintro((k1|k1)|k1)
   · exact hn (.inl (.inl k1))
   · rcases k.own b k1.symm with k2|k2
     · exact hn (.inl (.inr k2.symm))
     · omega
   · exact hn (.inr (hO b hb k1))
 · have:=k.ext.size
   rcases k'.own b hb with k2|k2
   · exact k.own b k2
   · exact .inr (by omega)
theorem Nx.mv {v':Value}(k:Nx O nb h v h' v'):Mv (fun b=>dJ nb v b\/O b) (fun b=>dJ nb v' b\/O b) h h' :=
 ⟨k.ext.size,fun b hb hn=>⟨k.ext.block b hb hn,by
  rintro((k1|k1)|k1)
  · exact hn (.inl (.inl k1))
  · rcases k.own b k1.symm with k2|k2
    · exact hn (.inl (.inr k2.symm))
    · omega
  · exact hn (.inr k1)⟩⟩
theorem Nx.LI {v':Value}(k:Nx (fun _=>False) nb h v h' v'):Mv (dJ nb v) (dJ nb v') h h' :=
 ⟨k.ext.size,fun b hb hn=>⟨k.ext.block b hb (fun k=>k.elim hn id),fun k1=>by
  rcases k1 with k1|k1
  · exact hn (.inl k1)
  · rcases k.own b k1.symm with k2|k2
    · exact hn (.inr k2.symm)
    · omega⟩⟩
def Jx (O:Nat->Prop) (nb:Nat) (h:ai) (v:Value) (st:Nat) (out:List cL×Nat) (r:Value) (h':ai):Prop:=∃v',r= .int .i64 (out.2:Nat)/\bD h' O nb v' out.1 st/\Nx (fun _=>False) nb h v h' v'
def H8 (n:Nat):Prop:=∀{x:Nd}{h:ai}{O:Nat->Prop}{nb:Nat}{v w:Value}{ss:List cL}{st to:Nat},mW x<=n->bD h O nb v ss st->(∀b,O b->b<h.size)->bw h (dJ nb v) (cP x.kind x.set w) x->rA x=true->ss.length+mW x<=1000000 ->
 aj Tryz.prog 208 #[.pointer (some ⟨nb,0,none⟩),.agg (cP x.kind x.set w).toArray,.int .i64 (to:Nat)] h (aN (Jx O nb h v st (lay x ss to)))
theorem zm {w:Value}{ss:List cL}{st:Nat}{x:cL}(hn:bD h O nb v ss st) (hO:∀b,O b->b<h.size) (hx:HY h (fun b=>dJ nb v b\/O b) (Ex x.kind x.set w x.rule) x) (hl:ss.length<=1000000) :
 aj Tryz.prog 209 #[.pointer (some ⟨nb,0,none⟩),.agg (Ex x.kind x.set w x.rule).toArray] h (aN (Jx O nb h v st (ss++[x],ss.length))) :=
 (FB hn hO hx hl).mono fun e h' r=>by
  obtain⟨u,he,v',hu,hn',hx',ho⟩:=r;exact⟨u,he,v',hu,hn',hx'.mono fun _ _ k=>.inl k,ho⟩
theorem Kf (i:Nat):dL 0 i= .int .u64 0:=by simp[dL,BV]
theorem lX {w:Value}{ss:List cL}{st:Nat}{to:List Nat}(hn:bD h O nb v ss st) (hO:∀b,O b->b<h.size) (hx:aR gQ h (fun b=>dJ nb v b\/O b) w to) (hl:ss.length<=1000000) :
 aj Tryz.prog 209 #[.pointer (some ⟨nb,0,none⟩),.agg #[.int .i64 0,.int .u64 0,.int .u64 0,.int .u64 0,.int .u64 0,w,.int .i64 0]] h (aN (Jx O nb h v st (ss++[⟨0,0,to,0⟩],ss.length))):=by
 have h1:=zm (x:=⟨0,0,to,0⟩) hn hO ⟨w,rfl,hx⟩ hl;simp only[Ex,Kf] at h1;exact h1
theorem P8 (t:TypeId) (a:Nat) (ho:¬O h.size):aR gQ (h.push (.cells #[.int .i64 (a:Nat)] t)) O (.slice (some ⟨h.size,0,none⟩) 1 1) [a]:=aR.mM (e:=gQ) (cs:=[cJ a]) rfl ho
theorem ON (t:TypeId) (a b:Nat) (ho:¬O h.size):aR gQ (h.push (.cells #[.int .i64 (a:Nat),.int .i64 (b:Nat)] t)) O (.slice (some ⟨h.size,0,none⟩) 2 2) [a,b] :=
 ⟨_,2,2,rfl,rfl,Nat.le_refl _,by simp[maxLen],fun i x hx=>by
  refine⟨h.size,0,[cJ x],rfl,ho,?_,rfl⟩;have hr:=fJ h [.int .i64 (a:Nat),.int .i64 (b:Nat)] t;intro j u hj;have h0:j=0:=by have:=(List.getElem?_eq_some_iff.1 hj).1;simp at this;omega
  subst h0;simp only[List.getElem?_cons_zero,Option.some.injEq] at hj;subst hj
  match i with
  | 0=>simp at hx;subst hx;exact hr 0 _ rfl
  | 1=>simp at hx;subst hx;exact hr 1 _ rfl
  |i+2=>simp at hx⟩
theorem p8:∀(l:List Nd) (x:Nd) (ss:List cL) (to:Nat),bz (l++[x]) ss to=((lay x (bz l ss to).1 to).1,(bz l ss to).2++[(lay x (bz l ss to).1 to).2])
 | [],x,ss,to=>by simp[bz]
 |y::l,x,ss,to=>by
  rw[List.cons_append,bz,p8 l x,bz];simp
theorem p6 {l:List Nd}{i:Nat}{x:Nd}(hx:l[i]? =some x) (ss:List cL) (to:Nat):bz (l.take (i+1)) ss to=((lay x (bz (l.take i) ss to).1 to).1,(bz (l.take i) ss to).2++[(lay x (bz (l.take i) ss to).1 to).2]):=by
 rw[List.take_add_one,hx,Option.toList_some,p8]
def JD (nb b5 cap d:Nat) (r0:Loop) (hL:ai) (v sl:Value) (O:Nat->Prop) (kids:List Nd) (ss:List cL) (st to j:Nat) (g:ai):Prop :=
 ∃v',bY g (d+1) r0/\g[d]? =some (.deferred (some []))/\az g cap 316 [sl]/\bD g (fun b=>O b\/(b5<=b/\b<hL.size)) nb v' (cg (kids.drop j) ss to).1 st /\
  az g b5 3 [.int .i64 ((cg (kids.drop j) ss to).2:Nat)]/\Nx (fun b=>b5<=b/\b<hL.size) nb hL v g v'
end
end Go.Proofs.YtckomlgchbkekaaGreatDoor
namespace Go.Proofs.YtckomlgchbkekaaGreatDoor
open Go.Proofs.Tryz
open Go Go.Lw
set_option maxRecDepth 20000 set_option maxHeartbeats 4000000
section
variable {h:ai}
theorem kk {k j:Nat}(h:¬((k:Nat):Int)=(j:Nat)):¬k=j:=fun e=>h (by rw[e])
theorem GW {n:Nat}(ih:H8 n):H8 (n+1):=by
 intro x h O nb v w ss st to hsz hn hO hx hw hl;obtain⟨k,s,kids⟩:=x;simp only[mW] at hsz hl;have hown:=hn.own;have hnb:=hn.blk.lt;obtain⟨w',hw',hkids⟩:=hx.open;have hww:w=w':=by simpa [cP] using hw'
 subst hww
 show aj _ _ #[_,.agg (cP k s w).toArray,_] h _
 replace hkids:aR qj h (dJ nb v) w kids:=hkids;obtain⟨oa,kn,kc,rfl,hsl⟩:=hkids.open;refine bf ?_;refine aa ?_;refine xo rfl (cM) ?_;rintro _ h1 ⟨rfl,q3,e1,z1⟩;refine xo rfl (cM) ?_;rintro _ h2 ⟨rfl,q4,e2,z2⟩;refine xo rfl (cM) ?_;rintro _ h3 ⟨rfl,q5,e3,z3⟩;have q3:az h1 h.size 243 [.pointer (some ⟨nb,0,none⟩)]:=q3;have q4:az h2 h1.size 318 (cP k s (.slice oa kn kc)):=q4;have q5:az h3 h2.size 3 [.int .i64 (to:Nat)]:=q5;have q3:=(q3.af e2).af e3;have q4:=q4.af e3;have e03:ah h h3:=(e1.trans e2).trans e3;have hn3:bD h3 O nb v ss st:=hn.af e03 (fun _ _ k=>k);have hO3:∀b,O b->b<h3.size:=fun b hb=>by have:=hO b hb;have:=e03.size;omega
 have nx3:Nx (fun _=>False) nb h v h3 v:=Nx.LH e03;have hsl3:aR qj h3 (dJ nb v) (.slice oa kn kc) kids:=hkids.mv nx3.LI
 have hnew3:∀b,h3.size<=b->¬(dJ nb v b\/O b):=by
  have hz:=e03.size;rintro b hb ((k1|k1)|k1)
  · omega
  · have:=hown b k1.symm;omega
  · have:=hO b k1;omega
 have hnM:∀b,h.size<=b->¬(dJ nb v b\/False):=by
  rintro b hb ((k1|k1)|k1)
  · omega
  · have:=hown b k1.symm;omega
  · exact k1
 have hkn:kids.length=kn:=hsl.len;have hwl:rB kids=true:=by simp only[rA,Bool.and_eq_true] at hw;exact hw.2
 have hklen:=Dw kids;refine aa ?_;refine xp rfl (aA rfl (q4.cell (i:=0) rfl)) ?_;refine aa ?_;refine aQ (fun h1k=>?_) (fun h1k=>?_)
 · obtain rfl:k=1:=by omega
   have hlay:lay (.mk 1 s kids) ss to=(ss++[⟨1,s,[to],0⟩],ss.length):=by rw[lay];simp
   rw[hlay];refine aa ?_;refine xp rfl (aA rfl (q3.cell (i:=0) rfl)) ?_;refine aa ?_;refine xp rfl (bI rfl (q4.part 1 (ds:=[dL s 0,dL s 1,dL s 2,dL s 3]) (by intro j v hv;match j with| 0=>exact hv| 1=>exact hv| 2=>exact hv| 3=>exact hv|j+4=>simp at hv))) ?_;refine xp rfl (aA rfl (q5.cell (i:=0) rfl)) ?_;refine xo rfl (kI [_]) ?_;rintro _ _ ⟨rfl,rfl⟩;refine xp rfl (au (H.Bu _ _ _ _ _ _ _ _) rfl) ?_;refine xo rfl (aG rfl (zm (O:=O) (x:=⟨1,s,[to],0⟩) (hn3.af (Ext.push _ _ _) (fun _ _ k=>k)) (fun b hb=>by have:=hO3 b hb;simp;omega) ⟨_,rfl,P8 _ to (hnew3 _ (Nat.le_refl _))⟩ (by omega))) ?_;rintro _ h5 ⟨v',rfl,hn5,nx5⟩;refine aa ?_;refine aW ?_;exact⟨_,rfl,v',rfl,hn5,(nx3.trans (Nx.LH (Ext.push _ _ _)) (fun _ _ k=>k)).trans nx5 (fun _ _ k=>k)⟩
 · have h1k':¬k=1:=kk h1k;refine aa ?_;refine aQ (fun h2k=>?_) (fun h2k=>?_)
   · obtain rfl:k=2:=by omega
     have hlay:lay (.mk 2 s kids) ss to=cg kids ss to:=by rw[lay];simp
     rw[hlay];have hz0:=e03.size;refine aa ?_;refine xp rfl (aA rfl (q4.cell (i:=5) rfl)) ?_;refine xo rfl (aG rfl (tZ (.slice oa kn kc) rfl)) ?_;rintro _ h4 ⟨rfl,hh4⟩;have e4:ah h3 h4:=by rw[hh4];exact Ext.push _ _ _
     have q6:az h4 h3.size 316 [.slice oa kn kc]:=by rw[hh4];exact cl _ _ _
     have z4:h4.size=h3.size+1:=by rw[hh4];simp
     clear hh4;refine aa ?_;refine G.rangeFunc rfl rfl func303 rfl (by decide +kernel) ?_;intro fid tmps hfits;obtain⟨r0,hr0⟩:∃r0,r0=bK fid tmps #[30,31] (FG (Lw.sub (aq f208) [0,1,0,0,1,1,1,0,1,0,1])) (FF (Lw.sub (aq f208) [0,1,0,0,1,1,1,0,1,0,1])) h4.size:=⟨_,rfl⟩
     obtain⟨hL,hhL⟩:∃hL,hL=(h4.push (.deferred (some []))).push (.loop r0):=⟨_,rfl⟩
     suffices hmain:aj Tryz.prog 303 #[.func (.yield (h4.size+1)) #[] #[],.pointer (some ⟨h3.size,0,none⟩)] hL _ by rw[hhL,hr0] at hmain;exact hmain
     have hst:r0.state= .ready:=by rw[hr0];rfl
     have hpn:r0.pending=none:=by rw[hr0];rfl
     have hps:r0.params= #[30,31]:=by rw[hr0];rfl
     have htm:r0.tmps=tmps:=by rw[hr0];rfl
     have eL:ah h4 hL:=by rw[hhL];exact(Ext.push _ _ _).trans (Ext.push _ _ _)
     have hLz:hL.size=h4.size+2:=by rw[hhL];simp
     have hloop0:bY hL (h4.size+1) r0:=by
      have hz:h4.size+1=(h4.push (.deferred (some []))).size:=by simp
      rw[bY,hhL,hz];exact Array.getElem?_push_size
     have hdef0:hL[h4.size]? =some (.deferred (some [])):=by
      rw[hhL,(Ext.push (fun _=>False) (h4.push (.deferred (some []))) _).block h4.size (by simp) (fun k=>k)];exact Array.getElem?_push_size
     clear hhL;have e0L:ah h hL:=(e03.trans e4).trans eL;have q3L:=(q3.af e4).af eL;have q5L:=(q5.af e4).af eL;have q6L:=q6.af eL;have hnL:bD hL (fun b=>O b\/(h2.size<=b/\b<hL.size)) nb v ss st:=hn.af e0L (fun b hb k=>k.elim id (fun k=>by omega));have hkL:aR qj hL (fun b=>dJ nb v b\/(h2.size<=b/\b<hL.size)) (.slice oa kn kc) kids:=hkids.mv ⟨e0L.size,fun b hb hn=>⟨e0L.block b hb (fun k=>k),fun k=>k.elim hn (fun k=>by omega)⟩⟩;have hdropn:kids.drop kn=[]:=List.drop_of_length_le (by omega);have hJ0:JD nb h2.size h3.size h4.size r0 hL v (.slice oa kn kc) O kids ss st to kn hL:=⟨v,hloop0,hdef0,q6L,by rw[hdropn,cg];exact hnL,by rw[hdropn,cg];exact q5L,rj⟩
     have hvM:∀{v':Value}{g:ai},Nx (fun b=>h2.size<=b/\b<hL.size) nb hL v g v'->∀b,h.size<=b->b<hL.size->¬dJ nb v' b:=by
      rintro v' g nx b hb hb' (k1|k1)
      · omega
      · rcases nx.own b k1.symm with k2|k2
        · have:=hown b k2;omega
        · omega
     refine suff (p:=∀j g,JD nb h2.size h3.size h4.size r0 hL v (.slice oa kn kc) O kids ss st to (j+1) g->j<kn->∃(b o k s:Nat) (w:Value),oa=some ⟨b,o,none⟩/\Lw.rowAt g b (o+j*6) (cP k s w)/\cV Tryz.prog (h4.size+1) #[.int .i64 (j:Nat),.agg (cP k s w).toArray] g (aN fun r h'=>r= .bool true/\JD nb h2.size h3.size h4.size r0 hL v (.slice oa kn kc) O kids ss st to j h')) ?_ fun hy=>?_
     · intro j g ⟨v',hlp,hdf,hcap,hng,hb5,nxg⟩ hj;obtain⟨x,hx⟩:∃x,kids[j]? =some x:=⟨_,List.getElem?_eq_getElem (by omega)⟩
       have hkg:=hkL.mv nxg.mv;obtain⟨oa',n',c',hv',_,_,_,hget⟩:=id hkg;cases hv';obtain⟨b,o,cs,ha,hob,hrow,hnd⟩:=hget j x hx;obtain⟨w2,rfl,-⟩:=hnd.open;refine⟨b,o,x.kind,x.set,w2,ha,hrow,?_⟩;have hcatd:=AT hx ss to;have hszx:=F1 hx;have hbl:=jW (kids.drop (j+1)) ss to;have hfit:=A5 (p1:=30) (p2:=31) (v1:=.int .i64 (j:Nat)) (v2:=.agg (cP x.kind x.set w2).toArray) hfits rfl rfl;rw[<-hps,<-htm] at hfit;have hvg:=hvM nxg;have hzg:=nxg.ext.size;have q3g:=q3L.ext nxg.ext (fun k=>k.elim (hvM rj (v':=v) (g:=hL) _ (Nat.le_refl _) (by omega)) (fun k=>by omega));refine cV.of hlp hst (by rw[hps];rfl) hfit ((congrArg Loop.assign hr0).trans rfl) ((congrArg Loop.body hr0).trans rfl) ?_;refine aV.r9 rfl rfl rfl rfl rfl (aH.lW H.JG) ?_;rintro _ g1 ⟨rfl,k8,e1',zz1⟩;refine aV.mL rfl rfl rfl rfl (aH.bZ H.lz rfl rfl k8 (by first|rfl|(simp;done)|(simp;omega)) (by first|decide|exact of_decide_eq_true rfl|(simp;done)|(simp;omega)) (bw.one hnd)) ?_;rintro _ g2 ⟨rfl,k8',e2',zz2⟩;refine aX rfl ?_;have e12:ah g g2:=e1'.only e2' (Nat.le_refl _);have k8':az g2 g.size 318 (cP x.kind x.set w2):=k8';refine⟨(e12.block _ hlp.lt (fun k=>k)).trans hlp,?_⟩;obtain⟨g3,hg3⟩:∃g3,g3=Lw.bA g2 (h4.size+1) (.loop { r0 with state:=.busy }):=⟨_,rfl⟩
       rw[<-hg3];have hlz:=hlp.lt;have hz2:=e12.size;have e23:Ext (fun b=>b=h4.size+1) g2 g3:=by rw[hg3];exact Ext.bA _ _ _ rfl
       have hlp3:bY g3 (h4.size+1) { r0 with state:=.busy }:=by rw[bY,hg3];exact gi (by omega)
       have hz3:=e23.size;have e13:Ext (fun b=>b=h4.size+1) g g3:=(e12.mono fun _ _ k=>k.elim).trans e23;have l3:¬h.size=h4.size+1:=by omega
       have l5:¬h2.size=h4.size+1:=by omega
       have l6:¬h3.size=h4.size+1:=by omega
       have l8:¬g.size=h4.size+1:=by omega
       have ld:¬h4.size=h4.size+1:=by omega
       have q33:=q3g.ext e13 l3;have b53:=hb5.ext e13 l5;have cap3:=hcap.ext e13 l6;have k83:=k8'.ext e23 l8;have hown':∀b,v'.ownBlock=some b->¬b=h4.size+1:=fun b hb k=>hvg b (by omega) (by omega) (.inr hb.symm)
       have hn3g:bD g3 (fun b=>O b\/(h2.size<=b/\b<hL.size)) nb v' (cg (kids.drop (j+1)) ss to).1 st:=hng.ext e13 (by omega) hown' (fun b _ k=>.inr (by omega)) (fun b _ k=>k);have hnd3:bw g3 (dJ nb v') (cP x.kind x.set w2) x:=hnd.mv ⟨e13.size,fun b hb hn=>⟨e13.block b hb (fun k=>hn (.inr (by omega))),fun k=>hn (.inl k)⟩⟩;refine aV.aB rfl rfl rfl rfl rfl (bn H.Kw rfl (q33.cell (i:=0) rfl)) ?_;refine aV.aB rfl rfl rfl rfl rfl (an.bB H.wD H.lz rfl k83.row (by first|rfl|(simp;done)|(simp;omega))) ?_;refine aV.aB rfl rfl rfl rfl rfl (bn H.BC rfl (b53.cell (i:=0) rfl)) ?_;refine aV.r9 rfl rfl rfl rfl rfl (bu (vs:=[_,_,_]) func208 rfl H.MZ rfl (aj.jF (ih (x:=x) (O:=fun b=>O b\/(h2.size<=b/\b<hL.size)) (to:=(cg (kids.drop (j+1)) ss to).2) (by omega) hn3g (fun b hb=>by rcases hb with k|k;(have:=hO b k;omega);omega) hnd3 (wL hwl hx) (by omega)))) ?_;rintro _ g4 ⟨v4,rfl,hn4,nx4⟩;have hM4:∀b,h.size<=b->b<hL.size->¬(dJ nb v' b\/False):=fun b h1 h2 k=>k.elim (hvg b h1 h2) id
       have b54:=b53.ext nx4.ext (hM4 _ (by omega) (by omega));refine aV.mL rfl rfl rfl rfl (aH.br H.fu rfl rfl b54 (by first|decide|exact of_decide_eq_true rfl|(simp;done)|(simp;omega)) rfl) ?_;rintro _ g5 ⟨rfl,b55,e5',zz5⟩;refine aX rfl ?_;have b55:az g5 h2.size 3 [.int .i64 ((lay x (cg (kids.drop (j+1)) ss to).1 (cg (kids.drop (j+1)) ss to).2).2:Nat)]:=b55;have hz4:=nx4.ext.size;have nx45:Nx (fun b=>h2.size<=b/\b<hL.size) nb g3 v' g5 v4:=⟨⟨by omega,fun b hb hn=>by rw[e5'.block b (by omega) (fun k=>hn (.inr (by omega))),nx4.ext.block b hb (fun k=>hn (k.elim .inl (fun k=>k.elim)))]⟩,nx4.own⟩
       have hlp5:bY g5 (h4.size+1) { r0 with state:=.busy }:=(hlp3.ext nx4.ext (hM4 _ (by omega) (by omega))).ext e5' (fun k=>by omega);have hr2:({ ({ r0 with state:=.busy }:Loop) with state:=.ready,pending:=none }:Loop)=r0:=by cases r0;simp at hst hpn;simp[hst,hpn]
       refine⟨_,hlp5,rfl,?_⟩;rw[hr2];have e56:Ext (fun b=>b=h4.size+1) g5 (Lw.bA g5 (h4.size+1) (.loop r0)):=Ext.bA _ _ _ rfl
       have hown4:∀b,v4.ownBlock=some b->¬b=h4.size+1/\¬b=h2.size:=fun b hb=>by
        rcases nx4.own b hb with k|k
        · exact⟨hown' b k,fun k'=>hvg b (by omega) (by omega) (.inr k.symm)⟩
        · omega
       have hdf5:g5[h4.size]? =some (.deferred (some [])):=by
        rw[e5'.block h4.size (by omega) (by omega),nx4.ext.block h4.size (by omega) (hM4 _ (by omega) (by omega)),e13.block h4.size (by omega) (by omega)];exact hdf
       have cap5:=(cap3.ext nx4.ext (hM4 _ (by omega) (by omega))).ext e5' (by omega);refine⟨v4,gi (by omega),by rw[e56.block h4.size (by omega) (by omega)];exact hdf5,cap5.ext e56 l6,?_,?_,?_⟩
       · rw[hcatd];have hn5:bD g5 (fun b=>O b\/(h2.size<=b/\b<hL.size)) nb v4 (lay x (cg (kids.drop (j+1)) ss to).1 (cg (kids.drop (j+1)) ss to).2).1 st:=hn4.ext e5' (by omega) (fun b hb=>(hown4 b hb).2) (fun b _ k=>.inr (by omega)) (fun _ _ k=>k);exact hn5.ext e56 (by omega) (fun b hb=>(hown4 b hb).1) (fun b _ k=>.inr (by omega)) (fun _ _ k=>k)
       · rw[hcatd];exact b55.ext e56 l5
       · exact((nxg.trans ⟨e13.mono (fun b _ k=>.inr (by omega)),fun b k=>.inl k⟩ (fun b _ k=>k)).trans nx45 (fun b _ k=>k)).trans ⟨e56.mono (fun b _ k=>.inr (by omega)),fun b k=>.inl k⟩ (fun b _ k=>k)
     · refine(qG (l:=h4.size+1) (cap:=h3.size) (n:=kn) (c:=kc) (J:=JD nb h2.size h3.size h4.size r0 hL v (.slice oa kn kc) O kids ss st to) (by omega) (fun j g hJ=>by obtain⟨_,_,_,k,_⟩:=hJ;exact k.cell (i:=0) rfl) hy hJ0).mono fun e g hJ=>?_
       obtain⟨u,rfl,v',hlp,hdf,hcap,hng,hb5,nxg⟩:=hJ;rw[List.drop_zero] at hng hb5;refine⟨_,rfl,r0,hlp,by rw[hst];decide,hpn,?_⟩;have hzg:=nxg.ext.size;have hlz:=hlp.lt;have e1:Ext (fun b=>b=h4.size+1) g (Lw.bA g (h4.size+1) (.loop { r0 with state:=.exhausted })):=Ext.bA _ _ _ rfl;have b5e:=hb5.ext e1 (by omega);have hdfe:=(e1.block h4.size (by omega) (by omega)).trans hdf;have hvg:=hvM nxg;refine GD.gr ?_;refine GD.seq rfl ?_;refine GD.eE func208 rfl ?_;refine fE.aB rfl rfl rfl rfl (bn H.BC rfl (b5e.cell (i:=0) rfl)) ?_;refine fE.aB rfl rfl rfl rfl (an.assign rfl) ?_;refine eD rfl ?_;refine GD.sub (ρ':=[(0,_),(1,_),(2,_),(3,_),(4,_),(5,_),(6,_),(15,_),(16,_),(25,_),(29,_)]) ⟨rfl,rfl,rfl,rfl,rfl,rfl,rfl,rfl,rfl,rfl,rfl,trivial⟩ ?_;refine GD.DH func208 rfl hdfe rfl ?_;have e2:Ext (fun b=>b=h4.size) (Lw.bA g (h4.size+1) (.loop { r0 with state:=.exhausted })) (Lw.bA (Lw.bA g (h4.size+1) (.loop { r0 with state:=.exhausted })) h4.size (.deferred none)):=Ext.bA _ _ _ rfl;have e12:Ext (fun b=>b=h4.size+1\/b=h4.size) g _:=(e1.mono fun _ _ k=>.inl k).trans (e2.mono fun _ _ k=>.inr k);have hownv:∀b,v'.ownBlock=some b->¬(b=h4.size+1\/b=h4.size):=fun b hb k=>hvg b (by omega) (by omega) (.inr hb.symm)
       refine⟨_,rfl,v',rfl,hng.ext e12 (by omega) hownv (fun b _ k=>.inr (by omega)) (fun b _ k=>.inl k),?_⟩;have nxe:Nx (fun b=>h2.size<=b) nb h v _ v':=((Nx.LH e0L).trans nxg (fun b _ k=>k.1)).trans ⟨e12.mono (fun b _ k=>.inr k),fun b k=>.inl k⟩ (fun b hb k=>by omega);exact nxe.mono (fun b hb k=>by omega)
   · have h2k':¬k=2:=kk h2k;refine aa ?_;refine aQ (fun h3k=>?_) (fun h3k=>?_)
     · obtain rfl:k=3:=by omega
       have hlay:lay (.mk 3 s kids) ss to=((bz kids ss to).1++[⟨0,0,(bz kids ss to).2,0⟩],(bz kids ss to).1.length):=by rw[lay];simp
       rw[hlay];refine aa ?_;refine xp rfl (aA rfl (q4.cell (i:=5) rfl)) ?_;refine aa ?_;refine eR (σ:=Nat×Value) (fun p=>[(9,p.2),(42,.int .i64 (p.1:Nat))]) (fun p h'=>p.1<=kn/\∃v',bD h' (fun b=>O b\/b8 p.2.ownBlock b) nb v' (bz (kids.take p.1) ss to).1 st/\eY gQ (fun _=>True) h' h3.size 3 p.2 (bz (kids.take p.1) ss to).2/\Nx (fun _=>False) nb h3 v h' v'/\(∀b,p.2.ownBlock=some b->v'.ownBlock≠some b)) (fun p=>kn-p.1) ((0,.slice none 0 0)) ⟨Nat.zero_le _,v,by simpa [bz] using hn3.af (av _ _) (fun b _ k=>k.elim id (fun k=>by cases k)),by simpa [bz] using eY.nil gQ (fun _=>True) h3 h3.size 3,rj,fun b hb=>by cases hb⟩ rfl ?_;rintro⟨i,t9⟩ gh ⟨hi,v',hnH,htH,nxH,hdist⟩ ih2
       try dsimp only
       dsimp only at hi hnH htH nxH hdist;have hzH:=nxH.ext.size;have hz0:=e03.size;have q3H:=q3.ext nxH.ext (hnM _ (Nat.le_refl _));have q5H:=q5.ext nxH.ext (hnM _ (by omega));have hslH:aR qj gh (dJ nb v') (.slice oa kn kc) kids:=hsl3.mv nxH.LI;have ht9:∀b,t9.ownBlock=some b->h3.size<=b/\b<gh.size:=fun b hb=>by obtain⟨_,_,k,_⟩:=id htH;exact k.lt hb
       have hlenT:(bz (kids.take i) ss to).2.length=i:=by rw[p9,List.length_take];omega
       refine aa ?_;refine aQ (fun hlt=>?_) (fun hlt=>?_)
       · have hik:i<kids.length:=by omega
         obtain⟨x,hx⟩:∃x,kids[i]? =some x:=⟨_,List.getElem?_eq_getElem hik⟩
         obtain⟨oa',n',c',hv',_,_,_,hget⟩:=id hslH;cases hv';obtain⟨b,o,cs,ha,hob,hrow,hnd⟩:=hget i x hx;obtain⟨w2,rfl,-⟩:=hnd.open;have hszx:=F0 hx;have hbl:=iD (kids.take i) ss to
         iterate 4 refine aI ?_
         refine bU ?_;refine xp rfl (bT rfl rfl i rfl ha) ?_;refine xp rfl (bI rfl hrow) ?_;refine xo rfl (cC) ?_;rintro _ h5 ⟨rfl,q11,e5,z5⟩;refine aY rfl (bM rfl rfl q11 (bw.one hnd)) ?_;rintro _ h6 ⟨rfl,q11',e6,z6⟩;have e56:ah gh h6:=e5.only e6 (Nat.le_refl _);have q11':az h6 gh.size 318 (cP x.kind x.set w2):=q11';have hn6:bD h6 (fun b=>O b\/b8 t9.ownBlock b) nb v' (bz (kids.take i) ss to).1 st:=hnH.af e56 (fun _ _ k=>k);have nx6:Nx (fun _=>False) nb gh v' h6 v':=Nx.LH e56;have hz6:=e56.size;have hnd6:=hnd.mv nx6.LI;refine aa ?_;refine xp rfl (aA rfl ((q3H.af e56).cell (i:=0) rfl)) ?_;refine xp rfl (bI rfl q11'.row) ?_;refine xp rfl (aA rfl ((q5H.af e56).cell (i:=0) rfl)) ?_;refine xo rfl (aG rfl (ih (x:=x) (O:=fun b=>O b\/b8 t9.ownBlock b) (to:=to) (by omega) hn6 (fun b hb=>by rcases hb with k|k;(have:=hO3 b k;omega);(have:=ht9 b k.symm;omega)) hnd6 (wL hwl hx) (by omega))) ?_;rintro _ h7 ⟨v7,rfl,hn7,nx7⟩
         have ht7:eY gQ (fun _=>True) h7 h3.size 3 t9 (bz (kids.take i) ss to).2:=(htH.af e56).EO nx7.ext (fun b hb=>by
          rintro((k1|k1)|k1)
          · have:=ht9 b hb;omega
          · exact hdist b hb k1.symm
          · exact k1) (fun _ _ _=>trivial) (fun _ _ _=>trivial)
         obtain⟨css,hc1,hc2,hc3⟩:=id ht7;have hz7:=nx7.ext.size;refine xo rfl (kI [_]) ?_;rintro _ _ ⟨rfl,rfl⟩;refine xo rfl (Dr rfl rfl hc2 rfl rfl) ?_;rintro t9' h8 ⟨ho8,hx8,-,hv8⟩;refine aa ?_;have ht8:eY gQ (fun _=>True) h8 h3.size 3 t9' ((bz (kids.take i) ss to).2++[(lay x (bz (kids.take i) ss to).1 to).2]):=eY.mZ hc1 hc3 ho8 hx8 hv8 rfl
         have hn8:bD h8 (fun b=>O b\/b8 t9'.ownBlock b) nb v7 (lay x (bz (kids.take i) ss to).1 to).1 st:=hn7.ext hx8 (fun k=>by have:=ht9 nb k.symm;omega) (fun b hb k=>by
          rcases nx7.own b hb with k'|k'
          · exact hdist b k.symm k'
          · have:=ht9 b k.symm;omega) (fun b _ k=>.inr k) (fun b hb k=>k.imp id (fun k=>by
            rcases hv8 b k.symm with k'|k'
            · exact k'.symm
            · omega))
         have hd8:∀b,t9'.ownBlock=some b->v7.ownBlock≠some b:=fun b hb k=>by
          rcases hv8 b hb with k'|k'
          · rcases nx7.own b k with k2|k2
            · exact hdist b k' k2
            · have:=ht9 b k';omega
          · have:=(hn7.own b k).2;omega
         exact ih2 (i+1,t9') ⟨by show i+1<=kn;omega,v7,by rw[p6 hx];exact hn8,by rw[p6 hx];exact ht8,⟨⟨by have:=hx8.size;omega,fun b hb hn=>by rw[hx8.block b (by omega) (fun k=>by have:=ht9 b k.symm;omega)];exact((nxH.trans nx6 (fun _ _ k=>k)).trans nx7 (fun _ _ k=>k)).ext.block b hb hn⟩,((nxH.trans nx6 (fun _ _ k=>k)).trans nx7 (fun _ _ k=>k)).own⟩,hd8⟩
       · obtain rfl:i=kn:=by omega
         have hall:kids.take i=kids:=List.take_of_length_le (by omega);rw[hall] at hnH htH hlenT;have hbl:=iD kids ss to
         have hrd:aR gQ gh (fun b=>dJ nb v' b\/O b) t9 (bz kids ss to).2:=htH.Gp (fun b hb=>by
          rintro((k1|k1)|k1)
          · have:=ht9 b hb;omega
          · exact hdist b hb k1.symm
          · have:=ht9 b hb;have:=hO3 b k1;omega) (fun _ _ _=>trivial)
         obtain⟨oa9,n9,c9,rfl,_⟩:=id hrd;refine aa ?_;refine xp rfl (aA rfl (q3H.cell (i:=0) rfl)) ?_;refine aa ?_;refine xp rfl (au (H.zk _ _ _) rfl) ?_;refine xo rfl (aG rfl (lX (O:=O) (hnH.af (av _ _) (fun b _ k=>.inl k)) (fun b hb=>by have:=hO3 b hb;omega) hrd (by omega))) ?_;rintro _ h5 ⟨v5,rfl,hn5,nx5⟩;refine aa ?_;refine aW ?_;exact⟨_,rfl,v5,rfl,hn5,(nx3.trans nxH (fun _ _ k=>k)).trans nx5 (fun _ _ k=>k)⟩
     · have h3k':¬k=3:=kk h3k;refine aa ?_;refine aQ (fun h6k=>?_) (fun h6k=>?_)
       · obtain rfl:k=6:=by omega
         have hone:kids.length=1:=by simp[rA] at hw;exact hw.1
         obtain⟨x,rfl⟩:∃x,kids=[x]:=by match kids,hone with| [x],_=>exact⟨x,rfl⟩
         have hkn1:kn=1:=by simpa using hkn.symm
         have hszx:mW x<=gG [x]:=by simp[gG]
         have hwx:rA x=true:=by simpa [rB] using hwl
         have hlay:lay (.mk 6 s [x]) ss to=((lay x ss to).1++[⟨0,0,[(lay x ss to).2,to],0⟩],(lay x ss to).1.length):=by rw[lay];simp[eN]
         rw[hlay];have hz0:=e03.size;obtain⟨oa',n',c',hv',_,_,_,hget⟩:=id hsl3;cases hv';obtain⟨b,o,cs,ha,hob,hrow,hnd⟩:=hget 0 x rfl;obtain⟨w2,rfl,-⟩:=hnd.open
         have hnM3:∀b,h.size<=b->b<h3.size->¬(dJ nb v b\/h3.size<=b):=by
          rintro b hb hb' ((k1|k1)|k1)
          · omega
          · have:=hown b k1.symm;omega
          · omega
         have hbM:¬(dJ nb v b\/h3.size<=b):=by
          rintro(k1|k1)
          · exact hob k1
          · have:=bS hrow (by simp[cP]);omega
         have m3:=hnM3 h.size (Nat.le_refl _) (by omega);have m4:=hnM3 h1.size (by omega) (by omega);have m5:=hnM3 h2.size (by omega) (by omega);have hlenx:=iT x ss to;refine aa ?_;refine uq 13 (fun b=>dJ nb v b\/Array.size h3<=b) (fun i=>Nat.blt i 13) ?_;refine aS 0 rfl (fun h' e=>aA rfl (e.cell m3 (q3.cell (i:=0) rfl))) ?_;refine aS 1 rfl (fun h' e=>aA rfl (e.cell m3 (q3.cell (i:=0) rfl))) ?_;refine ax 2 ?_;refine aS 3 rfl (fun h' e=>aA rfl (e.cell m4 (q4.cell (i:=5) rfl))) ?_;refine aS 4 rfl (fun h' e=>bT rfl rfl 0 rfl ha) ?_;refine aS 5 rfl (fun h' e=>bI rfl (e.rowAt hbM hrow)) ?_;refine aS 6 rfl (fun h' e=>aA rfl (e.cell m5 (q5.cell (i:=0) rfl))) ?_;refine aS 8 rfl (fun h' e=>aA rfl (e.cell m5 (q5.cell (i:=0) rfl))) ?_;refine ct 7 rfl (aG rfl (ih (x:=x) (O:=O) (to:=to) (by omega) hn3 hO3 hnd hwx (by omega))) ?_;rintro _ h5 ⟨v5,rfl,hn5,nx5⟩;refine⟨fun _=>nx5.ext.mono (fun b _ k=>k.elim .inl (fun k=>k.elim)),?_⟩;have hz5:=nx5.ext.size;have hown5:=hn5.own
         have hnew5:∀t,aR gQ (h5.push (.cells #[.int .i64 ((lay x ss to).2:Nat),.int .i64 (to:Nat)] t)) (fun b=>dJ nb v5 b\/O b) (.slice (some ⟨h5.size,0,none⟩) 2 2) [(lay x ss to).2,to]:=fun t=>ON t _ _ (by
          rintro((k1|k1)|k1)
          · omega
          · have:=hown5 _ k1.symm;omega
          · have:=hO3 _ k1;omega)
         refine ct 9 rfl (kI [_,_]) ?_;rintro _ _ ⟨rfl,rfl⟩;refine⟨fun _=>by first|exact Ext.push _ _ _|assumption,?_⟩;refine aS 10 rfl (fun h' e=>au (H.zk _ _ _) rfl) ?_;refine ct 11 rfl (aG rfl (lX (O:=O) (hn5.af (Ext.push _ _ _) (fun _ _ k=>k)) (fun b hb=>by have:=hO3 b hb;simp;omega) (hnew5 _) (by omega))) ?_;rintro _ h6 ⟨v6,rfl,hn6,nx6⟩;refine⟨fun _=>nx6.ext.mono (fun b _ k=>by rcases k with (k1|k1)|k1;(exact .inl (.inl k1));(rcases nx5.own b k1.symm with k2|k2;(exact .inl (.inr k2.symm));exact .inr k2);exact k1.elim),?_⟩;refine ax 12 ?_;refine dP ?_;refine aW ?_;exact⟨_,rfl,v6,rfl,hn6,((nx3.trans nx5 (fun _ _ k=>k)).trans (Nx.LH (Ext.push _ _ _)) (fun _ _ k=>k)).trans nx6 (fun _ _ k=>k)⟩
       · have h6k':¬k=6:=kk h6k;refine aa ?_;refine aQ (fun h4k=>?_) (fun h4k=>?_)
         · obtain rfl:k=4:=by omega
           have hone:kids.length=1:=by simp[rA] at hw;exact hw.1
           obtain⟨x,rfl⟩:∃x,kids=[x]:=by match kids,hone with| [x],_=>exact⟨x,rfl⟩
           have hkn1:kn=1:=by simpa using hkn.symm
           have hszx:mW x<=gG [x]:=by simp[gG]
           have hwx:rA x=true:=by simpa [rB] using hwl
           have hlay:lay (.mk 4 s [x]) ss to=((lay x (ss++[⟨0,0,[],0⟩]) ss.length).1.set ss.length ⟨0,0,[(lay x (ss++[⟨0,0,[],0⟩]) ss.length).2,to],0⟩,ss.length):=by rw[lay];simp[eN]
           rw[hlay];refine aa ?_;refine fH rfl (by simp) ?_;refine aa ?_;refine xp rfl (aA rfl (q3.cell (i:=0) rfl)) ?_;refine xp rfl (au (H.HM ) rfl) ?_;refine xo rfl (aG rfl (lX (O:=O) (to:=[]) hn3 hO3 (aR.nil _ _ _) (by omega))) ?_;rintro _ h5 ⟨v5,rfl,hn5,nx5⟩;have hz5:=nx5.ext.size;have hz0:=e03.size;have q3':=q3.ext nx5.ext (hnM _ (Nat.le_refl _));have q4':=q4.ext nx5.ext (hnM _ (by omega));have q5':=q5.ext nx5.ext (hnM _ (by omega));have hsl5:aR qj h5 (dJ nb v5) (.slice oa kn kc) [x]:=hsl3.mv nx5.LI;obtain⟨oa',n',c',hv',_,_,_,hget⟩:=id hsl5;cases hv';obtain⟨b,o,cs,ha,hob,hrow,hnd⟩:=hget 0 x rfl;obtain⟨w2,rfl,-⟩:=hnd.open;have hown5:=hn5.own
           have hnM5:∀b,h.size<=b->b<h3.size->¬(dJ nb v5 b\/h5.size<=b):=by
            rintro b hb hb' ((k1|k1)|k1)
            · omega
            · rcases nx5.own b k1.symm with k2|k2
              · have:=hown b k2;omega
              · omega
            · omega
           have hbM:¬(dJ nb v5 b\/h5.size<=b):=by
            rintro(k1|k1)
            · exact hob k1
            · have:=bS hrow (by simp[cP]);omega
           have m3:=hnM5 h.size (Nat.le_refl _) (by omega);have m4:=hnM5 h1.size (by omega) (by omega);refine aa ?_;refine uq 8 (fun b=>dJ nb v5 b\/Array.size h5<=b) (fun i=>Nat.blt i 8) ?_;refine aS 0 rfl (fun h' e=>aA rfl (e.cell m3 (q3'.cell (i:=0) rfl))) ?_;refine ax 1 ?_;refine aS 2 rfl (fun h' e=>aA rfl (e.cell m4 (q4'.cell (i:=5) rfl))) ?_;refine aS 3 rfl (fun h' e=>bT rfl rfl 0 rfl ha) ?_;refine aS 4 rfl (fun h' e=>bI rfl (e.rowAt hbM hrow)) ?_;refine ax 5 ?_;refine ct 6 rfl (aG rfl (ih (x:=x) (O:=O) (to:=ss.length) (by omega) hn5 (fun b hb=>by have:=hO3 b hb;omega) hnd hwx (by simp;omega))) ?_;rintro _ h6 ⟨v6,rfl,hn6,nx6⟩;refine⟨fun _=>nx6.ext.mono (fun b _ k=>k.elim .inl (fun k=>k.elim)),?_⟩;have hz6:=nx6.ext.size;have nx36:=nx5.trans nx6 (fun _ _ k=>k);have q3':=q3.ext nx36.ext (hnM _ (Nat.le_refl _));have q4':=q4.ext nx36.ext (hnM _ (by omega));have q5':=q5.ext nx36.ext (hnM _ (by omega));have hown6:=hn6.own;have hlen6:=iT x (ss++[⟨0,0,[],0⟩]) ss.length;rw[List.length_append,List.length_singleton] at hlen6;have hpre:(lay x (ss++[⟨0,0,[],0⟩]) ss.length).1[ss.length]? =some ⟨0,0,[],0⟩:=by rw[n8 x _ _ _ (by simp)];simp
           have hn6c:=hn6.blk.cell (i:=0) rfl
           have hnM6:∀b,h.size<=b->b<h3.size->¬(dJ nb v6 b\/h6.size<=b):=by
            rintro b hb hb' ((k1|k1)|k1)
            · omega
            · rcases nx36.own b k1.symm with k2|k2
              · have:=hown b k2;omega
              · omega
            · omega
           have hnew6:∀t,aR gQ (h6.push (.cells #[.int .i64 ((lay x (ss++[⟨0,0,[],0⟩]) ss.length).2:Nat),.int .i64 (to:Nat)] t)) (fun b=>b8 v6.ownBlock b\/b=nb\/O b) (.slice (some ⟨h6.size,0,none⟩) 2 2) [(lay x (ss++[⟨0,0,[],0⟩]) ss.length).2,to]:=fun t=>ON t _ _ (by
            rintro(k1|k1|k1)
            · have:=hown6 _ k1.symm;omega
            · omega
            · have:=hO3 _ k1;omega)
           generalize hout:lay x (ss++[⟨0,0,[],0⟩]) ss.length=out at *;have hn7:bD (h6.push (.cells #[.int .i64 (out.2:Nat),.int .i64 (to:Nat)] 3)) O nb v6 out.1 st:=hn6.af (Ext.push _ _ _) (fun _ _ k=>k);obtain⟨g,c6,cs6,hv6,hg1,hg2,hg3,hg4,hg5,hg6⟩:=hn7.row.put hpre;obtain⟨w6,rfl,_⟩:=hg5;subst hv6;have hput:=hg6 5 (.slice (some ⟨h6.size,0,none⟩) 2 2) ⟨0,0,[out.2,to],0⟩ (by decide) ⟨_,rfl,hnew6 _⟩;have hgb:h6.size=g\/g<h6.size:=by have:=hown6 g rfl;omega
           have hg6':g<h6.size:=(hown6 g rfl).2;have hcell7:cellAt (h6.push (.cells #[.int .i64 (out.2:Nat),.int .i64 (to:Nat)] 3)) ⟨g,0+ss.length*7+5,none⟩=some w6:=hg3 5 _ rfl;have m6:=hnM6 h1.size (by omega) (by omega);have j4:¬h1.size=g:=fun k=>m6 (.inl (.inr (by rw[k];rfl)))
           have j3:¬h6.size<=h.size:=by omega
           have j0:¬h6.size<=nb:=by omega
           have j5:¬h6.size<=h2.size:=by omega
           refine ax 7 ?_;refine dP ?_;refine aa ?_;refine uq 11 (fun b=>Array.size h6<=b) (fun i=>Nat.blt i 10) ?_;refine aS 0 rfl (fun h' e=>aA rfl (e.cell j3 (q3'.cell (i:=0) rfl))) ?_;refine ax 1 ?_;refine ax 2 ?_;refine aS 3 rfl (fun h' e=>aA rfl (e.cell j0 hn6c)) ?_;refine ax 4 ?_;refine ax 5 ?_;refine aS 6 rfl (fun h' e=>aA rfl (e.cell j5 (q5'.cell (i:=0) rfl))) ?_;refine ct 7 rfl (kI [_,_]) ?_;rintro _ _ ⟨rfl,rfl⟩;refine⟨fun _=>by first|exact Ext.push _ _ _|assumption,?_⟩;refine Ip 8 rfl (bT rfl rfl ss.length rfl rfl) ?_;refine ax 9 ?_;refine eK 10 rfl (bW H.kK rfl rfl rfl hcell7 (hg4 _)) ?_;rintro _ _ ⟨rfl,rfl⟩;refine⟨nofun,?_⟩;refine dP ?_;refine aa ?_;have hz7:∀u,(dD (h6.push (.cells #[.int .i64 (out.2:Nat),.int .i64 (to:Nat)] 3)) ⟨g,0+ss.length*7+5,none⟩ u).size=h6.size+1:=fun u=>by rw[iz];simp
           have ex7:∀u,Ext (fun b=>b=g) h6 (dD (h6.push (.cells #[.int .i64 (out.2:Nat),.int .i64 (to:Nat)] 3)) ⟨g,0+ss.length*7+5,none⟩ u):=fun u=>⟨by rw[hz7];omega,fun b hb hn=>by rw[(Ext.dD (M:=fun b=>b=g) _ _ u rfl).block b (by simp;omega) hn,(Ext.push (fun _=>False) h6 _).block b hb (fun k=>k)]⟩
           refine xp rfl (aA rfl ((q4'.ext (ex7 _) j4).cell (i:=0) rfl)) ?_;refine aa ?_;refine bV rfl (by decide) ?_;refine aa ?_;refine aW ?_;exact⟨_,rfl,_,rfl,⟨hn6.blk.ext (ex7 _) (by have:=hown6 g rfl;omega),hput⟩,((nx3.trans nx36 (fun _ _ k=>k)).trans ⟨(ex7 _).mono (fun b _ k=>.inl (.inr (by rw[k];rfl))),fun b k=>.inl k⟩ (fun _ _ k=>k))⟩
         · have h4k':¬k=4:=kk h4k;refine aa ?_;refine aQ (fun h5k=>?_) (fun h5k=>?_)
           · obtain rfl:k=5:=by omega
             have hone:kids.length=1:=by simp[rA] at hw;exact hw.1
             obtain⟨x,rfl⟩:∃x,kids=[x]:=by match kids,hone with| [x],_=>exact⟨x,rfl⟩
             have hkn1:kn=1:=by simpa using hkn.symm
             have hszx:mW x<=gG [x]:=by simp[gG]
             have hwx:rA x=true:=by simpa [rB] using hwl
             have hlay:lay (.mk 5 s [x]) ss to=((lay x (ss++[⟨0,0,[],0⟩]) ss.length).1.set ss.length ⟨0,0,[(lay x (ss++[⟨0,0,[],0⟩]) ss.length).2,to],0⟩,(lay x (ss++[⟨0,0,[],0⟩]) ss.length).2):=by rw[lay];simp[eN]
             rw[hlay];refine aa ?_;refine xp rfl (aA rfl (q3.cell (i:=0) rfl)) ?_;refine xp rfl (au (H.HM ) rfl) ?_;refine xo rfl (aG rfl (lX (O:=O) (to:=[]) hn3 hO3 (aR.nil _ _ _) (by omega))) ?_;rintro _ h5 ⟨v5,rfl,hn5,nx5⟩;have hz5:=nx5.ext.size;have hz0:=e03.size;have q3':=q3.ext nx5.ext (hnM _ (Nat.le_refl _));have q4':=q4.ext nx5.ext (hnM _ (by omega));have q5':=q5.ext nx5.ext (hnM _ (by omega));have hsl5:aR qj h5 (dJ nb v5) (.slice oa kn kc) [x]:=hsl3.mv nx5.LI;obtain⟨oa',n',c',hv',_,_,_,hget⟩:=id hsl5;cases hv';obtain⟨b,o,cs,ha,hob,hrow,hnd⟩:=hget 0 x rfl;obtain⟨w2,rfl,-⟩:=hnd.open;have hown5:=hn5.own
             have hnM5:∀b,h.size<=b->b<h3.size->¬(dJ nb v5 b\/h5.size<=b):=by
              rintro b hb hb' ((k1|k1)|k1)
              · omega
              · rcases nx5.own b k1.symm with k2|k2
                · have:=hown b k2;omega
                · omega
              · omega
             have hbM:¬(dJ nb v5 b\/h5.size<=b):=by
              rintro(k1|k1)
              · exact hob k1
              · have:=bS hrow (by simp[cP]);omega
             have m3:=hnM5 h.size (Nat.le_refl _) (by omega);have m4:=hnM5 h1.size (by omega) (by omega);refine aa ?_;refine uq 8 (fun b=>dJ nb v5 b\/Array.size h5<=b) (fun i=>Nat.blt i 8) ?_;refine aS 0 rfl (fun h' e=>aA rfl (e.cell m3 (q3'.cell (i:=0) rfl))) ?_;refine ax 1 ?_;refine aS 2 rfl (fun h' e=>aA rfl (e.cell m4 (q4'.cell (i:=5) rfl))) ?_;refine aS 3 rfl (fun h' e=>bT rfl rfl 0 rfl ha) ?_;refine aS 4 rfl (fun h' e=>bI rfl (e.rowAt hbM hrow)) ?_;refine ax 5 ?_;refine ct 6 rfl (aG rfl (ih (x:=x) (O:=O) (to:=ss.length) (by omega) hn5 (fun b hb=>by have:=hO3 b hb;omega) hnd hwx (by simp;omega))) ?_;rintro _ h6 ⟨v6,rfl,hn6,nx6⟩;refine⟨fun _=>nx6.ext.mono (fun b _ k=>k.elim .inl (fun k=>k.elim)),?_⟩;have hz6:=nx6.ext.size;have nx36:=nx5.trans nx6 (fun _ _ k=>k);have q3':=q3.ext nx36.ext (hnM _ (Nat.le_refl _));have q4':=q4.ext nx36.ext (hnM _ (by omega));have q5':=q5.ext nx36.ext (hnM _ (by omega));have hown6:=hn6.own;have hlen6:=iT x (ss++[⟨0,0,[],0⟩]) ss.length;rw[List.length_append,List.length_singleton] at hlen6;have hpre:(lay x (ss++[⟨0,0,[],0⟩]) ss.length).1[ss.length]? =some ⟨0,0,[],0⟩:=by rw[n8 x _ _ _ (by simp)];simp
             have hn6c:=hn6.blk.cell (i:=0) rfl
             have hnM6:∀b,h.size<=b->b<h3.size->¬(dJ nb v6 b\/h6.size<=b):=by
              rintro b hb hb' ((k1|k1)|k1)
              · omega
              · rcases nx36.own b k1.symm with k2|k2
                · have:=hown b k2;omega
                · omega
              · omega
             have hnew6:∀t,aR gQ (h6.push (.cells #[.int .i64 ((lay x (ss++[⟨0,0,[],0⟩]) ss.length).2:Nat),.int .i64 (to:Nat)] t)) (fun b=>b8 v6.ownBlock b\/b=nb\/O b) (.slice (some ⟨h6.size,0,none⟩) 2 2) [(lay x (ss++[⟨0,0,[],0⟩]) ss.length).2,to]:=fun t=>ON t _ _ (by
              rintro(k1|k1|k1)
              · have:=hown6 _ k1.symm;omega
              · omega
              · have:=hO3 _ k1;omega)
             generalize hout:lay x (ss++[⟨0,0,[],0⟩]) ss.length=out at *;have hn7:bD (h6.push (.cells #[.int .i64 (out.2:Nat),.int .i64 (to:Nat)] 3)) O nb v6 out.1 st:=hn6.af (Ext.push _ _ _) (fun _ _ k=>k);obtain⟨g,c6,cs6,hv6,hg1,hg2,hg3,hg4,hg5,hg6⟩:=hn7.row.put hpre;obtain⟨w6,rfl,_⟩:=hg5;subst hv6;have hput:=hg6 5 (.slice (some ⟨h6.size,0,none⟩) 2 2) ⟨0,0,[out.2,to],0⟩ (by decide) ⟨_,rfl,hnew6 _⟩;have hgb:h6.size=g\/g<h6.size:=by have:=hown6 g rfl;omega
             have hg6':g<h6.size:=(hown6 g rfl).2;have hcell7:cellAt (h6.push (.cells #[.int .i64 (out.2:Nat),.int .i64 (to:Nat)] 3)) ⟨g,0+ss.length*7+5,none⟩=some w6:=hg3 5 _ rfl;have m6:=hnM6 h1.size (by omega) (by omega);have j4:¬h1.size=g:=fun k=>m6 (.inl (.inr (by rw[k];rfl)))
             have j3:¬h6.size<=h.size:=by omega
             have j0:¬h6.size<=nb:=by omega
             have j5:¬h6.size<=h2.size:=by omega
             refine ax 7 ?_;refine dP ?_;refine aa ?_;refine uq 11 (fun b=>Array.size h6<=b) (fun i=>Nat.blt i 10) ?_;refine aS 0 rfl (fun h' e=>aA rfl (e.cell j3 (q3'.cell (i:=0) rfl))) ?_;refine ax 1 ?_;refine ax 2 ?_;refine aS 3 rfl (fun h' e=>aA rfl (e.cell j0 hn6c)) ?_;refine ax 4 ?_;refine ax 5 ?_;refine aS 6 rfl (fun h' e=>aA rfl (e.cell j5 (q5'.cell (i:=0) rfl))) ?_;refine ct 7 rfl (kI [_,_]) ?_;rintro _ _ ⟨rfl,rfl⟩;refine⟨fun _=>by first|exact Ext.push _ _ _|assumption,?_⟩;refine Ip 8 rfl (bT rfl rfl ss.length rfl rfl) ?_;refine ax 9 ?_;refine eK 10 rfl (bW H.kK rfl rfl rfl hcell7 (hg4 _)) ?_;rintro _ _ ⟨rfl,rfl⟩;refine⟨nofun,?_⟩;refine dP ?_;refine aa ?_;have hz7:∀u,(dD (h6.push (.cells #[.int .i64 (out.2:Nat),.int .i64 (to:Nat)] 3)) ⟨g,0+ss.length*7+5,none⟩ u).size=h6.size+1:=fun u=>by rw[iz];simp
             have ex7:∀u,Ext (fun b=>b=g) h6 (dD (h6.push (.cells #[.int .i64 (out.2:Nat),.int .i64 (to:Nat)] 3)) ⟨g,0+ss.length*7+5,none⟩ u):=fun u=>⟨by rw[hz7];omega,fun b hb hn=>by rw[(Ext.dD (M:=fun b=>b=g) _ _ u rfl).block b (by simp;omega) hn,(Ext.push (fun _=>False) h6 _).block b hb (fun k=>k)]⟩
             refine xp rfl (aA rfl ((q4'.ext (ex7 _) j4).cell (i:=0) rfl)) ?_;refine aa ?_;refine fH rfl (by decide) ?_;refine aa ?_;refine aW ?_;exact⟨_,rfl,_,rfl,⟨hn6.blk.ext (ex7 _) (by have:=hown6 g rfl;omega),hput⟩,((nx3.trans nx36 (fun _ _ k=>k)).trans ⟨(ex7 _).mono (fun b _ k=>.inl (.inr (by rw[k];rfl))),fun b k=>.inl k⟩ (fun _ _ k=>k))⟩
           · have h5k':¬k=5:=kk h5k;have hlay:lay (.mk k s kids) ss to=(ss,to):=by rw[lay];simp[h1k',h2k',h3k',h4k',h5k',h6k']
             rw[hlay];refine aa ?_;refine xp rfl (aA rfl (q5.cell (i:=0) rfl)) ?_;refine aa ?_;refine aW ?_;exact⟨_,rfl,v,rfl,hn3,nx3⟩
theorem GV:∀n,H8 n
 | 0=>by
  intro hs;have:=Dv ‹Nd›;omega
 |n+1=>GW (GV n)
def I4:fS By:=.flat (fun s=>.string (bs s)) fun _=>rfl
def wF (h h':ai) (rules:List By) (r:Value):Prop :=
 match fV rules with
 |.inl e=>r= .tuple #[.pointer none,.int .i64 e]
 |.inr (ss,st)=>∃nb v,r= .tuple #[.pointer (some ⟨nb,0,none⟩),.int .i64 0]/\h.size<=nb/\bD h' (fun b=>b<h.size) nb v ss st
theorem HU {O:Nat->Prop}{nb:Nat}{v:Value}{ss:List cL}{st:Nat}(i:Nat) (hn:bD h O nb v ss st) (hO:∀b,O b->b<h.size) (hl:ss.length<=1000000) :
 aj Tryz.prog 209 #[.pointer (some ⟨nb,0,none⟩),.agg #[.int .i64 2,.int .u64 0,.int .u64 0,.int .u64 0,.int .u64 0,.slice none 0 0,.int .i64 (i:Nat)]] h (aN (Jx O nb h v st (ss++[⟨2,0,[],i⟩],ss.length))):=by
 have h1:=zm (x:=⟨2,0,[],i⟩) hn hO ⟨.slice none 0 0,rfl,aR.nil _ _ _⟩ hl;simp only[Ex,Kf] at h1;exact h1
theorem Cw {lim:Nat}(hg:Sg h lim) (hlim:lim<=h.size){rv:Value}{rules:List By}(hr:aR I4 h (fun _=>False) rv rules) (hrl:∀s∈rules,s.length<=1000000) :
 aj Tryz.prog 154 #[rv] h (aN fun r h'=>wF h h' rules r/\ah h h'):=by
 obtain⟨oa,kn,kc,rfl,hsl⟩:=id hr.open;have hkn:=hsl.len;have hkc:=hsl.le;have hcap:=hsl.cap;generalize htgt:sE 0 rules [] []=tgt;refine bf ?_;refine aI ?_;refine bU ?_
 iterate 2 refine aU ?_
 refine bJ ?_
 iterate 2 refine aI ?_
 refine dM [(18,.bool (decide (kn=0\/64<kn)))] rfl ?_ ?_
 · refine aa ?_;refine dx 14 (fun hg=>?_) (fun hg=>?_)
   · refine aa ?_;exact aL rfl ⟨ak rfl (by have:=of_decide_eq_true hg;simp;omega),sb rfl⟩
   · refine aa ?_;exact aL rfl ⟨ak rfl (by have:=of_decide_eq_false hg;simp only[decide_eq_decide];omega),sb rfl⟩
 · refine aQ (fun hbig=>?_) (fun hbig=>?_)
   · refine aa ?_;refine aW ?_;refine⟨_,rfl,?_,av _ _⟩;have:fV rules= .inl 2:=by unfold fV;rw[if_pos (show rules.length=0\/64<rules.length by omega)]
     rw[wF,this];rfl
   · have hmk:fV rules=match sE 0 rules [] [] with|.inl e=>.inl e|.inr (ss,t)=>if 2000<uy rules then .inl 70 else .inr (ss++[⟨0,0,t,0⟩],ss.length):=by unfold fV;rw[if_neg (show ¬(rules.length=0\/64<rules.length) by omega)]<;>rfl
     rw[htgt] at hmk;refine aa ?_;refine xp rfl (au (H.Ll ) rfl) ?_;refine xo rfl (cM) ?_;rintro _ h1 ⟨rfl,q4,e1,z1⟩;have q4:az h1 h.size 314 [.slice none 0 0,.int .i64 (0:Nat)]:=q4;have hn1:bD h1 (fun b=>b<h.size) h.size (.slice none 0 0) [] 0:=⟨q4,eY.nil _ _ _ _ _⟩
     refine aa ?_;refine eR (σ:=Nat×Value) (fun p=>[(5,p.2),(6,.int .i64 (uy (rules.take p.1):Nat)),(23,.int .i64 (p.1:Nat))]) (fun p h'=>p.1<=kn/\∃v ss t,bD h' (fun b=>b<h.size\/b8 p.2.ownBlock b) h.size v ss 0/\eY gQ (fun _=>True) h' h1.size 3 p.2 t/\Nx (fun _=>False) h.size h1 (.slice none 0 0) h' v/\(∀b,p.2.ownBlock=some b->v.ownBlock≠some b)/\(ss.length<=402*p.1/\uy (rules.take p.1)<=200*p.1/\t.length=p.1)/\sE p.1 (rules.drop p.1) ss t=tgt) (fun p=>kn-p.1) ((0,.slice none 0 0)) ⟨Nat.zero_le _,_,[],[],hn1.af (av _ _) (fun b _ k=>k.elim id (fun k=>by cases k)),eY.nil _ _ _ _ _,rj,fun b hb=>(by cases hb),⟨Nat.zero_le _,by simp[uy],rfl⟩,htgt⟩ rfl ?_;rintro⟨i,tv⟩ g0 ⟨hi,v,ss,t,hng,htg,nxg,hdist,⟨hss,htot,htl⟩,hcon⟩ ih
     try dsimp only
     dsimp only at hi hng htg nxg hdist hss htot htl hcon;have hz0:=nxg.ext.size;have htv:∀b,tv.ownBlock=some b->h1.size<=b/\b<g0.size:=fun b hb=>by obtain⟨_,_,k,_⟩:=id htg;exact k.lt hb
     have e0g:ah h g0:=⟨by omega,fun b hb _=>(nxg.ext.block b (by omega) (by
      rintro((k|k)|k)
      · omega
      · cases k
      · exact k)).trans (e1.block b hb (fun k=>k))⟩
     have hown:=hng.own;have hnlt:=hng.blk.lt;refine aa ?_;refine aQ (fun hlt=>?_) (fun hlt=>?_)
     · obtain⟨s,hs⟩:∃s,rules[i]? =some s:=⟨_,List.getElem?_eq_getElem (by omega)⟩
       have hdr:rules.drop i=s::rules.drop (i+1):=by
        obtain⟨hi',rfl⟩:=List.getElem?_eq_some_iff.1 hs;exact List.drop_eq_getElem_cons hi'
       rw[hdr,sE] at hcon;obtain⟨oa',n',c',hv',_,_,_,hget⟩:=id (hr.af e0g);cases hv';obtain⟨b,o,cs,ha,hob,hrow,rfl⟩:=hget i s hs
       iterate 4 refine aI ?_
       refine bU ?_;refine aU ?_;refine xp rfl (bT rfl rfl i rfl ha) ?_;refine xp rfl (aA rfl (hrow 0 _ rfl)) ?_;refine aa ?_;refine xo rfl (aG rfl (Ax (hg.ext e0g (fun _ k=>k.elim)) (by omega) s (hrl s (List.mem_of_getElem? hs)))) ?_;rintro _ g1 ⟨⟨w,rfl,hnd⟩,e01⟩;refine aa ?_;refine xo rfl (cC) ?_;rintro _ g2 ⟨rfl,k9,e12,z12⟩;refine aY rfl (bM rfl rfl k9 (bw.one hnd)) ?_;rintro _ g3 ⟨rfl,k9',e23,z23⟩;refine aa ?_;have k9':az g3 g1.size 318 (cP (b6 s).1.kind (b6 s).1.set w):=k9';refine aQ (fun herr=>?_) (fun herr=>?_)
       · rw[if_pos (by exact herr)] at hcon;refine aa ?_;refine aW ?_;have e3:ah h g3:=(e0g.trans e01).trans (e12.only e23 (Nat.le_refl _));refine⟨_,rfl,?_,e3⟩;rw[<-hcon] at hmk;rw[wF,hmk];rfl
       · have h0:(b6 s).2=0:=by simpa using herr
         rw[if_neg (by simpa using h0)] at hcon;have hsmall:=xP h0;have hbs:=aC s;have ecc:ah g1 g3:=e12.only e23 (Nat.le_refl _);have e03:ah g0 g3:=e01.trans ecc;have hz1:=e01.size;have hz3:=ecc.size;have hz13:g1.size<g3.size:=by omega
         iterate 2 refine aI ?_
         refine dM [(6,.int .i64 (uy (rules.take (i+1)):Nat))] rfl ?_ ?_
         · refine aa ?_;exact aL rfl ⟨(by show some (Value.int _ _)=some (Value.int _ _);rw[vF hs];congr 2),sb rfl⟩
         · have hn3:bD g3 (fun b=>b<h.size\/b8 tv.ownBlock b) h.size v ss 0:=hng.af e03 (fun _ _ k=>k);have hO3:∀b,(b<h.size\/b8 tv.ownBlock b)->b<g3.size:=fun b hb=>by rcases hb with k|k;omega;(have:=htv b k.symm;omega)
           have hnd3:bw g3 (dJ h.size v) (cP (b6 s).1.kind (b6 s).1.set w) (b6 s).1:=hnd.mv ⟨ecc.size,fun b hb hn=>⟨ecc.block b hb (fun k=>k),by
            rintro(k|k)
            · exact hn (by show b<g0.size;omega)
            · exact hn (by show b<g0.size;exact(hown b k.symm).2)⟩⟩
           have hK1:¬(dJ h.size v g1.size\/False):=by
            rintro((k|k)|k)
            · omega
            · have:=hown _ k.symm;omega
            · exact k
           refine uq 11 (fun b=>¬b=Array.size g1) (fun i=>Nat.blt i 11) ?_;refine ax 0 ?_;refine ax 1 ?_;refine aS 2 rfl (fun h' e=>bI rfl (e.rowAt (fun k=>k rfl) k9'.row)) ?_;refine ax 3 ?_;refine ax 4 ?_;refine aS 5 rfl (fun h' e=>au (H.Fm _ _) rfl) ?_;refine ct 6 rfl (aG rfl (HU i hn3 hO3 (by omega))) ?_;rintro _ g4 ⟨v4,rfl,hn4,nx4⟩;refine⟨fun _=>nx4.ext.mono (fun b _ k e=>hK1 (e▸k)),?_⟩;have hz4:=nx4.ext.size
           have hK2:¬(dJ h.size v4 g1.size\/False):=by
            rintro((k|k)|k)
            · omega
            · rcases nx4.own _ k.symm with k2|k2
              · exact hK1 (.inl (.inr k2.symm))
              · omega
            · exact k
           refine ct 7 rfl (aG rfl (GV 401 (x:=(b6 s).1) (to:=ss.length) hsmall.1 hn4 (fun b hb=>by have:=hO3 b hb;omega) (hnd3.mv nx4.LI) hsmall.2.1 (by have:=hsmall.1;simp only[List.length_append,List.length_singleton];omega))) ?_;rintro _ g5 ⟨v5,rfl,hn5,nx5⟩;refine⟨fun _=>nx5.ext.mono (fun b _ k e=>hK2 (e▸k)),?_⟩;have hz5:=nx5.ext.size;have nx45:Nx (fun _=>False) h.size g3 v g5 v5:=nx4.trans nx5 (fun _ _ k=>k)
           have ht5:eY gQ (fun _=>True) g5 h1.size 3 tv t:=(htg.af e03).EO nx45.ext (fun b hb=>by
            rintro((k1|k1)|k1)
            · have:=htv b hb;omega
            · exact hdist b hb k1.symm
            · exact k1) (fun _ _ _=>trivial) (fun _ _ _=>trivial)
           obtain⟨css,hc1,hc2,hc3⟩:=id ht5;have hKt:¬b8 tv.ownBlock g1.size:=fun k=>by have:=htv _ k.symm;omega
           refine ct 8 rfl (kI [_]) ?_;rintro _ _ ⟨rfl,rfl⟩;refine⟨fun _=>by first|exact Ext.push _ _ _|assumption,?_⟩;refine ct 9 rfl (Dr rfl rfl hc2 rfl rfl) ?_;rintro t6 g6 ⟨ho6,hx6,hx6',hv6⟩;refine⟨fun _=>hx6'.mono (fun b _ k e=>hKt (e▸k)),?_⟩;refine ax 10 ?_;refine dP ?_;refine aa ?_;have ht6:=eY.mZ hc1 hc3 ho6 hx6 hv6 (y:=(lay (b6 s).1 (ss++[(⟨2,0,[],i⟩:cL)]) ss.length).2) rfl
           have hn6:bD g6 (fun b=>b<h.size\/b8 t6.ownBlock b) h.size v5 (lay (b6 s).1 (ss++[⟨2,0,[],i⟩]) ss.length).1 0:=hn5.ext hx6 (fun k=>by have:=htv _ k.symm;omega) (fun b hb k=>by
            rcases nx45.own b hb with k'|k'
            · exact hdist b k.symm k'
            · have:=htv b k.symm;omega) (fun b _ k=>.inr k) (fun b hb k=>k.imp id (fun k=>by
              rcases hv6 b k.symm with k'|k'
              · exact k'.symm
              · omega))
           have hd6:∀b,t6.ownBlock=some b->v5.ownBlock≠some b:=fun b hb k=>by
            rcases hv6 b hb with k'|k'
            · rcases nx45.own b k with k2|k2
              · exact hdist b k' k2
              · have:=htv b k';omega
            · have:=(hn5.own b k).2;omega
           have nx05:Nx (fun _=>False) h.size h1 (.slice none 0 0) g5 v5:=(nxg.trans (Nx.LH e03) (fun _ _ k=>k)).trans nx45 (fun _ _ k=>k);have nx06:Nx (fun _=>False) h.size h1 (.slice none 0 0) g6 v5:=⟨⟨by have:=hx6.size;omega,fun b hb hn=>by rw[hx6.block b (by omega) (fun k=>by have:=htv b k.symm;omega)];exact nx05.ext.block b hb hn⟩,nx05.own⟩
           have hlenl:=(iT (b6 s).1 (ss++[⟨2,0,[],i⟩]) ss.length).2;rw[List.length_append,List.length_singleton] at hlenl;have htt:=vF hs;exact ih (i+1,t6) ⟨by show i+1<=kn;omega,v5,_,_,hn6,ht6,nx06,hd6,⟨by have:=hsmall.1;show _<=402*(i+1);omega,by have:=hsmall.2.2;show uy (rules.take (i+1))<=200*(i+1);omega,by simp[htl]⟩,hcon⟩
     · obtain rfl:i=kn:=by omega
       have hall:rules.take i=rules:=List.take_of_length_le (by omega);have hnil:rules.drop i=[]:=List.drop_of_length_le (by omega);rw[hnil,sE] at hcon;rw[<-hcon] at hmk;rw[hall] at htot;simp only[hall];refine aa ?_;refine aQ (fun hbig2=>?_) (fun hbig2=>?_)
       · refine aa ?_;refine aW ?_;refine⟨_,rfl,?_,e0g⟩;have:fV rules= .inl 70:=by rw[hmk];exact if_pos (by omega)
         rw[wF,this];rfl
       · have hmk2:fV rules= .inr (ss++[⟨0,0,t,0⟩],ss.length):=by rw[hmk];exact if_neg (by omega)
         have hrd:aR gQ g0 (fun b=>dJ h.size v b\/b<h.size) tv t:=htg.Gp (fun b hb=>by
          rintro((k1|k1)|k1)
          · have:=htv b hb;omega
          · exact hdist b hb k1.symm
          · have:=htv b hb;omega) (fun _ _ _=>trivial)
         obtain⟨oa9,n9,c9,rfl,_⟩:=id hrd;refine aa ?_;refine xp rfl (au (H.zk _ _ _) rfl) ?_;refine xo rfl (aG rfl (lX (O:=fun b=>b<h.size) (to:=t) (hng.af (av _ _) (fun b _ k=>.inl k)) (fun b hb=>by omega) hrd (by omega))) ?_;rintro _ g4 ⟨v4,rfl,hn4,nx4⟩;refine aa ?_;refine aY rfl (b7 rfl rfl hn4.blk) ?_;rintro _ g5 ⟨rfl,hk5,hx5,hz5⟩;refine aa ?_;refine aW ?_;have hn5:bD g5 (fun b=>b<h.size) h.size v4 (ss++[⟨0,0,t,0⟩]) ss.length:=⟨hk5,hn4.row.EO hx5 (fun b hb k=>by have:=(hn4.own b hb).1;omega) (fun b _ k=>.inl k) (fun b _ k=>k)⟩
         have e4:ah h g5:=⟨by have:=hx5.size;have:=nx4.ext.size;omega,fun b hb _=>by
          rw[hx5.block b (by have:=nx4.ext.size;omega) (by omega),nx4.ext.block b (by omega) ?_]
          · exact e0g.block b hb (fun k=>k)
          · rintro((k|k)|k)
            · omega
            · rcases nxg.own b k.symm with k2|k2
              · cases k2
              · omega
            · exact k⟩
         refine⟨_,rfl,?_,e4⟩;rw[wF,hmk2];exact⟨h.size,v4,rfl,Nat.le_refl _,hn5⟩
theorem ng {O:Nat->Prop}{nb:Nat}{v:Value}{ss:List cL}{st:Nat}(hn:bD h O nb v ss st):aj Tryz.prog 270 #[.pointer (some ⟨nb,0,none⟩)] h (aN fun r h'=>r= .bool (decide (ss.length=0))/\h'=h):=by
 obtain⟨css,hc1,hc2,hc3⟩:=id hn.row;obtain⟨oa,c,rfl,_⟩:=hc2.open;refine bf ?_;refine aI ?_;refine bU ?_;refine aU ?_;refine bJ ?_;refine aI ?_;refine dM [(2,.bool (decide (ss.length=0)))] rfl ?_ ?_
 · refine aU ?_;refine xp rfl (an.gp underlying243 rfl rfl) ?_;refine aa ?_;refine RW.aO (d:=5) (b':=false) rfl (rfl) ?_;refine aa ?_;refine xp rfl (aA rfl (hn.blk.cell (i:=0) rfl)) ?_;refine aa ?_;exact aL rfl ⟨ak rfl (by simp only[decide_eq_decide];omega),sb rfl⟩
 · refine aW ?_;exact⟨_,rfl,rfl,rfl⟩
end
end Go.Proofs.YtckomlgchbkekaaGreatDoor
namespace Go.Proofs.YtckomlgchbkekaaGreatDoor
open Go Go.Lw
set_option maxRecDepth 20000
section
variable {h:ai}
theorem GA {base:Nat}{t:TypeId}{v:Value}{todo:List Nat}{m:Nat}(k:bF cJ h base t v todo) (hm:todo.length=m+1) :
 ∃g c x,v= .slice (some ⟨g,0,none⟩) (m+1) c/\m+1<=c/\g<h.size/\base<=g/\cellAt h ⟨g,0+m*1,none⟩=some (.int .i64 (x:Nat))/\todo=todo.dropLast++[x] /\
  bF cJ h base t (.slice (aP (some ⟨g,0,none⟩) 0 1 c) m c) todo.dropLast/\(Value.slice (aP (some ⟨g,0,none⟩) 0 1 c) m c).ownBlock=some g:=by
 have k':ay h base t 1 v todo.length (todo.map cJ):=k;obtain⟨oa,c,rfl,ho⟩:=k'.open;have hne:todo≠[]:=by intro e;rw[e] at hm;cases hm
 have hlast:todo=todo.dropLast++[todo.getLast hne]:=(List.dropLast_concat_getLast hne).symm
 have hx:(todo.map cJ)[m]? =some (cJ (todo.getLast hne)):=by
  rw[List.getElem?_map,List.getLast_eq_getElem,List.getElem?_eq_getElem (by omega)];simp[hm]
 obtain⟨g,rfl,hb,hlt,hc,_⟩:=ho.at hx;have ht:=ho.take (m:=m) (by omega) 1
 have hd:(todo.map cJ).take (m*1)=todo.dropLast.map cJ:=by
  rw[Nat.mul_one,List.dropLast_eq_take,hm,Nat.add_sub_cancel,List.map_take]
 rw[hd] at ht;refine⟨g,c,todo.getLast hne,by rw[hm],by have:=ho.le;omega,hlt,hb,hc,hlast,?_,?_⟩
 · have hl:todo.dropLast.length=m:=by simp[hm]
   unfold bF;rw[hl];exact ht
 · unfold aP;split<;>simp[Value.ownBlock,Addr.add]
theorem bD.get {O:Nat->Prop}{nb:Nat}{v:Value}{ss:List cL}{st i:Nat}{x:cL}(k:bD h O nb v ss st) (hx:ss[i]? =some x) :
 ∃g c w,v= .slice (some ⟨g,0,none⟩) ss.length c/\g<h.size/\Lw.rowAt h g (0+i*7) (Ex x.kind x.set w x.rule)/\aR gQ h (fun b=>b8 v.ownBlock b\/b=nb\/O b) w x.to:=by
 obtain⟨g,c,cs,rfl,_,hg,hrow,_,⟨w,rfl,hw⟩,_⟩:=k.row.put hx;exact⟨g,c,w,rfl,hg,hrow,hw⟩
theorem BG {O:Nat->Prop}{oa:Option Addr}{n c:Nat}{xs:List Nat}(k:aR gQ h O (.slice oa n c) xs):xs.length=n/\(n=0\/∃b o,oa=some ⟨b,o,none⟩/\Lw.rowAt h b o (xs.map cJ))/\n<=maxLen:=by
 obtain⟨oa',n',c',hv,hl,hc,hm,hg⟩:=k;cases hv;have hs:Sl gQ h O oa n c xs:=⟨hl,hc,hm,hg⟩
 exact⟨hl,Sl.row hs,by omega⟩
end
end Go.Proofs.YtckomlgchbkekaaGreatDoor
namespace Go.Proofs.YtckomlgchbkekaaGreatDoor
open Go.Proofs.Tryz
open Go Go.Lw
set_option maxRecDepth 20000 set_option maxHeartbeats 4000000
section
variable {ss:List cL}{n nb st:Nat}{todo:List Nat}{seen:List Bool}{h:ai}{O:Nat->Prop}{v:Value}
theorem CZ {i:Nat}(ht:todo.getLast? =some i) (hs:seen[i]? =some true):jz ss (n+1) todo seen=jz ss n todo.dropLast seen:=by
 rw[jz,ht];simp[hs]
theorem Fh {i:Nat}{x:cL}(ht:todo.getLast? =some i) (hs:seen[i]? =some false) (hx:ss[i]? =some x):jz ss (n+1) todo seen=jz ss n (if x.kind=0 then todo.dropLast++x.to else todo.dropLast) (seen.set i true):=by
 rw[jz,ht];simp[hs,hx]
theorem Fg:jz ss n [] seen=seen:=by cases n<;>simp[jz]
def FH (ss:List cL) (seen:List Bool) (i:Nat):Bool:=seen[i]? ==some true && (ss[i]?.map (·.kind)) !=some 0
theorem oz {tv:Value}{base:Nat}{tb:Option Nat}(hn:bD h O nb v ss st) (hgood:Good ss) (hss:ss.length<=1000000) (htd:bF cJ h base 3 tv todo) (htb:tv.ownBlock=tb)
 (hbase:base<=h.size) (hOt:∀b,tb=some b->O b/\b≠nb/\v.ownBlock≠some b) (hlt:∀j∈todo,j<ss.length) (hpot:todo.length+rV ss (List.replicate ss.length false)<=1000000) :
 aj Tryz.prog 271 #[.pointer (some ⟨nb,0,none⟩),tv] h (aN fun r h'=>bF cJ h' h.size 3 r (closed ss todo)/\Ext (b8 tb) h h'):=by
 obtain⟨css,hc1,hc2,hc3⟩:=id hn.row;obtain⟨va,vc,rfl,_⟩:=hc2.open
 have htl:tb=none\/∃b,tb=some b/\b<h.size:=by
  cases tb with
  |none=>exact .inl rfl
  |some b=>exact .inr ⟨b,rfl,(ay.lt htd htb).2⟩
 obtain⟨oa,c,rfl,_⟩:=(show ay h base 3 1 tv todo.length (todo.map cJ) from htd).open;generalize htgt:jz ss (todo.length+rV ss (List.replicate ss.length false)) todo (List.replicate ss.length false)=tgt;refine bf ?_;refine aa ?_;refine aQ (fun hz=>?_) (fun hz=>?_)
 · refine aa ?_;refine aW ?_;have:closed ss todo=[]:=by unfold closed;rw[if_pos (by omega)]
   rw[this];exact⟨_,rfl,bF.nil _ _ _ _,av _ _⟩
 · refine aa ?_;refine xp rfl (aA rfl (hn.blk.cell (i:=0) rfl)) ?_;refine aa ?_;refine xo rfl (aH.nX underlying167 H.Pf H.OG rfl rfl rfl (by omega) (by decide)) ?_;rintro _ h1 ⟨rfl,hk1,e1⟩;refine aa ?_;refine eR (σ:=Nat×Value×List Nat×List Bool) (fun q=>[(1,q.2.1)]) (fun q h'=>Ext (b8 tb) h h'/\bF cJ h' base 3 q.2.1 q.2.2.1/\(∀b,q.2.1.ownBlock=some b->tb=some b\/h1.size<=b)/\ay h' h.size 4 1 (.slice (some ⟨h.size,0,none⟩) ss.length ss.length) ss.length (q.2.2.2.map .bool)/\q.2.2.2.length=ss.length/\(∀j∈q.2.2.1,j<ss.length)/\(q.2.2.1.length+rV ss q.2.2.2<=q.1/\q.1<=1000000/\h1.size<=h'.size)/\jz ss q.1 q.2.2.1 q.2.2.2=tgt) (fun q=>q.1) ((todo.length+rV ss (List.replicate ss.length false),.slice oa todo.length c,todo,List.replicate ss.length false)) ⟨e1.mono fun _ _ k=>k.elim,ay.DY htd e1,fun b hb=>.inl (htb.symm.trans hb),by simpa using hk1,by simp,hlt,⟨Nat.le_refl _,hpot,Nat.le_refl _⟩,htgt⟩ rfl ?_;rintro⟨n,dv,td,seen⟩ g ⟨eg,hd,hdo,hs,hsl,hlt',⟨hp,hn1,hgz⟩,hcon⟩ ih
   try dsimp only
   dsimp only at hd hdo hs hsl hlt' hp hn1 hcon;have hz1:h.size<h1.size:=by have:=(ay.lt hk1 rfl).2;exact this
   have hsow:=hs.open;obtain⟨sa,sc,hsv,hsow⟩:=hsow;cases hsv
   rcases Nat.eq_zero_or_pos td.length with hpos|hpos
   · obtain rfl:td=[]:=List.eq_nil_of_length_eq_zero hpos;obtain⟨oad,cd,rfl,_⟩:=(show ay g base 3 1 dv ([]:List Nat).length (([]:List Nat).map cJ) from hd).open;rw[Fg] at hcon;refine aa ?_;refine bV rfl (by simp) ?_;have hnc:∀{h':ai},Ext (b8 tb) h h'->bD h' O nb (.slice va ss.length vc) ss st:=fun e=>hn.ext e (fun k=>(hOt nb k.symm).2.1 rfl) (fun b hb k=>(hOt b k.symm).2.2 hb) (fun b _ k=>(hOt b k.symm).1) (fun _ _ k=>k)
     have hcl:closed ss todo=(List.range ss.length).filter (FH ss seen):=by
      unfold closed;rw[if_neg (by omega),htgt,<-hcon];rfl
     refine aa ?_;refine eR (σ:=Nat×Value) (fun q=>[(7,q.2),(61,.int .i64 (q.1:Nat))]) (fun q h'=>q.1<=ss.length/\ah g h'/\bF cJ h' g.size 3 q.2 ((List.range q.1).filter (FH ss seen))) (fun q=>ss.length-q.1) ((0,.slice none 0 0)) ⟨Nat.zero_le _,av _ _,bF.nil _ _ _ _⟩ rfl ?_;rintro⟨i,ov⟩ g2 ⟨hi,e2,ho2⟩ ih2
     try dsimp only
     dsimp only at hi ho2;have eg2:Ext (b8 tb) h g2:=eg.trans (e2.mono fun _ _ k=>k.elim);have hn2:=hnc eg2;have hz2:=e2.size;refine aa ?_;refine aQ (fun hlti=>?_) (fun hlti=>?_)
     · have hil:i<ss.length:=by omega
       obtain⟨bx,hbx⟩:∃bx,seen[i]? =some bx:=⟨_,List.getElem?_eq_getElem (by omega)⟩
       obtain⟨y,hy⟩:∃y,ss[i]? =some y:=⟨_,List.getElem?_eq_getElem hil⟩
       obtain⟨sa2,sc2,hsv2,hsow2⟩:=(ay.DY hs e2).open;cases hsv2;obtain⟨g',hg',_,hsg,hscell,hsnf⟩:=hsow2.at (i:=i) (x:=.bool bx) (by rw[List.getElem?_map,hbx];rfl);cases hg';obtain⟨gs,cs,ws,hvs,hgs,hrow,hws⟩:=hn2.get hy;cases hvs;have hlen2:((List.range i).filter (FH ss seen)).length<=i:=by have:=List.length_filter_le (FH ss seen) (List.range i);simpa using this
       have hnext:(List.range (i+1)).filter (FH ss seen)=(List.range i).filter (FH ss seen)++(if FH ss seen i then [i] else []):=by
        rw[List.range_succ,List.filter_append];cases hpr:FH ss seen i<;>simp[hpr]
       iterate 4 refine aI ?_
       refine bU ?_;refine aU ?_;refine xp rfl (bT rfl rfl i rfl rfl) ?_;refine xp rfl (aA rfl hscell) ?_
       iterate 2 refine aU ?_
       refine bJ ?_;refine aI ?_;refine dM [(77,.bool (FH ss seen i))] rfl ?_ ?_
       · refine aa ?_;refine dx 67 (fun hg=>?_) (fun hg=>?_)
         · refine aa ?_;refine xp rfl (aA rfl (hn2.blk.cell (i:=0) rfl)) ?_;refine aU ?_;refine xp rfl (bT rfl rfl i rfl rfl hil) ?_;refine aa ?_;refine xp rfl (aA rfl (hrow 0 _ rfl)) ?_;refine aa ?_;exact aL rfl ⟨ak rfl (by subst hg;simp[FH,hbx,hy];by_cases hk0:y.kind=0<;>simp[hk0]),sb rfl⟩
         · refine aa ?_;exact aL rfl ⟨ak rfl (by subst hg;simp[FH,hbx]),sb rfl⟩
       · refine oL (fun hb=>?_) (fun hb=>?_)
         · rw[if_pos hb] at hnext;refine aa ?_;refine xo rfl (kI [_]) ?_;rintro _ _ ⟨rfl,rfl⟩;refine xo rfl (Dr rfl rfl ho2 rfl rfl) ?_;rintro ov3 g3 ⟨ho3,hx3,-,hv3⟩;refine aa ?_;have ho3':bF cJ g3 g.size 3 ov3 ((List.range (i+1)).filter (FH ss seen)):=by rw[hnext];exact bF.of (ys:=[i]) ho3 rfl rfl rfl
           have e3:ah g g3:=bF.grown e2 ho2 (Nat.le_refl _) hx3;exact ih2 (i+1,ov3) ⟨by show i+1<=_;omega,e3,ho3'⟩
         · rw[if_neg (by rw[hb];decide)] at hnext;rw[List.append_nil] at hnext;rw[<-hnext] at ho2;refine aa ?_;exact ih2 (i+1,ov) ⟨by show i+1<=_;omega,e2,ho2⟩
     · obtain rfl:i=ss.length:=by omega
       refine aa ?_;refine aW ?_;rw[hcl];exact⟨_,rfl,ay.lower ho2 (by omega),eg2⟩
   · obtain⟨m,hm⟩:∃m,td.length=m+1:=⟨td.length-1,by omega⟩
     obtain⟨gd,cd,x,rfl,hcd,hgd,hbd,hcell,hlast,hcut,hcb⟩:=GA hd hm;have hgl:td.getLast? =some x:=by rw[hlast];simp
     have hxl:x<ss.length:=hlt' x (by rw[hlast];simp);have hltd:∀j∈td.dropLast,j<ss.length:=fun j hj=>hlt' j (List.dropLast_subset _ hj)
     have hdl:td.dropLast.length=m:=by simp[hm]
     obtain⟨n,rfl⟩:∃n',n=n'+1:=⟨n-1,by omega⟩
     obtain⟨bx,hbx⟩:∃bx,seen[x]? =some bx:=⟨_,List.getElem?_eq_getElem (by omega)⟩
     obtain⟨y,hy⟩:∃y,ss[x]? =some y:=⟨_,List.getElem?_eq_getElem hxl⟩
     obtain⟨g',hg',_,hsg,hscell,hsnf⟩:=hsow.at (i:=x) (x:=.bool bx) (by rw[List.getElem?_map,hbx];rfl);cases hg';refine aa ?_;refine fH rfl (by simp only[decide_eq_false_iff_not];omega) ?_
     iterate 3 refine aI ?_
     refine bU ?_
     iterate 4 refine aU ?_
     refine xp rfl (bT rfl rfl m (by omega) rfl) ?_;refine xp rfl (aA rfl hcell) ?_;refine aa ?_;refine xp rfl (an.ie underlying117 H.fu rfl rfl m (by omega) (by omega)) ?_;refine aU ?_;refine bJ ?_
     iterate 2 refine aI ?_
     refine bU ?_
     iterate 2 refine aU ?_
     refine xp rfl (bT rfl rfl x rfl rfl) ?_;refine xp rfl (aA rfl hscell) ?_;refine aa ?_;refine oL (fun hb=>?_) (fun hb=>?_)
     · subst hb;rw[CZ hgl hbx] at hcon;refine aa ?_;exact ih (n,_,td.dropLast,seen) ⟨eg,hcut,fun b hb=>hdo b (by rw[<-hb];exact hcb▸rfl),hs,hsl,hltd,⟨by show td.dropLast.length+rV ss seen<=n;omega,by show n<=_;omega,hgz⟩,hcon⟩
     · subst hb;rw[Fh hgl hbx hy] at hcon;have hpt:=DJ ss seen x y hy hbx
       have hgne:¬gd=h.size:=fun k=>by
        rcases hdo gd rfl with k2|k2
        · rcases htl with k3|⟨b3,k3,k4⟩
          · rw[k3] at k2;cases k2
          · rw[k3] at k2;cases k2;omega
        · omega
       iterate 2 refine aI ?_
       refine bU ?_
       iterate 2 refine aU ?_
       refine xp rfl (bT rfl rfl x rfl rfl) ?_;refine aY rfl (bW H.zC rfl rfl rfl hscell hsnf) ?_;rintro _ g2 ⟨rfl,hg2⟩;have x2:Ext (fun b=>b=h.size) g g2:=by rw[hg2];exact Ext.dD _ _ _ rfl
       have hz2:=x2.size;have eg2:Ext (b8 tb) h g2:=⟨by omega,fun b hb hn=>by rw[x2.block b (by omega) (by omega)];exact eg.block b hb hn⟩
       have hs2:ay g2 h.size 4 1 (.slice (some ⟨h.size,0,none⟩) ss.length ss.length) ss.length ((seen.set x true).map .bool):=by
        have k:=(hsow.set (i:=x) rfl hxl (.bool true)).own;rw[<-hg2] at k;rw[List.map_set];exact k
       have hcut2:ay g2 base 3 1 _ td.dropLast.length (td.dropLast.map cJ):=ay.ext x2 hcut (fun b hb k=>hgne (by have:=hcb.symm.trans hb;cases this;exact k));have hn2:bD g2 O nb _ ss st:=hn.ext eg2 (fun k=>(hOt nb k.symm).2.1 rfl) (fun b hb k=>(hOt b k.symm).2.2 hb) (fun b _ k=>(hOt b k.symm).1) (fun _ _ k=>k);obtain⟨gs,cs,ws,hvs,hgs,hrow,hws⟩:=hn2.get hy;cases hvs;have hsl2:(seen.set x true).length=ss.length:=by simpa using hsl
       refine aa ?_;refine xp rfl (aA rfl (hn2.blk.cell (i:=0) rfl)) ?_;refine aU ?_;refine xp rfl (bT rfl rfl x rfl rfl hxl) ?_;refine aa ?_;refine xp rfl (aA rfl (hrow 0 _ rfl)) ?_;refine aa ?_;refine aQ (fun hk=>?_) (fun hk=>?_)
       · rw[if_pos (by omega)] at hcon;obtain⟨wa,wn,wc,rfl,_⟩:=id hws;obtain⟨hwl,hwn,hwm⟩:=BG hws;rw[hdl] at hcut2;refine aa ?_;refine xp rfl (aA rfl (hn2.blk.cell (i:=0) rfl)) ?_;refine aU ?_;refine xp rfl (bT rfl rfl x rfl rfl hxl) ?_;refine aa ?_;refine xp rfl (aA rfl (hrow 5 _ rfl)) ?_;refine xo rfl (bR underlying117 H.Ld rfl rfl hcut2 (by simp[hwl]) hwn (by intro u hu;simp at hu;obtain⟨j,_,rfl⟩:=hu;rfl) (by simp only[maxLen];omega) (by omega) (by omega)) ?_;rintro dv3 g3 ⟨hd3,ex3,-,ho3⟩;refine aa ?_;have hz3:=ex3.size;rw[hcb] at ex3 ho3
         have hd3':bF cJ g3 base 3 dv3 (td.dropLast++y.to):=by
          unfold bF;rw[List.length_append,hdl,hwl,List.map_append];exact hd3
         have hdo3:∀b,dv3.ownBlock=some b->tb=some b\/h1.size<=b:=fun b hb=>by
          rcases ho3 b hb with k|k
          · exact hdo b k
          · exact .inr (by omega)
         have eg3:Ext (b8 tb) h g3:=⟨by omega,fun b hb hn=>by
          rw[ex3.block b (by omega) ?_]
          · exact eg2.block b hb hn
          · intro k;cases k
            rcases hdo gd rfl with k2|k2
            · exact hn k2.symm
            · omega⟩
         have hgood':∀j∈td.dropLast++y.to,j<ss.length:=fun j hj=>by
          rcases List.mem_append.1 hj with k|k
          · exact hltd j k
          · exact hgood y (List.mem_of_getElem? hy) j k
         exact ih (n,dv3,td.dropLast++y.to,seen.set x true) ⟨eg3,hd3',hdo3,ay.ext ex3 hs2 (fun b hb k=>by cases k;cases hb;exact hgne rfl),hsl2,hgood',⟨by show (td.dropLast++y.to).length+rV ss (seen.set x true)<=n;rw[List.length_append];omega,by show n<=_;omega,by show h1.size<=g3.size;omega⟩,hcon⟩
       · rw[if_neg (by omega)] at hcon;refine aa ?_;exact ih (n,_,td.dropLast,seen.set x true) ⟨eg2,hcut2,fun b hb=>hdo b (by rw[<-hb];exact hcb▸rfl),hs2,hsl2,hltd,⟨by show td.dropLast.length+rV ss (seen.set x true)<=n;omega,by show n<=_;omega,by show h1.size<=g2.size;omega⟩,hcon⟩
theorem Aa (hn:bD h O nb v ss st) (hgood:Good ss) (hss:ss.length<=1000000) (hst:ss.length=0\/st<ss.length) (hpot:1+rV ss (List.replicate ss.length false)<=1000000) :
 aj Tryz.prog 211 #[.pointer (some ⟨nb,0,none⟩)] h (aN fun r h'=>bF cJ h' h.size 3 r (b9 ss st)/\ah h h'):=by
 have hown:=hn.own;have hnlt:=hn.blk.lt;refine bf ?_;refine aa ?_;refine xo rfl (aG rfl (ng hn)) ?_;rintro _ h0 ⟨rfl,hh0⟩;refine aa ?_;subst hh0;refine aQ (fun hz=>?_) (fun hz=>?_)
 · refine aa ?_;refine aW ?_;rw[b9,if_pos hz];exact⟨_,rfl,bF.nil _ _ _ _,av _ _⟩
 · have hn1:bD (h0.push (.cells #[.int .i64 (st:Nat)] 3)) (fun b=>O b\/b=h0.size) nb v ss st:=hn.af (Ext.push _ _ _) (fun b hb k=>k.elim id (fun k=>by omega));have ho1:bF cJ (h0.push (.cells #[.int .i64 (st:Nat)] 3)) h0.size 3 (.slice (some ⟨h0.size,0,none⟩) 1 1) [st]:=jD cJ h0 3 [st] 1 rfl (by simp[maxLen]) h0.size (Nat.le_refl _) rfl;refine aa ?_;refine xp rfl (aA rfl (hn.blk.cell (i:=1) rfl)) ?_;refine xo rfl (kI [_]) ?_;rintro _ _ ⟨rfl,rfl⟩;refine xo rfl (aG rfl (oz (tb:=some h0.size) hn1 hgood hss ho1 rfl (by simp) (fun b hb=>by cases hb;exact⟨.inr rfl,by omega,fun k=>by have:=(hown _ k).2;omega⟩) (fun j hj=>by simp at hj;omega) hpot)) ?_;rintro _ h2 ⟨ho2,hx2⟩;refine aa ?_;refine aW ?_;rw[b9,if_neg hz];have hps:(h0.push (.cells #[.int .i64 (st:Nat)] 3)).size=h0.size+1:=by simp
   refine⟨_,rfl,ay.lower ho2 (by omega),⟨by have:=hx2.size;omega,fun b hb _=>?_⟩⟩;rw[hx2.block b (by omega) (fun k=>by cases k;omega)];exact(Ext.push (fun _=>False) h0 _).block b hb (fun k=>k)
theorem vv {nv:Value}{now:List Nat}(hn:bD h O nb v ss st) (_hss:ss.length<=1000000) (hnow:aR gQ h (fun _=>False) nv now) (hlt:∀j∈now,j<ss.length) (hnn:now.length<=1000000) :
 aj Tryz.prog 214 #[.pointer (some ⟨nb,0,none⟩),nv] h (aN fun r h'=>r= .int .i64 (bQ ss now)/\h'=h):=by
 obtain⟨css,hc1,hc2,hc3⟩:=id hn.row;obtain⟨va,vc,rfl,_⟩:=hc2.open;obtain⟨na,nn,nc,rfl,hnl,hnc,hnm,hget⟩:=id hnow;generalize htgt:zo ss now (-1)=tgt;refine bf ?_;refine aa ?_;refine xo rfl (aG rfl (ng hn)) ?_;rintro _ h0 ⟨rfl,hh0⟩;refine aa ?_;subst hh0;refine aQ (fun hz=>?_) (fun hz=>?_)
 · refine aa ?_;refine aW ?_;rw[bQ,if_pos hz];exact⟨_,rfl,rfl,rfl⟩
 · refine aa ?_;refine eR (σ:=Nat×Int) (fun q=>[(5,.int .i64 q.2),(13,.int .i64 (q.1:Nat))]) (fun q h'=>h'=h0/\q.1<=nn/\zo ss (now.drop q.1) q.2=tgt) (fun q=>nn-q.1) ((0,-1)) ⟨rfl,Nat.zero_le _,htgt⟩ rfl ?_;rintro⟨i,b⟩ h1 ⟨rfl,hi,hcon⟩ ih
   try dsimp only
   dsimp only at hi hcon;refine aa ?_;refine aQ (fun hlti=>?_) (fun hlti=>?_)
   · obtain⟨j,hj⟩:∃j,now[i]? =some j:=⟨_,List.getElem?_eq_getElem (by omega)⟩
     obtain⟨bb,o,cs,ha,_,hrow,rfl⟩:=hget i j hj;have hjl:j<ss.length:=hlt j (List.mem_of_getElem? hj);obtain⟨y,hy⟩:∃y,ss[j]? =some y:=⟨_,List.getElem?_eq_getElem hjl⟩
     obtain⟨gs,cs,ws,hvs,hgs,hrw,hws⟩:=hn.get hy;cases hvs
     have hdr:now.drop i=j::now.drop (i+1):=by
      obtain⟨hi',rfl⟩:=List.getElem?_eq_some_iff.1 hj;exact List.drop_eq_getElem_cons hi'
     rw[hdr,zo,hy] at hcon;simp only at hcon
     iterate 4 refine aI ?_
     refine bU ?_;refine xp rfl (bT rfl rfl i rfl ha) ?_;refine xp rfl (aA rfl (hrow 0 _ rfl)) ?_;refine aU ?_;refine bJ ?_;refine aI ?_;refine dM [(54,.bool (BE y b))] rfl ?_ ?_
     · refine aa ?_;refine RW.aO (d:=19) (b':=true) rfl (decide_eq_true (by omega)) ?_;refine aa ?_;refine xp rfl (aA rfl (hn.blk.cell (i:=0) rfl)) ?_;refine aa ?_;refine RW.aO (d:=28) (b':=true) rfl (decide_eq_true (by omega)) ?_;refine aa ?_;refine xp rfl (aA rfl (hn.blk.cell (i:=0) rfl)) ?_;refine aU ?_;refine xp rfl (bT rfl rfl j rfl rfl hjl) ?_;refine aa ?_;refine xp rfl (aA rfl (hrw 0 _ rfl)) ?_;refine aa ?_;refine dx 39 (fun hk=>?_) (fun hk=>?_)
       · have hk':=of_decide_eq_true hk;refine aa ?_;refine dx 42 (fun hb=>?_) (fun hb=>?_)
         · have hb':=of_decide_eq_true hb;refine aa ?_;exact aL rfl ⟨ak rfl (by simp[BE];omega),sb rfl⟩
         · have hb':=of_decide_eq_false hb;refine aa ?_;refine xp rfl (aA rfl (hn.blk.cell (i:=0) rfl)) ?_;refine aU ?_;refine xp rfl (bT rfl rfl j rfl rfl hjl) ?_;refine aa ?_;refine xp rfl (aA rfl (hrw 6 _ rfl)) ?_;refine aa ?_;exact aL rfl ⟨ak rfl (by simp only[BE,decide_eq_decide];omega),sb rfl⟩
       · have hk':=of_decide_eq_false hk;refine aa ?_;exact aL rfl ⟨ak rfl (by simp[BE];omega),sb rfl⟩
     · refine oL (fun hb=>?_) (fun hb=>?_)
       · rw[if_pos hb] at hcon;refine aa ?_;refine xp rfl (aA rfl (hn.blk.cell (i:=0) rfl)) ?_;refine aU ?_;refine xp rfl (bT rfl rfl j rfl rfl hjl) ?_;refine aa ?_;refine xp rfl (aA rfl (hrw 6 _ rfl)) ?_;refine aa ?_;exact ih (i+1,(y.rule:Int)) ⟨rfl,by show i+1<=nn;omega,hcon⟩
       · rw[if_neg (by rw[hb];decide)] at hcon;refine aa ?_;exact ih (i+1,b) ⟨rfl,by show i+1<=nn;omega,hcon⟩
   · have hnil:now.drop i=[]:=List.drop_of_length_le (by omega);rw[hnil,zo] at hcon;refine aa ?_;refine aW ?_;rw[bQ,if_neg hz,htgt];exact⟨_,rfl,by rw[hcon];rfl,rfl⟩
theorem B6 {nv:Value}{now:List Nat}(c:UInt8) (hn:bD h O nb v ss st) (hgood:Good ss) (hss:ss.length<=1000000) (hnow:aR gQ h (fun _=>False) nv now) (hlt:∀j∈now,j<ss.length) (hnn:now.length<=1000000)
 (hpot:(stepG ss c now []).length+rV ss (List.replicate ss.length false)<=1000000) :
 aj Tryz.prog 213 #[.pointer (some ⟨nb,0,none⟩),nv,.int .u8 (c.toNat:Nat)] h (aN fun r h'=>bF cJ h' h.size 3 r (dy ss c now)/\ah h h'):=by
 have hown:=hn.own;have hnlt:=hn.blk.lt;obtain⟨css,hc1,hc2,hc3⟩:=id hn.row;obtain⟨va,vc,rfl,_⟩:=hc2.open;obtain⟨na,nn,nc,rfl,hnl,hnc,hnm,hget⟩:=id hnow;generalize htgt:stepG ss c now []=tgt at *;refine bf ?_;refine aa ?_;refine xo rfl (aG rfl (ng hn)) ?_;rintro _ h0 ⟨rfl,hh0⟩;refine aa ?_;subst hh0;refine aQ (fun hz=>?_) (fun hz=>?_)
 · refine aa ?_;refine aW ?_;rw[dy,if_pos hz];exact⟨_,rfl,bF.nil _ _ _ _,av _ _⟩
 · refine aa ?_;refine eR (σ:=Nat×Value×List Nat) (fun q=>[(7,q.2.1),(14,.int .i64 (q.1:Nat))]) (fun q h'=>ah h0 h'/\q.1<=nn/\bF cJ h' h0.size 3 q.2.1 q.2.2/\(∀j∈q.2.2,j<ss.length)/\stepG ss c (now.drop q.1) q.2.2=tgt) (fun q=>nn-q.1) ((0,.slice none 0 0,[])) ⟨av _ _,Nat.zero_le _,bF.nil _ _ _ _,(fun j hj=>by cases hj),htgt⟩ rfl ?_;rintro⟨i,ov,acc⟩ h1 ⟨e1,hi,ho,hal,hcon⟩ ih
   try dsimp only
   dsimp only at hi ho hal hcon;have hz1:=e1.size;have hn1:bD h1 O nb (.slice va ss.length vc) ss st:=hn.af e1 (fun _ _ k=>k);have hacc:acc.length<=tgt.length:=by rw[<-hcon];exact oO _ _ _ _
   refine aa ?_;refine aQ (fun hlti=>?_) (fun hlti=>?_)
   · obtain⟨j,hj⟩:∃j,now[i]? =some j:=⟨_,List.getElem?_eq_getElem (by omega)⟩
     obtain⟨bb,o,cs,ha,_,hrow,rfl⟩:=hget i j hj;have hjl:j<ss.length:=hlt j (List.mem_of_getElem? hj);obtain⟨y,hy⟩:∃y,ss[j]? =some y:=⟨_,List.getElem?_eq_getElem hjl⟩
     obtain⟨gs,cs,ws,hvs,hgs,hrw,hws⟩:=hn1.get hy;cases hvs
     have hdr:now.drop i=j::now.drop (i+1):=by
      obtain⟨hi',rfl⟩:=List.getElem?_eq_some_iff.1 hj;exact List.drop_eq_getElem_cons hi'
     rw[hdr,stepG,hy] at hcon;simp only at hcon;have hrow1:Lw.rowAt h1 bb (o+i*1) [cJ j]:=e1.rowAt (fun k=>k) hrow
     have hset:Lw.rowAt h1 gs (0+j*7+1) (tF y.set):=fun q u hu=>by
      have hq:(Ex y.kind y.set ws y.rule)[1+q]? =some u:=by
       match q with
       | 0=>exact hu
       | 1=>exact hu
       | 2=>exact hu
       | 3=>exact hu
       |q+4=>simp[tF] at hu
      have:=hrw (1+q) u hq
      rwa [<-Nat.add_assoc] at this
     iterate 4 refine aI ?_
     refine bU ?_;refine xp rfl (bT rfl rfl i rfl ha) ?_;refine xp rfl (aA rfl (hrow1 0 _ rfl)) ?_;refine aU ?_;refine bJ ?_;refine aI ?_;refine BS (fun(_u:Unit) (h':ai)=>ah h1 h') (fun(_u:Unit)=>[(51,.bool (mX y c))]) rfl ?_ ?_
     · refine aa ?_;refine RW.aO (d:=20) (b':=true) rfl (decide_eq_true (by omega)) ?_;refine aa ?_;refine xp rfl (aA rfl (hn1.blk.cell (i:=0) rfl)) ?_;refine aa ?_;refine RW.aO (d:=29) (b':=true) rfl (decide_eq_true (by omega)) ?_;refine aa ?_;refine xp rfl (aA rfl (hn1.blk.cell (i:=0) rfl)) ?_;refine aU ?_;refine xp rfl (bT rfl rfl j rfl rfl hjl) ?_;refine aa ?_;refine xp rfl (aA rfl (hrw 0 _ rfl)) ?_;refine aa ?_;refine dx 40 (fun hk=>?_) (fun hk=>?_)
       · have hk':=of_decide_eq_true hk;have hk2:y.kind=1:=by omega
         refine aa ?_;refine xp rfl (aA rfl (hn1.blk.cell (i:=0) rfl)) ?_;refine aU ?_;refine xp rfl (bT rfl rfl j rfl rfl hjl) ?_;refine aa ?_;refine xp rfl (bI rfl hset) ?_;refine aa ?_;refine xo rfl (aG rfl (EZ y.set c)) ?_;rintro _ h2 ⟨rfl,e2⟩;refine aa ?_;exact ef () e2 ⟨ak rfl (by simp[mX,hk2]),sb rfl⟩
       · have hk':=of_decide_eq_false hk;have hk2:¬y.kind=1:=by omega
         refine aa ?_;exact ef () (av _ _) ⟨ak rfl (by simp[mX,hk2]),sb rfl⟩
     · rintro _ h2 e2;have e02:=e1.trans e2;have ho2:bF cJ h2 h0.size 3 ov acc:=bF.af ho e2;have hn2:bD h2 O nb _ ss st:=hn.af e02 (fun _ _ k=>k);have hz2:=e02.size;refine oL (fun hb=>?_) (fun hb=>?_)
       · rw[if_pos hb] at hcon;have hacc2:(acc++y.to).length<=tgt.length:=by rw[<-hcon];exact oO _ _ _ _
         rw[List.length_append] at hacc2;obtain⟨gs,cs,ws,hvs,hgs,hrw2,hws2⟩:=hn2.get hy;cases hvs;obtain⟨wa,wn,wc,rfl,_⟩:=id hws2;obtain⟨hwl,hwn,hwm⟩:=BG hws2;refine aa ?_;refine xp rfl (aA rfl (hn2.blk.cell (i:=0) rfl)) ?_;refine aU ?_;refine xp rfl (bT rfl rfl j rfl rfl hjl) ?_;refine aa ?_;refine xp rfl (aA rfl (hrw2 5 _ rfl)) ?_;refine xo rfl (bR underlying117 H.Ld rfl rfl ho2 (by simp[hwl]) hwn (by intro u hu;simp at hu;obtain⟨j,_,rfl⟩:=hu;rfl) (by simp only[maxLen];omega) (by omega) (by omega)) ?_;rintro ov3 h3 ⟨ho3,hx3,-,hv3⟩;refine aa ?_
         have ho3':bF cJ h3 h0.size 3 ov3 (acc++y.to):=by
          unfold bF;rw[List.length_append,hwl,List.map_append];exact ho3
         have e3:ah h0 h3:=bF.grown e02 ho2 (Nat.le_refl _) hx3
         have hal3:∀j∈acc++y.to,j<ss.length:=fun j hj=>by
          rcases List.mem_append.1 hj with k|k
          · exact hal j k
          · exact hgood y (List.mem_of_getElem? hy) j k
         exact ih (i+1,ov3,acc++y.to) ⟨e3,by show i+1<=nn;omega,ho3',hal3,hcon⟩
       · rw[if_neg (by rw[hb];decide)] at hcon;refine aa ?_;exact ih (i+1,ov,acc) ⟨e02,by show i+1<=nn;omega,ho2,hal,hcon⟩
   · have hnil:now.drop i=[]:=List.drop_of_length_le (by omega);rw[hnil,stepG] at hcon;subst hcon;have hol:∀b,ov.ownBlock=some b->h0.size<=b/\b<h1.size:=fun b hb=>ay.lt ho hb
     have hn':bD h1 (fun b=>O b\/b8 ov.ownBlock b) nb (.slice va ss.length vc) ss st:=hn.af e1 (fun b hb k=>k.elim id (fun k=>by have:=(hol b k.symm).1;omega));refine aa ?_;refine xo rfl (aG rfl (oz (tb:=ov.ownBlock) hn' hgood hss ho rfl (by omega) (fun b hb=>⟨.inr hb.symm,by have:=hol b hb;omega,fun k=>by have:=hol b hb;have:=(hown b k).2;omega⟩) hal hpot)) ?_;rintro _ h2 ⟨ho2,hx2⟩;refine aa ?_;refine aW ?_;rw[dy,if_neg hz,htgt];refine⟨_,rfl,ay.lower ho2 (by omega),⟨by have:=hx2.size;omega,fun b hb _=>?_⟩⟩;rw[hx2.block b (by omega) (fun k=>by have:=hol b k.symm;omega)];exact e1.block b hb (fun k=>k)
theorem BH {α:Type}{e:fS α}{Q Q':Nat->Prop}{xs:List α}(k:aR e h Q v xs) (hq:∀b,Q' b->Q b):aR e h Q' v xs:=k.mv ⟨Nat.le_refl _,fun b _ hn=>⟨rfl,fun k=>hn (hq b k)⟩⟩
end
end Go.Proofs.YtckomlgchbkekaaGreatDoor
namespace Go.Proofs.YtckomlgchbkekaaGreatDoor
open Go Go.Lw
set_option maxRecDepth 20000
def Lx (h:ai) (p:Value) (rules:List By):Prop:=∃(O:Nat->Prop) (nb:Nat) (v:Value) (ss:List cL) (st:Nat),p= .pointer (some ⟨nb,0,none⟩)/\bD h O nb v ss st/\fV rules= .inr (ss,st)
def J5 (rules:List By):Int:=match fV rules with|.inl e=>e|.inr _=>0
theorem EP {h:ai}{lim:Nat}(hg:Sg h lim) (hlim:lim<=h.size){rv:Value}{rules:List By}(hr:aR I4 h (fun _=>False) rv rules) (hrl:∀s∈rules,s.length<=1000000) :
 aj Tryz.prog 154 #[rv] h (aN fun r h'=>(∃p,r= .tuple #[p,.int .i64 (J5 rules)]/\((∃e,fV rules= .inl e/\p= .pointer none)\/Lx h' p rules))/\ah h h') :=
 (Cw hg hlim hr hrl).ret fun r h' k=>by
  obtain⟨k1,k2⟩:=k;refine⟨?_,k2⟩;unfold wF at k1;unfold J5;cases hm:fV rules with
  |inl e=>rw[hm] at k1;exact⟨_,k1,.inl ⟨e,rfl,rfl⟩⟩
  |inr q =>
   obtain⟨ss,st⟩:=q;rw[hm] at k1;obtain⟨nb,v,h1,_,h3⟩:=k1;exact⟨_,h1,.inr ⟨_,nb,v,ss,st,rfl,h3,hm⟩⟩
end Go.Proofs.YtckomlgchbkekaaGreatDoor

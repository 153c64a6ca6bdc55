/- Part 17. -/
import Derived.Lib.Split
import Derived.Test.YtnjahnbpnpkmhaaGreatDoorQp

namespace Go.Proofs.YtnjahnbpnpkmhaaGreatDoor
open Go Go.Lw
theorem oq {h:aq}(s:ByteArray) (c:Int):au Tryz.prog 188 #[.string s,.int .u8 c] h (bK λr h'=>r= .int .i64 (Lib.indexByte s.data.toList c.toNat.toUInt8)/\h'=h) :=
  au.FU λw=>nY s c w
theorem wrap_u8 {i:Int}(h:0<=i/\i<=255):IntKind.u8.wrap i=i:=by
  have I:(2:Int) ^ 8=256:=rfl;simp only[IntKind.wrap,IntKind.bits,IntKind.signed,I,Bool.false_and,Bool.false_eq_true,if_false];omega
end Go.Proofs.YtnjahnbpnpkmhaaGreatDoor
namespace Go.Proofs.YtnjahnbpnpkmhaaGreatDoor
open Go.Proofs.Tryz
open Go Go.Lw
set_option maxRecDepth 20000 set_option maxHeartbeats 4000000
section
variable {rb n m d lim:Nat}{h h':aq}{c a:UInt8}{l r:By}{x:Nd}{M:Nat->Prop}
def wT:Value:=.iface 155 (.agg #[])
def Fm (c:List PanicEntry):Prop:=c=[{ v:=wT,recovered:=false }]
def St (h:aq) (rb:Nat) (l:By):Prop:=aC h rb 158 [.string (bs l)]
abbrev D7 (rb:Nat):Value:=.pointer (some ⟨rb,0,none⟩)
abbrev only (rb:Nat):Nat->Prop:=λb=>b=rb
def PR {α:Type}(rb:Nat) (h:aq) (p:Option (α×By)) (Φ:α->Value->aq->Prop):Ending->aq->Prop :=
 Fh (λv h'=>∃x r,p=some (x,r)/\Φ x v h'/\St h' rb r/\Ext (only rb) h h') (λch h'=>Fm ch/\p=none/\Ext (only rb) h h')
theorem ey {α:Type}{p:Option (α×By)}{Φ:α->Value->aq->Prop}{c:List PanicEntry}(hc:Fm c) (J:p=none) (I:Ext (only rb) h h'):PR rb h p Φ (.panicked c) h':=⟨hc,J,I⟩
theorem Ll {Φ:Value->aq->Prop}{X:List PanicEntry->aq->Prop}{c:List PanicEntry}(k:X c h):Fh Φ X (.panicked c) h:=k
theorem St.cell {h:aq}{rb:Nat}{l:By}(k:St h rb l):cellAt h ⟨rb,0,none⟩=some (.string (bs l)):=aC.cell k (i:=0) rfl
theorem St.lt {h:aq}{rb:Nat}{l:By}(k:St h rb l):rb<h.size:=aC.lt k
def Ik:By->Option (UInt8×By)| []=>none|c::r=>some (c,r)
theorem jY (h:Ik l=none):l=[]:=by cases l with|nil=>rfl|cons c r=>cases h
theorem gz (h:Ik l=some (c,r)):l=c::r:=by cases l with|nil=>cases h|cons d t=>cases h;rfl
theorem wW (hs:St h rb l):au prog 152 #[D7 rb] h (bK λr h'=>r= .int .u8 ((l.head?.getD 0).toNat:Nat)/\h'=h):=by
 refine bJ ?_;refine af ?_;refine xp rfl (aA rfl hs.cell) ?_;refine af ?_;refine aN (λhe=>?_) (λhe=>?_)
 · have hl:l=[]:=dF he;subst hl;refine af ?_;refine aP ?_;exact⟨_,rfl,rfl,rfl⟩
 · obtain⟨c,r,rfl⟩:=List.exists_cons_of_ne_nil (fun(e:l=[])=>he (by rw[e];rfl));refine af ?_;refine xp rfl (aA rfl hs.cell) (xp rfl (tq rfl rfl 0 rfl (eH rfl)) ?_);refine af ?_;refine aP ?_;exact⟨_,rfl,rfl,rfl⟩
theorem gy (hs:St h rb l) (hl:l.length<=1000000):au prog 153 #[D7 rb] h (PR rb h (Ik l) λc v _=>v= .int .u8 (c.toNat:Nat)):=by
 refine bJ ?_;refine af ?_;refine xp rfl (aA rfl hs.cell) ?_;refine af ?_;refine aN (λhe=>?_) (λhe=>?_)
 · have hl:l=[]:=dF he;subst hl;refine af ?_;refine xp rfl (av (H.iW ) rfl) ?_;refine af ?_;refine aO rfl (dJ (Φ:=λ_ _=>False) rfl (ey rfl rfl (Ext.refl _ _))) ?_;rintro _ _ I;exact I.elim
 · obtain⟨c,r,rfl⟩:=List.exists_cons_of_ne_nil (fun(e:l=[])=>he (by rw[e];rfl));have hz:(bs (c::r)).size=r.length+1:=by rw[aJ];rfl
   have U:=qh (c::r) 1;simp only[List.length_cons] at hl;refine af ?_;refine xp rfl (aA rfl hs.cell) (xp rfl (tq rfl rfl 0 rfl (eH rfl)) ?_);refine af ?_;refine xp rfl (aA rfl hs.cell) (xp rfl (az.iN underlying9 rfl rfl 1 rfl (by omega)) ?_);refine af ?_;refine aO rfl (iG rfl rfl hs) ?_;rintro _ h1 ⟨rfl,hk,J,hz1⟩;refine af ?_;refine aP ?_;exact⟨c,r,rfl,rfl,by rw[U] at hk;exact hk,J⟩
theorem nq (c:UInt8) (hs:St h rb l) (hl:l.length<=1000000):au prog 115 #[D7 rb,.int .u8 (c.toNat:Nat)] h (bK λv h' =>
 ((l.head? =some c/\v= .bool true/\St h' rb l.tail)\/(l.head? ≠some c/\v= .bool false/\St h' rb l))/\Ext (only rb) h h'):=by
 refine bJ ?_;refine aQ ?_;refine cI ?_;refine aR ?_;refine cO ?_
 iterate 2 refine aQ ?_
 refine dU [(18,.bool (decide (l.head? ≠some c)))] rfl ?_ ?_
 · refine af ?_;refine xp rfl (aA rfl hs.cell) ?_;refine af ?_;refine cX 10 (λhe=>?_) (λhe=>?_)
   · have hl:l=[]:=dF (of_decide_eq_true he);refine af ?_;exact aD rfl ⟨ai rfl (by subst hl;simp),sb rfl⟩
   · obtain⟨d,r,rfl⟩:=List.exists_cons_of_ne_nil (fun(e:l=[])=>(of_decide_eq_false he) (by rw[e];rfl));refine af ?_;refine xp rfl (aA rfl hs.cell) ?_;refine xp rfl (tq rfl rfl 0 rfl (eH rfl)) ?_;refine af ?_;exact aD rfl ⟨ai rfl (by simp only[List.head?_cons,Option.some.injEq,ne_eq];exact NA d c),sb rfl⟩
 · refine aN (λhn=>?_) (λhn=>?_)
   · refine af ?_;refine aP ?_;exact⟨_,rfl,.inr ⟨hn,rfl,hs⟩,Ext.refl _ _⟩
   · have hn:=Classical.not_not.1 hn;obtain⟨d,r,rfl⟩:=List.exists_cons_of_ne_nil (fun(e:l=[])=>by rw[e] at hn;cases hn);have hz:(bs (d::r)).size=r.length+1:=by rw[aJ];rfl
     have hd:=qh (d::r) 1;simp only[List.length_cons] at hl;refine af ?_;refine xp rfl (aA rfl hs.cell) ?_;refine xp rfl (az.iN underlying9 rfl rfl 1 rfl (by omega)) ?_;refine af ?_;refine aO rfl (iG rfl rfl hs) ?_;rintro _ h1 ⟨rfl,hk,hx,hz1⟩;refine af ?_;refine aP ?_;exact⟨_,rfl,.inl ⟨hn,rfl,by rw[hd] at hk;exact hk⟩,hx⟩
theorem wX (c:UInt8) (hs:St h rb l) (hl:l.length<=1000000):au prog 165 #[D7 rb,.int .u8 (c.toNat:Nat)] h (PR rb h (if l.head? =some c then some ((),l.tail) else none) λ_ _ _=>True):=by
 refine bJ ?_;refine af ?_;refine xo rfl (aE rfl (nq c hs hl)) ?_;rintro _ h1 ⟨J,U⟩
 rcases J with ⟨h1,rfl,Y⟩|⟨h1,rfl,Y⟩
 · refine af ?_;refine dB rfl (by decide) ?_;refine af ?_;refine D4 ?_;exact⟨(),_,if_pos h1,trivial,Y,U⟩
 · refine af ?_;refine dc rfl (by decide) ?_;refine af ?_;refine xp rfl (av (H.iW ) rfl) ?_;refine af ?_;refine aO rfl (dJ (Φ:=λ_ _=>False) rfl (ey rfl (if_neg h1) U)) ?_;rintro _ _ I;exact I.elim
theorem oJ (x:UInt8):au prog 188 #[.string ⟨#[40,41,91,93,124,42,43,63,46,92,45,94]⟩,.int .u8 (x.toNat:Nat)] h (bK λr h'=>r= .int .i64 (Lib.indexByte bH x)/\h'=h) :=
 (oq _ _).ret λ_ _ ⟨I,he⟩=>⟨by rw[I];simp[bH],he⟩
theorem lC:∀x:UInt8,(0<=Lib.indexByte bH x)↔x∈bH:=by
 have h:∀n:Fin 256,(0<=Lib.indexByte bH (UInt8.ofNat n.val))↔(UInt8.ofNat n.val)∈bH:=by decide +kernel
 intro x;have:=h ⟨x.toNat,x.toNat_lt⟩;simpa using this
def BL:By:=[48,49,50,51,52,53,54,55,56,57,97,98,99,100,101,102]
theorem BK (x:UInt8):au prog 188 #[.string ⟨#[48,49,50,51,52,53,54,55,56,57,97,98,99,100,101,102]⟩,.int .u8 (x.toNat:Nat)] h (bK λr h'=>r= .int .i64 (Lib.indexByte BL x)/\h'=h) :=
 (oq _ _).ret λ_ _ ⟨I,he⟩=>⟨by rw[I];simp[BL],he⟩
theorem KS:∀n:Fin 256,IntKind.u8.wrap ((BitVec.ofInt IntKind.u8.bits (n.val:Int) |||BitVec.ofInt IntKind.u8.bits 32).toNat)=(((UInt8.ofNat n.val) ||| 32).toNat:Nat):=by decide +kernel
theorem low (x:UInt8):IntKind.u8.wrap ((BitVec.ofInt IntKind.u8.bits (x.toNat:Int) |||BitVec.ofInt IntKind.u8.bits 32).toNat)=((x ||| 32).toNat:Nat):=by
 have:=KS ⟨x.toNat,x.toNat_lt⟩;simpa using this
theorem Ld:∀n:Fin 256,de (UInt8.ofNat n.val)=if Lib.indexByte BL ((UInt8.ofNat n.val) ||| 32)<0\/n.val<48 then none else some (Lib.indexByte BL ((UInt8.ofNat n.val) ||| 32)).toNat:=by decide +kernel
theorem Rf (x:UInt8):de x=if Lib.indexByte BL (x ||| 32)<0\/x.toNat<48 then none else some (Lib.indexByte BL (x ||| 32)).toNat:=by
 have:=Ld ⟨x.toNat,x.toNat_lt⟩;simpa using this
theorem mM {x:UInt8}(h:de x=some n):n<16:=by
 unfold de at h;split at h
 · cases h;omega
 · split at h
   · cases h;omega
   · split at h
     · cases h;omega
     · cases h
theorem u6 (x:UInt8):au prog 187 #[.int .u8 (x.toNat:Nat)] h (Fh (λv h'=>∃n:Nat,de x=some n/\n<16/\v= .int .u8 n/\h'=h) (λch h'=>Fm ch/\de x=none/\h'=h)):=by
 have hd:=Rf x;refine bJ ?_;refine aQ ?_;refine cI ?_;refine aR ?_;refine cO ?_;refine aQ ?_;refine cI ?_;refine aR ?_;refine xp rfl (az.BQ rfl rfl) ?_;refine xo rfl (aE rfl ((low x▸BK (x ||| 32)))) ?_;rintro _ _ ⟨rfl,rfl⟩;refine aR ?_;refine cO ?_
 iterate 2 refine aQ ?_
 refine dU [(12,.bool (decide (Lib.indexByte BL (x ||| 32)<0\/x.toNat<48)))] rfl ?_ ?_
 · refine af ?_;refine cX 9 (λhg=>?_) (λhg=>?_)
   · refine af ?_;exact aD rfl ⟨ai rfl (by have:=of_decide_eq_true hg;simp[this]),sb rfl⟩
   · refine af ?_;exact aD rfl ⟨ai rfl (by have:=of_decide_eq_false hg;simp only[decide_eq_decide];omega),sb rfl⟩
 · refine aN (λhn=>?_) (λhn=>?_)
   · rw[if_pos hn] at hd;refine af ?_;refine xp rfl (av (H.iW ) rfl) ?_;refine af ?_;refine aO rfl (dJ (Φ:=λ_ _=>False) rfl (Ll ⟨rfl,hd,rfl⟩)) ?_;rintro _ _ hpn;exact hpn.elim
   · rw[if_neg hn] at hd;have h16:=mM hd;refine af ?_;refine aP ?_;refine⟨_,hd,h16,?_,rfl⟩
     show Value.int .u8 _=_
     congr 1
     have:IntKind.u8.wrap (Lib.indexByte BL (x ||| 32))=Lib.indexByte BL (x ||| 32):=wrap_u8 (by omega);rw[this];omega
theorem JG:∀m n:Fin 16,IntKind.u8.wrap ((BitVec.ofInt IntKind.u8.bits (IntKind.u8.wrap ((m.val:Int)*2 ^ min (4:Int).toNat IntKind.u8.bits)) |||BitVec.ofInt IntKind.u8.bits (n.val:Int)).toNat)=((UInt8.ofNat (m.val*16+n.val)).toNat:Nat):=by decide +kernel
theorem P8 (hm:m<16) (I:n<16):IntKind.u8.wrap ((BitVec.ofInt IntKind.u8.bits (IntKind.u8.wrap ((m:Int)*2 ^ min (4:Int).toNat IntKind.u8.bits)) |||BitVec.ofInt IntKind.u8.bits (n:Int)).toNat)=((UInt8.ofNat (m*16+n)).toNat:Nat):=JG ⟨m,hm⟩ ⟨n,I⟩
theorem MN {x:UInt8}(t:By) (h:de x=none):gL (120::x::t)=none:=by
 unfold gL;cases t with
 |nil=>rfl
 |cons y t=>simp[h]
theorem qI (hs:St h rb l) (hl:l.length<=1000000):au prog 168 #[D7 rb] h (PR rb h (gL l) λc v _=>v= .int .u8 (c.toNat:Nat)):=by
 refine bJ ?_;refine af ?_;refine xo rfl (yZ rfl (gy hs hl) ((λ_ _ ⟨hc,hp,hx⟩=>ey hc (by rw[jY hp];rfl) hx))) ?_;rintro _ h1 ⟨c,r,hp,rfl,hs1,hx1⟩;refine af ?_;obtain rfl:=gz hp;simp only[List.length_cons] at hl;refine aN (λe1=>?_) (λe1=>?_)
 · have e1:c=110:=(bz rfl).1 e1;refine af ?_;refine aP ?_;exact⟨10,r,by unfold gL;simp[e1],rfl,hs1,hx1⟩
 · have e1:¬c=110:=λe=>e1 ((bz rfl).2 e)
   refine af ?_;refine aN (λe2=>?_) (λe2=>?_)
   · have e2:c=116:=(bz rfl).1 e2;refine af ?_;refine aP ?_;exact⟨9,r,by unfold gL;simp[e2],rfl,hs1,hx1⟩
   · have e2:¬c=116:=λe=>e2 ((bz rfl).2 e)
     refine af ?_;refine aN (λe3=>?_) (λe3=>?_)
     · have e3:c=114:=(bz rfl).1 e3;refine af ?_;refine aP ?_;exact⟨13,r,by unfold gL;simp[e3],rfl,hs1,hx1⟩
     · have e3:¬c=114:=λe=>e3 ((bz rfl).2 e)
       refine af ?_;refine aN (λe4=>?_) (λe4=>?_)
       · have e4:c=120:=(bz rfl).1 e4;subst e4;refine af ?_;refine xo rfl (yZ rfl (gy hs1 (by omega)) ((λ_ _ ⟨hc,hp,hx⟩=>ey hc (by rw[jY hp];rfl) (hx1.trans hx)))) ?_;rintro _ h2 ⟨x,r2,hp2,rfl,hs2,hx2⟩;refine xo rfl (yZ rfl (u6 x) ((λ_ h' ⟨hc,hq,hh⟩=>ey hc (by obtain rfl:=gz hp2;exact MN _ hq) (by subst hh;exact hx1.trans hx2)))) ?_;rintro _ _ ⟨m,hm,hm16,rfl,rfl⟩;refine aR ?_;refine cO ?_;refine aQ ?_;refine cI ?_;refine aR ?_;refine xp rfl (B3 rfl rfl (by omega)) ?_;refine af ?_;obtain rfl:=gz hp2;simp only[List.length_cons] at hl;refine xo rfl (yZ rfl (gy hs2 (by omega)) ((λ_ _ ⟨hc,hp,hx⟩=>ey hc (by rw[jY hp];rfl) ((hx1.trans hx2).trans hx)))) ?_;rintro _ h3 ⟨y,r3,hp3,rfl,hs3,hx3⟩;refine xo rfl (yZ rfl (u6 y) ((λ_ h' ⟨hc,hq,hh⟩=>ey hc (by obtain rfl:=gz hp3;unfold gL;simp[hm,hq]) (by subst hh;exact(hx1.trans hx2).trans hx3)))) ?_;rintro _ _ ⟨n,hn,hn16,rfl,rfl⟩;refine xp rfl (az.BQ rfl rfl) ?_;refine af ?_;obtain rfl:=gz hp3;refine aP ?_;exact⟨UInt8.ofNat (m*16+n),r3,by unfold gL;simp[hm,hn],by show Value.int _ _=_;rw[P8 hm16 hn16],hs3,(hx1.trans hx2).trans hx3⟩
       · have e4:¬c=120:=λe=>e4 ((bz rfl).2 e)
         refine af ?_;refine xo rfl (aE rfl (oJ c)) ?_;rintro _ _ ⟨rfl,rfl⟩;refine af ?_;refine aN (λe5=>?_) (λe5=>?_)
         · have e5:=(lC c).1 e5;refine af ?_;refine aP ?_;exact⟨c,r,by unfold gL;simp[e1,e2,e3,e4,e5],rfl,hs1,hx1⟩
         · have e5:¬c∈bH:=λe=>e5 ((lC c).2 e)
           refine af ?_;refine xp rfl (av (H.iW ) rfl) ?_;refine af ?_;refine aO rfl (dJ (Φ:=λ_ _=>False) rfl (ey rfl (by unfold gL;simp[e1,e2,e3,e4,e5]) hx1)) ?_;rintro _ _ hpn;exact hpn.elim
theorem sD (hs:St h rb l) (hl:l.length<=1000000):au prog 186 #[D7 rb] h (PR rb h (nF l) λc v _=>v= .int .u8 (c.toNat:Nat)):=by
 refine bJ ?_;refine af ?_;refine xo rfl (yZ rfl (gy hs hl) ((λ_ _ ⟨hc,Z,hx⟩=>ey hc (by rw[jY Z];rfl) hx))) ?_;rintro _ h1 ⟨c,r,Z,rfl,Y,I⟩;refine af ?_;obtain rfl:=gz Z;simp only[List.length_cons] at hl;refine aN (λJ=>?_) (λJ=>?_)
 · have J:c=92:=(bz rfl).1 J;refine af ?_;refine xo rfl (yZ rfl (qI Y (by omega)) ((λ_ _ ⟨hc,Z,hx⟩=>ey hc (by unfold nF;simp[J,Z]) (I.trans hx)))) ?_;rintro _ h2 ⟨d,r2,ad,rfl,ab,aa⟩;refine af ?_;refine aP ?_;exact⟨d,r2,by unfold nF;simp[J,ad],rfl,ab,I.trans aa⟩
 · have J:¬c=92:=λe=>J ((bz rfl).2 e)
   refine af ?_;refine xo rfl (aE rfl (oJ c)) ?_;rintro _ _ ⟨rfl,rfl⟩;refine af ?_;refine aN (λU=>?_) (λU=>?_)
   · have U:=(lC c).1 U;refine af ?_;refine xp rfl (av (H.iW ) rfl) ?_;refine af ?_;refine aO rfl (dJ (Φ:=λ_ _=>False) rfl (ey rfl (by unfold nF;simp[J,U]) I)) ?_;rintro _ _ ac;exact ac.elim
   · have U:¬c∈bH:=λe=>U ((lC c).2 e)
     refine af ?_;refine aP ?_;exact⟨c,r,by unfold nF;simp[J,U],rfl,Y,I⟩
theorem C3 (k s:Nat) (v:Value) (i:Nat) (hi:i<256):(bP k s v).set (1+i / 64*1) (.int .u64 ((zE s (i / 64) ||| 2 ^ (i%64):Nat):Int))=bP k (s |||(1 <<< i)) v:=by
 have J:i / 64<4:=by omega
 have hw:=Ia s i;have hs:∀q,q≠i / 64->dW (s |||(1 <<< i)) q=dW s q:=λq I=>by unfold dW;rw[Ib s i q I]
 have he:dW (s |||(1 <<< i)) (i / 64)= .int .u64 ((zE s (i / 64) ||| 2 ^ (i%64):Nat):Int):=by unfold dW;rw[hw]
 rw[<-he];generalize i / 64=q at *;unfold bP
 match q,J with
 | 0,_=>rw[hs 1 (by decide),hs 2 (by decide),hs 3 (by decide)];rfl
 | 1,_=>rw[hs 0 (by decide),hs 2 (by decide),hs 3 (by decide)];rfl
 | 2,_=>rw[hs 0 (by decide),hs 1 (by decide),hs 3 (by decide)];rfl
 | 3,_=>rw[hs 0 (by decide),hs 1 (by decide),hs 2 (by decide)];rfl
theorem Je (k s:Nat) (v:Value) (q:Nat) (I:q<4):(bP k s v)[1+q*1]? =some (dW s q):=by
 match q,I with
 | 0,_=>rfl
 | 1,_=>rfl
 | 2,_=>rfl
 | 3,_=>rfl
theorem MB {w i:Nat}(hw:w<18446744073709551616):IntKind.u64.wrap ((BitVec.ofInt IntKind.u64.bits (w:Int) |||BitVec.ofInt IntKind.u64.bits (IntKind.u64.wrap (1*2 ^ min (((i:Int)).tmod 64).toNat IntKind.u64.bits))).toNat:Int)=((w ||| 2 ^ (i%64):Nat):Int):=by
 have h1:((i:Int)).tmod 64=((i%64:Nat):Int):=by rw[Int.tmod_eq_emod_of_nonneg (by omega)];omega
 have I:i%64<64:=Nat.mod_lt _ (by decide);have J:2 ^ (i%64)<2 ^ 64:=Nat.pow_lt_pow_right (by decide) I;rw[h1,LU,P1 hw J]
theorem wo (s i n:Nat) (h:0<n):jF s i n=jF (s |||(1 <<< i)) (i+1) (n-1):=by
 cases n with
 |zero=>omega
 |succ n=>rfl
theorem iM {nb k s:Nat}{v:Value}(hk:aC h nb 105 (bP k s v)) (a b:UInt8):au prog 167 #[.pointer (some ⟨nb,1,none⟩),.int .u8 (a.toNat:Nat),.int .u8 (b.toNat:Nat)] h (bK λ_ h' =>
 aC h' nb 105 (bP k (j9 s a b) v)/\Ext (only nb) h h'):=by
 have ha:=a.toNat_lt;have hb:=b.toNat_lt;refine bJ ?_;refine aQ ?_;refine cI ?_;refine aR ?_;refine xp rfl (AA rfl (wrap_i64 ⟨by omega,by omega⟩)) ?_;refine af ?_;refine fK (σ:=Nat×Nat) (λq=>[(6,.int .i64 (q.1:Nat))]) (λq h'=>aC h' nb 105 (bP k q.2 v)/\Ext (only nb) h h'/\q.1<=256/\jF q.2 q.1 (b.toNat+1-q.1)=j9 s a b) (λq=>b.toNat+1-q.1) ((a.toNat,s)) ⟨hk,Ext.refl _ _,by show a.toNat<=256;omega,rfl⟩ rfl ?_;rintro⟨i,s'⟩ h1 ⟨hk1,hx1,hi,hsp⟩ ih
 try dsimp only
 dsimp only at hk1 hi hsp
 iterate 2 refine aQ ?_
 refine cI ?_
 iterate 2 refine aR ?_
 refine xp rfl (AA rfl (wrap_i64 ⟨by omega,by omega⟩)) ?_;refine af ?_;refine aN (λhle=>?_) (λhle=>?_)
 · have hi255:i<=b.toNat:=by omega
   rw[wo _ _ _ (by omega)] at hsp;have hq:i / 64<4:=by omega
   have hdiv:IntKind.i64.wrap (((i:Int)).tdiv 64)=((i / 64:Nat):Int):=by
    rw[Int.tdiv_eq_ediv_of_nonneg (by omega),wrap_i64 ⟨by omega,by omega⟩];omega
   have hw:=AN s' (i / 64);have hset:=C3 k s' v i (by omega);have hk1':aC h1 nb 105 [.int .i64 k,dW s' 0,dW s' 1,dW s' 2,dW s' 3,v]:=hk1;refine af ?_;refine Gn 13 12 ?_;refine aF 0 ?_;refine aF 1 ?_;refine bq 2 rfl (λh' e=>gw rfl rfl (by decide)) ?_;refine aF 3 ?_;refine bq 4 rfl (λh' e=>y8 rfl rfl (i / 64) hdiv hq) ?_;refine bq 5 rfl (λh' e=>aA rfl (e.old (hk1.cell (Je k s' v _ hq)))) ?_;refine aF 6 ?_;refine bq 7 rfl (λh' e=>iB rfl rfl (by decide)) ?_;refine bq 8 rfl (λh' e=>B3 rfl rfl (by rw[Int.tmod_eq_emod_of_nonneg (by omega)];omega)) ?_;refine bq 9 rfl (λh' e=>az.BQ rfl rfl) ?_;refine H8 10 ?_;refine bq 11 rfl (λh' e=>y8 rfl rfl (i / 64) hdiv hq) ?_;refine gU 12 rfl (iG rfl rfl hk1') ?_;rintro _ h2 ⟨rfl,hk2,hx2,hz2⟩;refine⟨nofun,?_⟩;refine fV ?_;refine af ?_;rw[MB hw,show [.int .i64 (k:Int),dW s' 0,dW s' 1,dW s' 2,dW s' 3,v]=bP k s' v from rfl,hset] at hk2;exact ih (i+1,s' |||(1 <<< i)) ⟨hk2,hx1.trans hx2,by show i+1<=256;omega,by show jF _ (i+1) (b.toNat+1-(i+1))=_;rw[<-hsp];rfl⟩
 · have h0:b.toNat+1-i=0:=by omega
   rw[h0] at hsp;refine af ?_;refine D4 ?_;exact⟨_,rfl,by rw[<-hsp];exact hk1,hx1⟩
theorem Hs (s:Nat) (b:UInt8):au prog 87 #[.agg (cn s).toArray,.int .u8 (b.toNat:Nat)] h (bK λr h'=>r= .bool (s.testBit b.toNat)/\aj h h'):=by
 have hb:=b.toNat_lt;have hq:b.toNat / 64<4:=by omega
 have hdiv:IntKind.u8.wrap (((b.toNat:Int)).tdiv 64)=((b.toNat / 64:Nat):Int):=by
  rw[Int.tdiv_eq_ediv_of_nonneg (by omega),wrap_u8 (by omega)];omega
 have hmod:((b.toNat:Int)).tmod 64=((b.toNat%64:Nat):Int):=by rw[Int.tmod_eq_emod_of_nonneg (by omega)];omega
 have hm64:b.toNat%64<64:=Nat.mod_lt _ (by decide)
 have hword:∀q,q<4->(cn s)[0+q*1]? =some (dW s q):=λq hq=>by
  match q,hq with
  | 0,_=>rfl
  | 1,_=>rfl
  | 2,_=>rfl
  | 3,_=>rfl
 refine bJ ?_;refine af ?_;refine xo rfl (mh) ?_;rintro _ h1 ⟨rfl,hk,he,hz⟩;refine aR ?_;refine cO ?_;refine aQ ?_;refine cI ?_;refine aR ?_;refine xp rfl (gw rfl rfl (by decide)) ?_;have hk:aC h1 h.size 102 (cn s):=hk;refine xp rfl (y8 rfl rfl (b.toNat / 64) hdiv hq) ?_;refine xp rfl (aA rfl (hk.cell (hword _ hq))) ?_;refine aR ?_;refine xp rfl (iB rfl rfl (by decide)) ?_;refine xp rfl (Gi rfl rfl (by rw[hmod];omega)) ?_;refine xp rfl (az.DP rfl rfl) ?_;refine af ?_;refine aP ?_;refine⟨_,rfl,?_,he⟩;rw[hmod,LS _ _ hm64,Qe (Nat.lt_of_le_of_lt (Nat.shiftRight_le _ _) (AN s _)),Fw];cases s.testBit b.toNat<;>rfl
theorem kZ.only {h0:aq}{g:Nat}(e:Ext M h0 h) (x:Ext (λb=>b=g) h h') (hg:h0.size<=g):Ext M h0 h' :=
 ⟨Nat.le_trans e.size x.size,λb I hm=>by rw[x.block b (Nat.lt_of_lt_of_le I e.size) (by omega)];exact e.block b I hm⟩
theorem kZ.ah {h0:aq}(e:Ext M h0 h) (x:aj h h'):Ext M h0 h':=e.trans (aj.of x)
theorem wC:∀(n m acc:Nat) (s:By),s.length<n->s.length<m->oh n acc s=oh m acc s
 | 0,_,_,_,h,_=>by omega
 |_,0,_,_,_,h=>by omega
 |n+1,m+1,acc,s,hn,hm=>by
  rw[oh,oh];cases I:fH s with
  |none=>rfl
  |some p =>
   obtain⟨⟨a,b⟩,r⟩:=p;have hlen:=pe I;simp only;split
   · rfl
   · exact wC n m _ _ (by omega) (by omega)
def mP (first:Bool) (acc:Nat) (l:By):Option (Nat×By):=if first=false/\l.head? =some 93 then some (acc,l.tail) else oh (l.length+1) acc l
theorem iV {first:Bool}{acc:Nat}(h:¬(first=false/\l.head? =some 93)) (I:fH l=none):mP first acc l=none:=by
 unfold mP;rw[if_neg h,oh,I]
theorem nP {first:Bool}{acc:Nat}{b:UInt8}(h:¬(first=false/\l.head? =some 93)) (J:fH l=some ((a,b),r)):mP first acc l=mP false (j9 acc a b) r:=by
 have hlen:=pe J;unfold mP;rw[if_neg h,oh,J];simp only[true_and];split
 · simp
 · rename_i I
   rw[if_neg (λe=>by
    cases r with
    |nil=>cases e
    |cons c t=>simp at e;subst e;exact I t rfl)]
   exact wC _ _ _ _ (by omega) (by omega)
theorem L6 (h:nF l=none):fH l=none:=by unfold fH;rw[h]
theorem L4 (h:nF l=some (a,r)) (hr:r.head? ≠some 45):fH l=some ((a,a),r):=by
 unfold fH;rw[h];simp only;split
 · exact absurd rfl hr
 · rfl
theorem L3 (h:nF l=some (a,r)) (hr:r.head? =some 45) (I:nF r.tail=none):fH l=none:=by
 unfold fH;rw[h];cases r with
 |nil=>cases hr
 |cons c t=>simp at hr;subst hr;simp at I;simp[I]
theorem L0 {I:By}{b:UInt8}(h:nF l=some (a,r)) (hr:r.head? =some 45) (J:nF r.tail=some (b,I)):fH l=if b.toNat<a.toNat then none else some ((a,b),I):=by
 unfold fH;rw[h];cases r with
 |nil=>cases hr
 |cons c t=>simp at hr;subst hr;simp at J;simp[J]
theorem qJ (l:By):dw l=(mP true 0 (if l.head? =some 94 then l.tail else l)).map λp=>(.mk 1 (if l.head? =some 94 then jt p.1 else p.1) [],p.2):=by
 unfold dw mP;split
 · simp
 · rename_i I
   have h1:l.head? ≠some 94:=λe=>by
    cases l with
    |nil=>cases e
    |cons c t=>simp at e;subst e;exact I t rfl
   simp[h1]
theorem KB (s q:Nat) (hq:q<4):zE (jt s) q=18446744073709551615 ^^^ zE s q:=by
 apply Nat.eq_of_testBit_eq
 intro i;rw[lq,Nat.testBit_xor,lq];unfold jt;rw[Nat.testBit_xor,show Fb=2 ^ 256-1 from rfl,Nat.testBit_two_pow_sub_one,show (18446744073709551615:Nat)=2 ^ 64-1 from rfl,Nat.testBit_two_pow_sub_one]
 by_cases hi:i<64
 · have:64*q+i<256:=by omega
   simp[hi,this]
 · simp[hi]
theorem Ny {x:Nat}(I:x<18446744073709551616):IntKind.u64.wrap ((BitVec.ofInt IntKind.u64.bits (if IntKind.u64.signed then -1 else IntKind.u64.max) ^^^ BitVec.ofInt IntKind.u64.bits (x:Int)).toNat:Int)=((18446744073709551615 ^^^ x:Nat):Int):=by
 have e:(BitVec.ofInt IntKind.u64.bits (if IntKind.u64.signed then -1 else IntKind.u64.max) ^^^ BitVec.ofInt IntKind.u64.bits (x:Int)).toNat=18446744073709551615 ^^^ x:=by
  rw[BitVec.toNat_xor]
  have h1:(BitVec.ofInt IntKind.u64.bits (x:Int)).toNat=x:=by
   show (BitVec.ofInt 64 (x:Int)).toNat=x
   simp only[BitVec.toNat_ofInt];omega
  rw[h1];rfl
 rw[e];have:18446744073709551615 ^^^ x<2 ^ 64:=Nat.xor_lt_two_pow (by decide) I;exact mj ⟨by omega,by omega⟩
def C8 (s q i:Nat):Value:=if i<q then dW (jt s) i else dW s i
def MK (s q:Nat):List Value:=[.int .i64 1,C8 s q 0,C8 s q 1,C8 s q 2,C8 s q 3,.slice none 0 0]
theorem Jd (s q:Nat) (I:q<4):(MK s q)[1+q*1]? =some (dW s q):=by
 match q,I with
 | 0,_=>rfl
 | 1,_=>rfl
 | 2,_=>rfl
 | 3,_=>rfl
theorem KQ (s q:Nat) (I:q<4):(MK s q).set (1+q*1) (.int .u64 ((18446744073709551615 ^^^ zE s q:Nat):Int))=MK s (q+1):=by
 rw[<-KB s q I]
 match q,I with
 | 0,_=>rfl
 | 1,_=>rfl
 | 2,_=>rfl
 | 3,_=>rfl
abbrev B8 (n:Nat):Nat->Prop:=λb=>b<n
def Fi (n:Nat) (x:Nd) (v:Value) (h':aq):Prop:=∃w,v= .agg (bP x.kind x.set w).toArray/\aI h' (B8 n) (bP x.kind x.set w) x
theorem b8 (h:aq) (O:Nat->Prop) (k s:Nat):aI h O (bP k s (.slice none 0 0)) (.mk k s []):=.of k s (aL.nil _ _ _)
theorem zy (hs:St h rb l) (hl:l.length<=1000000):au prog 166 #[D7 rb] h (PR rb h (dw l) (Fi h.size)):=by
 have hlt:=hs.lt;have hbr:=qJ l;refine bJ ?_;refine af ?_;refine xo rfl (cL) ?_;rintro _ h1 ⟨rfl,hkr,he1,hz1⟩;refine af ?_;refine xp rfl (av (H.F8 _) rfl) ?_;refine xo rfl (cL) ?_;rintro _ h2 ⟨rfl,hk2,he2,hz2⟩;refine aO rfl (aZ rfl rfl hk2) ?_;rintro _ h3 ⟨rfl,hk3,hx3,hz3⟩;have hk3:aC h3 h1.size 105 (bP 1 0 (.slice none 0 0)):=hk3;have hkr:aC h1 h.size 105 (bP 0 0 (.slice none 0 0)):=hkr;have e3:aj h h3:=aj.only (he1.trans he2) hx3 (by omega);have hkr3:aC h3 h.size 105 (bP 0 0 (.slice none 0 0)):=(hkr.ah he2).ext hx3 (by show ¬_=_;omega);have hs3:St h3 rb l:=aC.ah hs e3;refine af ?_;refine xo rfl (aE rfl (nq 94 hs3 hl)) ?_;rintro _ h4 ⟨hor,hx4⟩
 obtain⟨nt,l1,rfl,hnt,hl1,hs4⟩:∃(nt:Bool) (l1:By),_=Value.bool nt/\nt=decide (l.head? =some 94)/\l1=(if l.head? =some 94 then l.tail else l)/\St h4 rb l1:=by
  rcases hor with ⟨a1,a2,a3⟩|⟨a1,a2,a3⟩
  · exact⟨true,_,a2,by simp[a1],by rw[if_pos a1],a3⟩
  · exact⟨false,_,a2,by simp[a1],by rw[if_neg a1],a3⟩
 rw[<-hl1] at hbr;have hl1l:l1.length<=1000000:=by rw[hl1];split;(have:l.tail.length<=l.length:=by simp);omega;exact hl
 have hkr4:=hkr3.ext hx4 (by show ¬_=_;omega);have hk4:=hk3.ext hx4 (by show ¬_=_;omega);have e4:Ext (only rb) h h4:=(aj.of e3).trans hx4;have hz4:=hx4.size;generalize htg:mP true 0 l1=tgt at hbr;refine af ?_;refine fK (σ:=Bool×Nat×By) (λq=>[(5,.bool q.1)]) (λq h'=>St h' rb q.2.2/\aC h' h1.size 105 (bP 1 q.2.1 (.slice none 0 0))/\aC h' h.size 105 (bP 0 0 (.slice none 0 0))/\Ext (only rb) h h'/\q.2.2.length<=1000000/\mP q.1 q.2.1 q.2.2=tgt) (λq=>q.2.2.length) ((true,0,l1)) ⟨hs4,hk4,hkr4,e4,hl1l,htg⟩ rfl ?_;rintro⟨first,acc,m⟩ h5 ⟨hs5,hk5,hkr5,e5,hm,hcon⟩ ih
 try dsimp only
 dsimp only at hs5 hk5 hm hcon
 iterate 2 refine aQ ?_
 refine dU [(17,.bool (decide (¬(first=false/\m.head? =some 93))))] rfl ?_ ?_
 · refine af ?_;refine cX 13 (λhf=>?_) (λhf=>?_)
   · refine af ?_;exact aD rfl ⟨ai rfl (by simp[hf]),sb rfl⟩
   · refine af ?_;refine xo rfl (aE rfl (wW hs5)) ?_;rintro _ _ ⟨rfl,rfl⟩;refine af ?_;exact aD rfl ⟨ai rfl (by cases m with|nil=>simp|cons c t=>simp only[hf,List.head?_cons,Option.getD_some,Option.some.injEq,true_and];exact decide_eq_decide.2 (not_congr (bz rfl))),sb rfl⟩
 · refine aN (λhgo=>?_) (λhgo=>?_)
   · refine af ?_;refine xo rfl (yZ rfl (sD hs5 hm) ((λ_ _ ⟨hc,hp,hx⟩=>ey hc (by rw[hbr,<-hcon,iV hgo (L6 hp)];rfl) (e5.trans hx)))) ?_;rintro _ h6 ⟨a,r,ha,rfl,hs6,hx6⟩;have hrl:=mJ ha;have hk6:=hk5.ext hx6 (by show ¬_=_;omega);have hkr6:=hkr5.ext hx6 (by show ¬_=_;omega);have e6:=e5.trans hx6;refine af ?_;refine xo rfl (aE rfl (nq 45 hs6 (by omega))) ?_;rintro _ h7 ⟨hor7,hx7⟩;have hk7:=hk6.ext hx7 (by show ¬_=_;omega);have hkr7:=hkr6.ext hx7 (by show ¬_=_;omega);have e7:=e6.trans hx7
     rcases hor7 with ⟨a1,rfl,hs7⟩|⟨a1,rfl,hs7⟩
     · have htl:r.tail.length<=r.length:=by simp
       refine af ?_;refine dc rfl (by decide) ?_;refine af ?_;refine xo rfl (yZ rfl (sD hs7 (by omega)) ((λ_ _ ⟨hc,hp,hx⟩=>ey hc (by rw[hbr,<-hcon,iV hgo (L3 ha a1 hp)];rfl) (e7.trans hx)))) ?_;rintro _ h8 ⟨b,r8,hb,rfl,hs8,hx8⟩;have hbl:=mJ hb;have hk8:=hk7.ext hx8 (by show ¬_=_;omega);have hkr8:=hkr7.ext hx8 (by show ¬_=_;omega);have e8:=e7.trans hx8;have hf4:=L0 ha a1 hb;refine af ?_;refine aN (λhlow=>?_) (λhlow=>?_)
       · rw[if_pos (by omega)] at hf4;refine af ?_;refine xp rfl (av (H.iW ) rfl) ?_;refine af ?_;refine aO rfl (dJ (Φ:=λ_ _=>False) rfl (ey rfl (by rw[hbr,<-hcon,iV hgo hf4];rfl) e8)) ?_;rintro _ _ hpn;exact hpn.elim
       · rw[if_neg (by omega)] at hf4;refine af ?_;refine xo rfl (aE rfl (iM hk8 a b)) ?_;rintro _ h9 ⟨hk9,hx9⟩;refine af ?_;have hsp:=nP (acc:=acc) hgo hf4;exact ih (false,j9 acc a b,r8) ⟨aC.ext hs8 hx9 (by show ¬_=_;omega),hk9,hkr8.ext hx9 (by show ¬_=_;omega),kZ.only e8 hx9 (by omega),by show r8.length<=_;omega,by rw[<-hcon,hsp]⟩
     · have hf2:=L4 ha a1;refine af ?_;refine dB rfl (by decide) ?_;refine af ?_;refine dB rfl (by simp) ?_;refine af ?_;refine xo rfl (aE rfl (iM hk7 a a)) ?_;rintro _ h9 ⟨hk9,hx9⟩;refine af ?_;have hsp:=nP (acc:=acc) hgo hf2;exact ih (false,j9 acc a a,r) ⟨aC.ext hs7 hx9 (by show ¬_=_;omega),hk9,hkr7.ext hx9 (by show ¬_=_;omega),kZ.only e7 hx9 (by omega),by show r.length<=_;omega,by rw[<-hcon,hsp]⟩
   · have hgo:=Classical.not_not.1 hgo;have htgt:tgt=some (acc,m.tail):=by rw[<-hcon];unfold mP;rw[if_pos hgo]
     refine af ?_;refine xo rfl (yZ rfl (wX 93 hs5 hm) ((λ_ _ ⟨hc,hp,hx⟩=>absurd hp (by rw[if_pos hgo.2];simp)))) ?_;rintro _ h6 ⟨_,r,hp,_,hs6,hx6⟩;refine af ?_;rw[if_pos hgo.2] at hp;cases hp;have hk6:=hk5.ext hx6 (by show ¬_=_;omega);have hkr6:=hkr5.ext hx6 (by show ¬_=_;omega);have e6:=e5.trans hx6;have hk6:aC h6 h1.size 105 (MK acc 0):=hk6;refine fK (σ:=Nat) (λq=>[(36,.int .i64 (q:Nat))]) (λq h'=>q<=4/\St h' rb m.tail/\aC h' h1.size 105 (MK acc (if nt then q else 0))/\aC h' h.size 105 (bP 0 0 (.slice none 0 0))/\Ext (only rb) h h') (λq=>4-q) (0) ⟨by omega,hs6,by cases nt<;>exact hk6,hkr6,e6⟩ rfl ?_;rintro q h7 ⟨hq,hs7,hk7,hkr7,e7⟩ ih;refine af ?_;refine aN (λhq4=>?_) (λhq4=>?_)
     · have hq4':q<4:=by omega
       refine af ?_;refine jS (λhb=>?_) (λhb=>?_)
       · rw[if_pos hb] at hk7;have hk7':aC h7 h1.size 105 [.int .i64 1,C8 acc q 0,C8 acc q 1,C8 acc q 2,C8 acc q 3,.slice none 0 0]:=hk7;refine cI ?_
         iterate 3 refine aR ?_
         refine xp rfl (y8 rfl rfl q rfl hq4') ?_;refine xp rfl (aA rfl (hk7.cell (Jd acc q hq4'))) ?_;refine xp rfl (az.Ot rfl) ?_;refine aR ?_;refine xp rfl (y8 rfl rfl q rfl hq4') ?_;refine aO rfl (iG rfl rfl hk7') ?_;rintro _ h8 ⟨rfl,hk8,hx8,hz8⟩;refine af ?_;have hk8:aC h8 h1.size 105 (MK acc (q+1)):=by rw[<-KQ acc q hq4',<-Ny (AN acc q)];exact hk8
         exact ih (q+1) ⟨by omega,aC.ext hs7 hx8 (by show ¬_=_;omega),by rw[if_pos hb];exact hk8,hkr7.ext hx8 (by show ¬_=_;omega),kZ.only e7 hx8 (by omega)⟩
       · rw[if_neg (by rw[hb];decide)] at hk7;refine af ?_;exact ih (q+1) ⟨by omega,hs7,by rw[if_neg (by rw[hb];decide)];exact hk7,hkr7,e7⟩
     · obtain rfl:q=4:=by omega
       have hfin:MK acc (if nt then 4 else 0)=bP 1 (if l.head? =some 94 then jt acc else acc) (.slice none 0 0):=by
        subst hnt
        by_cases hd:l.head? =some 94<;>simp[hd]<;>rfl
       rw[hfin] at hk7;have hbr2:dw l=some (.mk 1 (if l.head? =some 94 then jt acc else acc) [],m.tail):=by rw[hbr,htgt];rfl
       generalize (if l.head? =some 94 then jt acc else acc)=fs at hk7 hbr2;refine af ?_;refine xp rfl (cj rfl hk7.row) ?_;refine aO rfl (aZ rfl rfl hkr7 (aI.one (b8 h7 (only rb) 1 fs))) ?_;rintro _ h8 ⟨rfl,hk8,hx8,hz8⟩;refine af ?_;have hk8:aC h8 h.size 105 (bP 1 fs (.slice none 0 0)):=hk8;refine cE (cz rfl hk8.row cD) ?_;exact⟨_,m.tail,hbr2,⟨_,rfl,b8 _ _ _ _⟩,aC.ext hs7 hx8 (by show ¬_=_;omega),kZ.only e7 hx8 (Nat.le_refl _)⟩
theorem eP {cs:List Value}(k:aI h (B8 m) cs x) (J:n<=m) (e:Ext M h h') (Y:∀b,b<h.size->M b->b<m):aI h' (B8 n) cs x :=
 k.mv (Mv.bY e λb U I=>⟨λhm=>I (Y b U hm),λk=>I (Nat.lt_of_lt_of_le k J)⟩)
theorem I1 {cs ds:List Value}(h:cs.length=ds.length):over cs 0 ds=ds:=by
 unfold over;rw[List.drop_of_length_le (by omega)];simp
theorem sG {O:Nat->Prop}{v:Value}{xs:List Nd}(kind:Nat) (hv:aL mX h O v xs):au prog 116 #[.int .i64 (kind:Nat),v] h (bK λr h'=>(∃w,r= .agg (bP (bg kind xs).kind (bg kind xs).set w).toArray/\aI h' O (bP (bg kind xs).kind (bg kind xs).set w) (bg kind xs))/\aj h h'):=by
 obtain⟨oa,n,c,rfl,hsl⟩:=hv.open;have hn:=hsl.len;refine bJ ?_;refine af ?_;refine xo rfl (cL) ?_;rintro _ h1 ⟨rfl,hk,he,hz⟩;refine af ?_;have hk:aC h1 h.size 105 (bP 0 0 (.slice none 0 0)):=hk;have hsl1:=hsl.mv (Mv.ah he);have hv1:=hv.ah he;refine aN (λe0=>?_) (λe0=>?_)
 · obtain rfl:n=0:=by omega
   have hx:xs=[]:=List.eq_nil_of_length_eq_zero hn;subst hx;refine af ?_;refine xp rfl (av (H.E7 ) rfl) ?_;refine aO rfl (aZ rfl rfl hk) ?_;rintro _ h2 ⟨rfl,hk2,hx2,hz2⟩;refine af ?_;have hk2:aC h2 h.size 105 (bP 0 0 (.slice none 0 0)):=hk2;refine cE (cz rfl hk2.row cD) ?_;exact⟨_,rfl,⟨_,rfl,b8 _ _ 0 0⟩,aj.only he hx2 (Nat.le_refl _)⟩
 · refine af ?_;refine aN (λe1=>?_) (λe1=>?_)
   · obtain rfl:n=1:=by omega
     obtain⟨x,rfl⟩:=List.length_eq_one_iff.1 hn;obtain⟨b,o,cs,ha,ho,hr,hR⟩:=hsl.get 0 x rfl;have hr:=he.rowAt (λk=>k) hr;obtain⟨w,rfl,hw⟩:=aI.open hR;refine aQ ?_;refine cI ?_;refine aR ?_;refine xp rfl (bZ rfl rfl 0 rfl ha (by decide)) ?_;refine xp rfl (cj rfl hr) ?_;refine aO rfl (aZ rfl rfl hk (mX.one hR)) ?_;rintro _ h2 ⟨rfl,hk2,hx2,hz2⟩;refine af ?_;have hk2:aC h2 h.size 105 (bP x.kind x.set w):=hk2;refine cE (cz rfl hk2.row cD) ?_;exact⟨_,rfl,⟨w,rfl,aI.ah hR (aj.only he hx2 (Nat.le_refl _))⟩,aj.only he hx2 (Nat.le_refl _)⟩
   · refine af ?_;refine xp rfl (av (H.ug _ _ _ _) rfl) ?_;refine aO rfl (aZ rfl rfl hk) ?_;rintro _ h2 ⟨rfl,hk2,hx2,hz2⟩;refine af ?_;have hk2:aC h2 h.size 105 (bP kind 0 (.slice oa n c)):=hk2;refine cE (cz rfl hk2.row cD) ?_
     have hj:bg kind xs= .mk kind 0 xs:=by
      unfold bg;split
      · simp at hn;omega
      · simp at hn;omega
      · rfl
     rw[hj];exact⟨_,rfl,⟨.slice oa n c,rfl,aI.of kind 0 (hv.ah (aj.only he hx2 (Nat.le_refl _)))⟩,aj.only he hx2 (Nat.le_refl _)⟩
def Sg (h:aq) (lim:Nat):Prop:=∃m,4<lim/\m<lim/\cellAt h ⟨4,0,none⟩=some (.map (some m)) /\
 ∃l:List (Int×Int),fU (Value.int .u8) (Value.int .i64) h m l/\∀c:UInt8,((mY (c.toNat:Int) l).map (Value.int .i64)).getD (Value.int .i64 0)=Value.int .i64 (ck c:Nat)
theorem Sg.ext {h h':aq}{lim:Nat}(k:Sg h lim){M:Nat->Prop}(e:Ext M h h') (I:∀b,M b->lim<=b):Sg h' lim:=by
 obtain⟨m,h1,Z,Y,l,U,J⟩:=k;exact⟨m,h1,Z,e.cell (λk=>absurd (I _ k) (by show ¬lim<=4;omega)) Y,l,U.ext e (λk=>by have:=I _ k;omega),J⟩
def yM (d lim:Nat):Prop:=∀(h:aq) (rb:Nat) (l:By),Sg h lim->lim<=rb->St h rb l->l.length<d->l.length<=1000000 ->
 au prog 78 #[D7 rb] h (PR rb h (ct d l) (Fi h.size))
theorem E9 (ih:yM d lim) (hg:Sg h lim) (hrb:lim<=rb) (hs:St h rb l) (hd:l.length<=d) (hl:l.length<=1000000):au prog 151 #[D7 rb] h (PR rb h (cU (ct d) l) (Fi h.size)):=by
 have hlt:=hs.lt;refine bJ ?_;refine af ?_;refine xo rfl (cL) ?_;rintro _ h1 ⟨rfl,hkr,he1,hz1⟩;refine af ?_;refine xp rfl (av (H.F8 _) rfl) (xo rfl (cL) ?_);rintro _ h2 ⟨rfl,hk2,he2,hz2⟩;refine aO rfl (aZ rfl rfl hk2) ?_;rintro _ h3 ⟨rfl,hk3,hx3,hz3⟩;have hk3:aC h3 h1.size 105 (bP 1 0 (.slice none 0 0)):=hk3;have hkr:aC h1 h.size 105 (bP 0 0 (.slice none 0 0)):=hkr;have e3:aj h h3:=aj.only (he1.trans he2) hx3 (by omega);have hkr3:aC h3 h.size 105 (bP 0 0 (.slice none 0 0)):=(hkr.ah he2).ext hx3 (by show ¬_=_;omega);have hs3:St h3 rb l:=aC.ah hs e3;refine af ?_;refine xo rfl (yZ rfl (gy hs3 hl) ((λ_ _ ⟨hc,hp,hx⟩=>ey hc (by rw[jY hp];rfl) ((aj.of e3).trans hx)))) ?_;rintro _ h4 ⟨c,r,hp,rfl,hs4,hx4⟩;obtain rfl:=gz hp;simp only[List.length_cons] at hl hd;have hkr4:=hkr3.ext hx4 (by show ¬_=_;omega);have hk4:=hk3.ext hx4 (by show ¬_=_;omega);have e4:Ext (only rb) h h4:=(aj.of e3).trans hx4;have hz4:=hx4.size;have hg4:Sg h4 lim:=hg.ext e4 (λb (hb:b=rb)=>by omega);refine af ?_
 have fin:∀(x:Nd) (w:Value) (m:By) (h':aq) (ρ':Env),Sub [(0,D7 rb),(2,.pointer (some ⟨h.size,0,none⟩)),(3,.pointer (some ⟨h1.size,0,none⟩))] ρ'->aC h' h1.size 105 (bP x.kind x.set w)->aC h' h.size 105 (bP 0 0 (.slice none 0 0))->St h' rb m->aI h' (B8 (h.size+1)) (bP x.kind x.set w) x->Ext (only rb) h h'->cU (ct d) (c::r)=some (x,m)->G prog 151 f151 [.code [1,1,1]] ρ' h' (PR rb h (cU (ct d) (c::r)) (Fi h.size)):=by
  rintro x w m hh ρ' hsub hkx hkrr hst hnd hee hat;refine G.sub (ρ':=[(0,D7 rb),(2,.pointer (some ⟨h.size,0,none⟩)),(3,.pointer (some ⟨h1.size,0,none⟩))]) hsub ?_;refine af ?_;refine xp rfl (cj rfl hkx.row) (aO rfl (aZ rfl rfl hkrr (aI.one hnd)) ?_);rintro _ h9 ⟨rfl,hk9,hx9,hz9⟩;refine af ?_;have hk9:aC h9 h.size 105 (bP x.kind x.set w):=hk9;refine cE (cz rfl hk9.row cD) ?_;exact⟨x,m,hat,⟨w,rfl,eP hnd (Nat.le_succ _) hx9 (λb _ (hb:b=h.size)=>by omega)⟩,aC.ext hst hx9 (by show ¬_=_;omega),kZ.only hee hx9 (Nat.le_refl _)⟩
 refine aN (λc1=>?_) (λc1=>?_)
 · have c1:c=40:=(bz rfl).1 c1;subst c1;refine af ?_;refine xo rfl (yZ rfl (ih h4 rb r hg4 hrb hs4 (by omega) (by omega)) ((λ_ _ ⟨hc,hp,hx⟩=>ey hc (by unfold cU;simp[hp]) (e4.trans hx)))) ?_;rintro _ h5 ⟨x,r5,hp5,⟨w,rfl,hnd5⟩,hs5,hx5⟩;have hk5:=hk4.ext hx5 (by show ¬_=_;omega);have hkr5:=hkr4.ext hx5 (by show ¬_=_;omega);have hr5:=jT d hp5;refine aO rfl (aZ rfl rfl hk5 (aI.one hnd5)) ?_;rintro _ h6 ⟨rfl,hk6,hx6,hz6⟩;refine af ?_;have hk6:aC h6 h1.size 105 (bP x.kind x.set w):=hk6;have hs6:St h6 rb r5:=aC.ext hs5 hx6 (by show ¬_=_;omega);have hnd6:aI h6 (B8 (h.size+1)) (bP x.kind x.set w) x:=eP hnd5 (by omega) hx6 (λb _ (hb:b=h1.size)=>by omega);have e6:=kZ.only (e4.trans hx5) hx6 (by omega);refine xo rfl (yZ rfl (wX 41 hs6 (by omega)) ((λ_ _ ⟨hc,hp,hx⟩=>ey hc (by unfold cU;simp only[if_true,hp5];split;rename_i t ht;cases ht;simp at hp;rfl) (e6.trans hx)))) ?_;rintro _ h7 ⟨_,r7,hp7,_,hs7,hx7⟩;refine cO (aQ ?_)
   have hcl:r5=41::r7:=by
    split at hp7
    · rename_i hh;cases hp7;cases r5 with|nil=>cases hh|cons a b=>simp at hh;subst hh;rfl
    · cases hp7
   subst hcl;exact fin x w r7 _ _ (by exact sb rfl) (hk6.ext hx7 (by show ¬_=_;omega)) ((hkr5.ext hx6 (by show ¬_=_;omega)).ext hx7 (by show ¬_=_;omega)) hs7 (eP hnd6 (Nat.le_refl _) hx7 (λb _ (hb:b=rb)=>by omega)) (e6.trans hx7) (by unfold cU;simp[hp5])
 · have c1:¬c=40:=λe=>c1 ((bz rfl).2 e)
   refine af ?_;refine aN (λc2=>?_) (λc2=>?_)
   · have c2:c=91:=(bz rfl).1 c2;refine af ?_;refine xo rfl (yZ rfl (zy hs4 (by omega)) ((λ_ _ ⟨hc,hp,hx⟩=>ey hc (by unfold cU;simp[c2,hp]) (e4.trans hx)))) ?_;rintro _ h5 ⟨x,r5,hp5,⟨w,rfl,hnd5⟩,hs5,hx5⟩;have hk5:=hk4.ext hx5 (by show ¬_=_;omega);have hkr5:=hkr4.ext hx5 (by show ¬_=_;omega);refine aO rfl (aZ rfl rfl hk5 (aI.one hnd5)) ?_;rintro _ h6 ⟨rfl,hk6,hx6,hz6⟩;refine cO (aQ ?_);have hk6:aC h6 h1.size 105 (bP x.kind x.set w):=hk6;exact fin x w r5 _ _ (by exact sb rfl) hk6 (hkr5.ext hx6 (by show ¬_=_;omega)) (aC.ext hs5 hx6 (by show ¬_=_;omega)) (eP hnd5 (by omega) hx6 (λb _ (hb:b=h1.size)=>by omega)) (kZ.only (e4.trans hx5) hx6 (by omega)) (by unfold cU;simp[c2,hp5])
   · have c2:¬c=91:=λe=>c2 ((bz rfl).2 e)
     refine af ?_;refine aN (λc3=>?_) (λc3=>?_)
     · have c3:c=46:=(bz rfl).1 c3;refine af ?_;refine xo rfl (aE rfl (iM hk4 0 9)) ?_;rintro _ h5 ⟨hk5,hx5⟩;refine af ?_;refine xo rfl (aE rfl (iM hk5 11 255)) ?_;rintro _ h6 ⟨hk6,hx6⟩;refine cO (aQ ?_);have hx56:=hx5.trans hx6;exact fin DG (.slice none 0 0) r _ _ (by exact sb rfl) hk6 (hkr4.ext hx56 (by show ¬_=_;omega)) (aC.ext hs4 hx56 (by show ¬_=_;omega)) (b8 _ _ _ _) (kZ.only e4 hx56 (by omega)) (by unfold cU;simp[c3])
     · have c3:¬c=46:=λe=>c3 ((bz rfl).2 e)
       refine af ?_;refine aN (λc4=>?_) (λc4=>?_)
       · have c4:c=92:=(bz rfl).1 c4;refine af ?_;refine xo rfl (yZ rfl (qI hs4 (by omega)) ((λ_ _ ⟨hc,hp,hx⟩=>ey hc (by unfold cU;simp[c4,hp]) (e4.trans hx)))) ?_;rintro _ h5 ⟨b,r5,hp5,rfl,hs5,hx5⟩;have hk5:=hk4.ext hx5 (by show ¬_=_;omega);have hkr5:=hkr4.ext hx5 (by show ¬_=_;omega);refine af ?_;refine xo rfl (aE rfl (iM hk5 b b)) ?_;rintro _ h6 ⟨hk6,hx6⟩;refine cO (aQ ?_);exact fin (rH b) (.slice none 0 0) r5 _ _ (by exact sb rfl) hk6 (hkr5.ext hx6 (by show ¬_=_;omega)) (aC.ext hs5 hx6 (by show ¬_=_;omega)) (b8 _ _ _ _) (kZ.only (e4.trans hx5) hx6 (by omega)) (by unfold cU;simp[c4,hp5])
       · have c4:¬c=92:=λe=>c4 ((bz rfl).2 e)
         refine af ?_;refine aN (λd41=>?_) (λd41=>?_)
         · have d41:c=41:=(bz rfl).1 d41;refine af ?_;refine dc rfl (by rw[d41];decide) ?_;refine af ?_;refine xp rfl (av (H.iW ) rfl) ?_;refine af ?_;refine aO rfl (dJ (Φ:=λ_ _=>False) rfl (ey rfl (by unfold cU;simp[d41]) e4)) ?_;rintro _ _ hpn;exact hpn.elim
         · have d41:¬c=41:=λe=>d41 ((bz rfl).2 e)
           refine af ?_;refine aN (λd93=>?_) (λd93=>?_)
           · have d93:c=93:=(bz rfl).1 d93;refine af ?_;refine dc rfl (by rw[d93];decide) ?_;refine af ?_;refine xp rfl (av (H.iW ) rfl) ?_;refine af ?_;refine aO rfl (dJ (Φ:=λ_ _=>False) rfl (ey rfl (by unfold cU;simp[d93]) e4)) ?_;rintro _ _ hpn;exact hpn.elim
           · have d93:¬c=93:=λe=>d93 ((bz rfl).2 e)
             refine af ?_;refine aN (λd124=>?_) (λd124=>?_)
             · have d124:c=124:=(bz rfl).1 d124;refine af ?_;refine dc rfl (by rw[d124];decide) ?_;refine af ?_;refine xp rfl (av (H.iW ) rfl) ?_;refine af ?_;refine aO rfl (dJ (Φ:=λ_ _=>False) rfl (ey rfl (by unfold cU;simp[d124]) e4)) ?_;rintro _ _ hpn;exact hpn.elim
             · have d124:¬c=124:=λe=>d124 ((bz rfl).2 e)
               refine af ?_;refine aN (λd42=>?_) (λd42=>?_)
               · have d42:c=42:=(bz rfl).1 d42;refine af ?_;refine dc rfl (by rw[d42];decide) ?_;refine af ?_;refine xp rfl (av (H.iW ) rfl) ?_;refine af ?_;refine aO rfl (dJ (Φ:=λ_ _=>False) rfl (ey rfl (by unfold cU;simp[d42]) e4)) ?_;rintro _ _ hpn;exact hpn.elim
               · have d42:¬c=42:=λe=>d42 ((bz rfl).2 e)
                 refine af ?_;refine aN (λd43=>?_) (λd43=>?_)
                 · have d43:c=43:=(bz rfl).1 d43;refine af ?_;refine dc rfl (by rw[d43];decide) ?_;refine af ?_;refine xp rfl (av (H.iW ) rfl) ?_;refine af ?_;refine aO rfl (dJ (Φ:=λ_ _=>False) rfl (ey rfl (by unfold cU;simp[d43]) e4)) ?_;rintro _ _ hpn;exact hpn.elim
                 · have d43:¬c=43:=λe=>d43 ((bz rfl).2 e)
                   refine af ?_;refine aN (λd63=>?_) (λd63=>?_)
                   · have d63:c=63:=(bz rfl).1 d63;refine af ?_;refine xp rfl (av (H.iW ) rfl) ?_;refine af ?_;refine aO rfl (dJ (Φ:=λ_ _=>False) rfl (ey rfl (by unfold cU;simp[d63]) e4)) ?_;rintro _ _ hpn;exact hpn.elim
                   · have d63:¬c=63:=λe=>d63 ((bz rfl).2 e)
                     refine af ?_;refine xo rfl (aE rfl (iM hk4 c c)) ?_;rintro _ h6 ⟨hk6,hx6⟩;refine cO (aQ ?_);exact fin (rH c) (.slice none 0 0) r _ _ (by exact sb rfl) hk6 (hkr4.ext hx6 (by show ¬_=_;omega)) (aC.ext hs4 hx6 (by show ¬_=_;omega)) (b8 _ _ _ _) (kZ.only e4 hx6 (by omega)) (by unfold cU;simp[c1,c2,c3,c4,d41,d93,d124,d42,d43,d63])
theorem A2 {ρ:Env}{dst:Option Nat}{ty:TypeId}{pos:String}{after:Array Edge}{guard:Option (Nat×Bool)}{x y:Operand}{l:List (Int×Int)}
 (J:bp ρ x=some (.map (some m))) (I:bp ρ y=some (.int .u8 (c.toNat:Nat))) (hm:fU (Value.int .u8) (Value.int .i64) h m l) (U:∀c:UInt8,((mY (c.toNat:Int) l).map (Value.int .i64)).getD (Value.int .i64 0)=Value.int .i64 (ck c:Nat)) :
 az prog ⟨dst,.lookup 228 x y false,ty,pos,after,guard⟩ ρ h (.int .i64 (ck c:Nat)):=by
 have:=rK (P:=prog) (ρ:=ρ) (h:=h) (dst:=dst) (ty:=ty) (pos:=pos) (after:=after) (guard:=guard) (kR.int .u8) underlying228 underlying5 (z:=.int .i64 0) (et:=3) (by kernel_rfl) J I rfl hm
 rwa [U c] at this
theorem uG (h:0<ck c):dL x (c::r)=dL (.mk (ck c) 0 [x]) r:=by
 rw[dL,if_neg (by omega)]
theorem uF {m:By}(h:ck (m.head?.getD 0)=0):dL x m=(x,m):=by
 cases m with
 |nil=>rfl
 |cons c r=>rw[dL,if_pos (by simpa using h)]
theorem CS (ih:yM d lim) (hg:Sg h lim) (bx:lim<=rb) (hs:St h rb l) (hd:l.length<=d) (hl:l.length<=1000000):au prog 135 #[D7 rb] h (PR rb h (fN (ct d) l) (Fi h.size)):=by
 have hlt:=hs.lt;refine bJ ?_;refine af ?_;refine xo rfl (cL) ?_;rintro _ h1 ⟨rfl,ba,ar,hz1⟩;refine af ?_;refine xo rfl (yZ rfl (E9 ih (hg.ext ar (λ_ k=>k.elim)) bx (aC.ah hs ar) hd hl) ((λ_ _ ⟨hc,hp,hx⟩=>ey hc (by unfold fN;rw[hp];rfl) ((aj.of ar).trans hx)))) ?_;rintro _ h2 ⟨x0,m0,be,⟨w0,rfl,a7⟩,bc,a8⟩;refine xo rfl (cL) ?_;rintro _ h3 ⟨rfl,b7,b',hz3⟩;refine aO rfl (aZ rfl rfl b7 (aI.one a7)) ?_;rintro _ h4 ⟨rfl,ap,bo,hz4⟩;have hz2:=a8.size;have ba:aC h1 h.size 105 (bP 0 0 (.slice none 0 0)):=ba;have ap:aC h4 h2.size 105 (bP x0.kind x0.set w0):=ap;have e2:Ext (only rb) h h2:=(aj.of ar).trans a8;have bl:=ba.ext a8 (by show ¬_=_;omega);have aw:aj h2 h4:=aj.only b' bo (Nat.le_refl _);have a6:aI h4 (λb=>b<h.size+1\/b=h2.size) (bP x0.kind x0.set w0) x0:=a7.mv (Mv.bY aw λb hb Z=>⟨λk=>k,λk=>by have:¬b<h1.size:=Z;omega⟩);have hm0:=uh (λh=>jT d h) be;have bd:fN (ct d) l=some (dL x0 m0):=by unfold fN;rw[be];rfl
 generalize bt:dL x0 m0=bm at bd;generalize hnb:h2.size=nb at ap a6 bc;have hnb1:h.size+1<=nb:=by omega
 refine af ?_;refine Kt (σ:=Nd×Value×By) (λq=>[(0,D7 rb),(2,.pointer (some ⟨h.size,0,none⟩)),(3,.pointer (some ⟨nb,0,none⟩))]) (λq h'=>St h' rb q.2.2/\aC h' nb 105 (bP q.1.kind q.1.set q.2.1)/\aC h' h.size 105 (bP 0 0 (.slice none 0 0))/\Ext (only rb) h h'/\aI h' (λb=>b<h.size+1\/b=nb) (bP q.1.kind q.1.set q.2.1) q.1/\q.2.2.length<=1000000/\dL q.1 q.2.2=bm) (λq=>q.2.2.length) ((x0,w0,m0)) ⟨aC.ah bc aw,ap,bl.ah aw,kZ.ah e2 aw,a6,by show m0.length<=_;omega,bt⟩ ?_;rintro⟨x,w,m⟩ h5 ⟨al,ag,Y,e5,U,hm,ae⟩ ih
 try dsimp only
 dsimp only at al ag U hm ae;have b_:Sg h5 lim:=hg.ext e5 (λb (hb:b=rb)=>by omega);obtain⟨mp,hm1,hm2,an,lm,am,ak⟩:=b_;refine af ?_;refine rP (bF rfl (aA rfl an) ?_);refine af ?_;refine Pd (wW al) (bF rfl (A2 rfl rfl am ak) ?_);refine af ?_;refine aN (λad=>?_) (λad=>?_)
 · have ad:0<ck (m.head?.getD 0):=by omega
   obtain⟨c,r,rfl⟩:=List.exists_cons_of_ne_nil (fun(e:m=[])=>by rw[e] at ad;revert ad;decide);have ad:0<ck c:=ad;rw[uG ad] at ae;simp only[List.length_cons] at hm;have hlt5:=ag.lt;have hltr:=Y.lt
   have b2:¬((⟨4,0,none⟩:Addr).block=rb\/Array.size h5<=(⟨4,0,none⟩:Addr).block):=by
    show ¬(4=rb\/Array.size h5<=4);omega
   have b1:¬(nb=rb\/Array.size h5<=nb):=by omega
   have bi:¬(mp=rb\/Array.size h5<=mp):=by omega
   have ca:¬(h5.size<h.size+1\/h5.size=nb):=by have:=Y.lt;omega
   refine af ?_;refine jK 8 (λb=>b=rb\/Array.size h5<=b) (λi=>Nat.blt i 7) (bq 0 rfl (λh' e=>aA rfl (e.cell b2 an)) (aF 1 (bq 4 rfl (λh' e=>cj rfl (e.rowAt b1 ag.row)) (Nv 2 5 rfl rfl (yZ rfl (gy al (by simp only[List.length_cons];omega)) ((λ_ _ ⟨_,hp,_⟩=>by cases hp))) (lg) ?_ ?_))))
   · rintro _ h6 ⟨_,_,a',rfl,a_,I⟩;refine⟨λ_=>I.mono (λ_ _ k=>.inl k),?_⟩;cases a';have aa:=am.ext I (by show ¬_=_;omega);have bb:=I.size;have ac:=ag.ext I (by show ¬_=_;omega);have bh:aI h6 (λb=>b<h.size+1\/b=nb) (bP x.kind x.set w) x:=U.mv (Mv.bY I λb hb Z=>⟨fun(k:b=rb)=>Z (.inl (by omega)),Z⟩);refine bq 3 rfl (λh' e=>A2 rfl rfl (aa.ext e bi) ak) (cV 5 rfl (lg) ?_);rintro _ _ ⟨rfl,rfl⟩;refine⟨λ_=>by first|exact Ext.push _ _ _|assumption,?_⟩;refine bq 6 rfl (λh' e=>av (H.ug _ _ _ _) rfl) ?_;have ao:=aL.kC (e:=mX) (t:=105) bh (show ¬(h6.size<h.size+1\/h6.size=nb) by omega);have ep:=Ext.push (λ_=>False) h6 (.cells (bP x.kind x.set w).toArray 105);have b5:=ac.ah ep;have bv:St _ rb r:=aC.ah a_ ep;have bj:=(Y.ext I (by show ¬_=_;omega)).ah ep;have e7:=kZ.ah (e5.trans I) ep;refine gU 7 rfl (aZ rfl rfl b5 (aI.one (aI.of (ck c) 0 ao))) ?_;rintro _ h8 ⟨rfl,ab,J,bn⟩;refine⟨nofun,?_⟩;refine fV ?_;refine af ?_;have ab:aC h8 nb 105 (bP (ck c) 0 (.slice (some ⟨h6.size,0,none⟩) 1 1)):=ab;exact ih (.mk (ck c) 0 [x],.slice (some ⟨h6.size,0,none⟩) 1 1,r) ⟨aC.ext bv J (by show ¬_=_;omega),ab,bj.ext J (by show ¬_=_;omega),kZ.only e7 J (by omega),(aI.of (ck c) 0 ao).mv (Mv.bY J λb hb Z=>⟨fun(k:b=nb)=>Z (.inr k),Z⟩),by show r.length<=_;omega,ae⟩ (by show r.length<(c::r).length;simp)
   · rintro _ _ ⟨rfl,rfl⟩;refine⟨λ_=>by first|exact Ext.push _ _ _|assumption,?_⟩;have ao:=aL.kC (e:=mX) (t:=105) U ca;have ep:=Ext.push (λ_=>False) h5 (.cells (bP x.kind x.set w).toArray 105);refine cV 2 rfl (yZ rfl (gy (aC.ah al ep) (by simp only[List.length_cons];omega)) ((λ_ _ ⟨_,hp,_⟩=>by cases hp))) ?_;rintro _ h6 ⟨_,_,a',rfl,a_,I⟩;refine⟨λ_=>I.mono (λ_ _ k=>.inl k),?_⟩;cases a';have aa:=(am.ext ep (λk=>k)).ext I (by show ¬_=_;omega);have bb:=I.size;have hzp:(h5.push (.cells (bP x.kind x.set w).toArray 105)).size=h5.size+1:=by simp
     have ac:=(ag.ah ep).ext I (by show ¬_=_;omega);have bk:=(Y.ah ep).ext I (by show ¬_=_;omega);have b0:¬(mp=rb\/Array.size h5<=mp):=bi;refine bq 3 rfl (λh' e=>A2 rfl rfl (aa.ext e b0) ak) (bq 6 rfl (λh' e=>av (H.ug _ _ _ _) rfl) ?_);have a1:aL mX h6 (λb=>b<h.size+1\/b=nb) (.slice (some ⟨h5.size,0,none⟩) 1 1) [x]:=ao.mv (Mv.bY I λb hb Z=>⟨fun(k:b=rb)=>Z (.inl (by omega)),Z⟩);refine gU 7 rfl (aZ rfl rfl ac (aI.one (aI.of (ck c) 0 a1))) ?_;rintro _ h8 ⟨rfl,ab,J,bn⟩;refine⟨nofun,?_⟩;refine fV ?_;refine af ?_;have ab:aC h8 nb 105 (bP (ck c) 0 (.slice (some ⟨h5.size,0,none⟩) 1 1)):=ab;exact ih (.mk (ck c) 0 [x],.slice (some ⟨h5.size,0,none⟩) 1 1,r) ⟨aC.ext a_ J (by show ¬_=_;omega),ab,bk.ext J (by show ¬_=_;omega),kZ.only ((kZ.ah e5 ep).trans I) J (by omega),(aI.of (ck c) 0 a1).mv (Mv.bY J λb hb Z=>⟨fun(k:b=nb)=>Z (.inr k),Z⟩),by show r.length<=_;omega,ae⟩ (by show r.length<(c::r).length;simp)
 · rw[uF (by omega)] at ae;refine af ?_;refine xp rfl (cj rfl ag.row) (aO rfl (aZ rfl rfl Y (aI.one U)) ?_);rintro _ h6 ⟨rfl,ac,I,bb⟩;refine af ?_;have ac:aC h6 h.size 105 (bP x.kind x.set w):=ac;refine cE (cz rfl ac.row cD) ?_;exact⟨x,m,by rw[bd,<-ae],⟨w,rfl,U.mv (Mv.bY I λb hb Z=>⟨fun(k:b=h.size)=>Z (.inl (by omega)),fun(k:b<h.size)=>Z (.inl (by omega))⟩)⟩,aC.ext al I (by show ¬_=_;omega),kZ.only e5 I (Nat.le_refl _)⟩
theorem zQ (ih:yM d lim) (hg:Sg h lim) (bj:lim<=rb) (hs:St h rb l) (hd:l.length<=d) (hl:l.length<=1000000):au prog 114 #[D7 rb] h (PR rb h (A7 (ct d) l) (Fi h.size)):=by
 have hlt:=hs.lt;have an:∀{s x r},ct d s=some (x,r)->r.length<=s.length:=λh=>jT d h
 refine bJ ?_;refine af ?_;refine xo rfl (cL) ?_;rintro _ h1 ⟨rfl,ar,a_,hz1⟩;refine af ?_;have ar:aC h1 h.size 105 (bP 0 0 (.slice none 0 0)):=ar;generalize a7:oP (ct d) (l.length+1) l=ab;have al:A7 (ct d) l=ab.map λp=>(bg 2 p.1,p.2):=by unfold A7;rw[a7]
 have a6:ab.map (λp=>(([]:List Nd)++p.1,p.2))=ab:=by cases ab<;>rfl
 refine fK (σ:=List Nd×Value×By) (λq=>[(3,q.2.1)]) (λq h'=>St h' rb q.2.2/\cH mX (B8 h1.size) h' h1.size 105 q.2.1 q.1/\aC h' h.size 105 (bP 0 0 (.slice none 0 0))/\Ext (only rb) h h'/\q.2.2.length+q.1.length<=l.length/\(oP (ct d) (q.2.2.length+1) q.2.2).map (λp=>(q.1++p.1,p.2))=ab) (λq=>q.2.2.length) (([],.slice none 0 0,l)) ⟨aC.ah hs a_,cH.nil _ _ _ _ _,ar,aj.of a_,by show l.length+0<=_;omega,by rw[a7];exact a6⟩ rfl ?_;rintro⟨acc,v,m⟩ h5 ⟨ac,am,ae,e5,hm,aa⟩ bc
 try dsimp only
 dsimp only at ac am hm aa
 iterate 2 refine aQ ?_
 refine dU [(24,.bool (!iQ m))] rfl ?_ ?_
 · refine af ?_;refine xp rfl (aA rfl ac.cell) ?_;refine af ?_;refine cX 9 (λhe=>?_) (λhe=>?_)
   · have ao:¬bs m=⟨#[]⟩:=of_decide_eq_true he;obtain⟨c,r,rfl⟩:=List.exists_cons_of_ne_nil (fun(e:m=[])=>ao (by rw[e];rfl));refine af ?_;refine xp rfl (aA rfl ac.cell) (xp rfl (tq rfl rfl 0 rfl (eH rfl)) ?_);refine af ?_;refine cX 17 (λI=>?_) (λI=>?_)
     · have I:¬c=124:=λe=>(of_decide_eq_true I) ((bz rfl).2 e)
       refine af ?_;refine xp rfl (aA rfl ac.cell) (xp rfl (tq rfl rfl 0 rfl (eH rfl)) ?_);refine af ?_;exact aD rfl ⟨ai rfl (by simp only[iQ];rw[show (c ==124)=false by simpa using I,Bool.false_or,show (c ==41)=decide (c=41) by rw[Bool.eq_iff_iff];simp,<-decide_not];exact decide_eq_decide.2 (not_congr (bz rfl))),sb rfl⟩
     · have I:c=124:=(bz rfl).1 (Classical.not_not.1 (of_decide_eq_false I));refine af ?_;exact aD rfl ⟨ai rfl (by simp[iQ,I]),sb rfl⟩
   · have ao:bs m=⟨#[]⟩:=Classical.not_not.1 (of_decide_eq_false he);obtain rfl:m=[]:=dF ao;refine af ?_;exact aD rfl ⟨ai rfl (by rfl),sb rfl⟩
 · obtain⟨css,bn,bb,bm⟩:=id am;have hlt5:=ae.lt;have hz5:=e5.size;refine jS (λa1=>?_) (λa1=>?_)
   · have ag:iQ m=false:=by simpa using a1
     have Z:ab=(match fN (ct d) m with|none=>none|some (x,r)=>((oP (ct d) (r.length+1) r).map λp=>(x::p.1,p.2)).map (λp=>(acc++p.1,p.2))):=by
      rw[<-aa,oP,if_neg (by rw[ag];decide)];cases hp:fN (ct d) m with
      |none=>rfl
      |some q =>
       obtain⟨x,r⟩:=q;have:=gF an hp;simp only;rw[zR an m.length (r.length+1) r (by omega) (by omega)]
     refine af ?_;refine xo rfl (yZ rfl (CS ih (hg.ext e5 (λb (hb:b=rb)=>by omega)) bj ac (by omega) (by omega)) ((λ_ _ ⟨hc,hp,hx⟩=>ey hc (by rw[al,Z,hp];rfl) (e5.trans hx)))) ?_;rintro _ h6 ⟨x,r,hp,⟨w,rfl,Y⟩,bi,ad⟩;have hr6:=gF an hp;have bd:=ad.size;have U:∀b,v.ownBlock=some b->h1.size<=b/\b<h5.size:=λb hb=>bb.lt hb
     have ba:=bb.ext ad (λb hb (k:b=rb)=>by have:=U b hb;omega);have a':∀(i:Nat) (cs:List Value) (x:Nd),css[i]? =some cs->acc[i]? =some x->mX.R h6 (λb=>bU v.ownBlock b\/b<h1.size) cs x:=λi cs x bt bo=>mX.mv (bm i cs x bt bo) (Mv.bY ad λb hb hn=>⟨fun(k:b=rb)=>hn (.inr (by show b<_;omega)),hn⟩)
     have ap:mX.R h6 (λb=>bU v.ownBlock b\/b<h1.size) (bP x.kind x.set w) x:=aI.mv Y ⟨Nat.le_refl _,λb hb hn=>⟨rfl,λk=>by
      have hn:¬b<h5.size:=hn
      rcases k with k|k
      · have:=U b k.symm;omega
      · omega⟩⟩
     refine xo rfl (lg) ?_;rintro _ _ ⟨rfl,rfl⟩;refine xo rfl (aV.dA underlying103 H.JQ rfl rfl (ba) rfl rfl (aI.one Y) (by omega) (by decide) (by omega)) ?_;rintro v7 h7 ⟨bl,J,-,be⟩;refine af ?_;have a8:¬bU v.ownBlock rb:=λk=>by have:=U rb k.symm;omega
     have bk:¬bU v.ownBlock h.size:=λk=>by have:=U _ k.symm;omega
     have e7:Ext (only rb) h h7:=⟨by have:=J.size;omega,λb hb hn=>by rw[J.block b (by omega) (λk=>by have:=U b k.symm;omega)];exact(e5.trans ad).block b hb hn⟩
     rw[hp] at Z;exact bc (acc++[x],v7,r) ⟨aC.ext bi J a8,cH.eC bn a' bl J be ap,(ae.ext ad (by show ¬_=_;omega)).ext J bk,e7,by show r.length+(acc++[x]).length<=_;rw[List.length_append,List.length_singleton];omega,by rw[Z];simp only[Option.map_map];congr 1;funext p;simp⟩
   · have ag:iQ m=true:=by simpa using a1
     rw[oP,if_pos ag] at aa;have bh:aL mX h5 (B8 h1.size) v acc:=am.read (λb hb (k:b<h1.size)=>by omega) (λb _ k=>k);refine af ?_;refine xo rfl (aE rfl (sG 2 bh)) ?_;rintro _ h6 ⟨⟨w,rfl,Y⟩,ak⟩;refine aO rfl (aZ rfl rfl ((ae.ah ak)) (aI.one Y)) ?_;rintro _ h7 ⟨rfl,aw,J,hz7⟩;refine af ?_;have aw:aC h7 h.size 105 (bP (bg 2 acc).kind (bg 2 acc).set w):=aw;have bd:=ak.size;refine cE (cz rfl aw.row cD) ?_;exact⟨bg 2 acc,m,by rw[al,<-aa];simp,⟨w,rfl,eP Y (by omega) J (λb _ (hb:b=h.size)=>by omega)⟩,aC.ext (aC.ah ac ak) J (by show ¬_=_;omega),kZ.only (kZ.ah e5 ak) J (Nat.le_refl _)⟩
theorem GN (ih:yM d lim) (hg:Sg h lim) (a':lim<=rb) (hs:St h rb l) (hd:l.length<=d) (hl:l.length<=1000000):au prog 78 #[D7 rb] h (PR rb h (ct (d+1) l) (Fi h.size)):=by
 have hlt:=hs.lt;have ae:∀{s x r},ct d s=some (x,r)->r.length<=s.length:=λh=>jT d h
 have I:ct (d+1) l=match A7 (ct d) l with|none=>none|some (x,r)=>u9 (ct d) [x] r:=wL ae [] l
 refine bJ ?_;refine af ?_;refine xo rfl (cL) ?_;rintro _ h1 ⟨rfl,ar,ak,hz1⟩;refine af ?_;refine xo rfl (yZ rfl (zQ ih (hg.ext ak (λ_ k=>k.elim)) a' (aC.ah hs ak) hd hl) ((λ_ _ ⟨hc,hp,hx⟩=>ey hc (by rw[I,hp]) ((aj.of ak).trans hx)))) ?_;rintro _ h2 ⟨x0,m0,ba,⟨w0,rfl,bb⟩,b1,ao⟩;have ar:aC h1 h.size 105 (bP 0 0 (.slice none 0 0)):=ar;have bm:=ao.size;have hm0:=CO ae ba;have ep:=Ext.push (λ_=>False) h2 (.cells (bP x0.kind x0.set w0).toArray 105);have bo:cH mX (B8 h1.size) (h2.push (.cells (bP x0.kind x0.set w0).toArray 105)) h1.size 105 (.slice (some ⟨h2.size,0,none⟩) 1 1) [x0]:=cH.kC (e:=mX) bb bm;have b0:St _ rb m0:=aC.ah b1 ep;have bd:=(ar.ext ao (by show ¬_=_;omega)).ah ep;have e3:=kZ.ah ((aj.of ak).trans ao) ep;rw[ba] at I;simp only at I;generalize bt:u9 (ct d) [x0] m0=an at I;refine xo rfl (lg) ?_;rintro _ _ ⟨rfl,rfl⟩;refine af ?_;refine Kt (σ:=List Nd×Value×By) (λq=>[(0,D7 rb),(2,.pointer (some ⟨h.size,0,none⟩)),(3,q.2.1)]) (λq h'=>St h' rb q.2.2/\cH mX (B8 h1.size) h' h1.size 105 q.2.1 q.1/\aC h' h.size 105 (bP 0 0 (.slice none 0 0))/\Ext (only rb) h h'/\(q.2.2.length<=l.length/\q.2.2.length+q.1.length<=l.length+1)/\u9 (ct d) q.1 q.2.2=an) (λq=>q.2.2.length) (([x0],.slice (some ⟨h2.size,0,none⟩) 1 1,m0)) ⟨b0,bo,bd,e3,⟨by show m0.length<=_;omega,by show m0.length+1<=_;omega⟩,bt⟩ ?_;rintro⟨acc,v,m⟩ h5 ⟨a8,a7,am,e5,⟨bc,hm⟩,ac⟩ bk
 try dsimp only
 dsimp only at a8 a7 bc hm ac;refine af ?_;refine xo rfl (aE rfl (nq 124 a8 (by omega))) ?_;rintro _ h6 ⟨b5,ad⟩;refine af ?_;have hlt5:=am.lt;have hz5:=e5.size;have hz6:=ad.size;have al:=am.ext ad (by show ¬_=_;omega);have e6:=e5.trans ad;have a6:cH mX (B8 h1.size) h6 h1.size 105 v acc:=a7.mv (ad.mono λb _ (k:b=rb)=>(by omega:b<h1.size)) (λb hb (k:b<h1.size)=>by omega) (λb _ k=>k);obtain⟨css,b',bj,b_⟩:=id a6
 rcases b5 with ⟨a1,rfl,ab⟩|⟨a1,rfl,ab⟩
 · obtain⟨c,t,rfl⟩:=List.exists_cons_of_ne_nil (fun(e:m=[])=>by rw[e] at a1;cases a1);have ab:St h6 rb t:=ab;simp only[List.length_cons] at hm bc
   have Z:an=match A7 (ct d) t with|none=>none|some (x,r)=>u9 (ct d) (acc++[x]) r:=by
    have hG:=wL (rows:=ct d) ae acc t;rw[<-ac];refine Eq.trans ?_ hG;unfold u9;rw[if_pos a1];rfl
   refine dc rfl (by decide) ?_;refine af ?_;refine xo rfl (yZ rfl (zQ ih (hg.ext e6 (λb (hb:b=rb)=>by omega)) a' ab (by omega) (by omega)) ((λ_ _ ⟨hc,hp,hx⟩=>ey hc (by rw[I,Z,hp]) (e6.trans hx)))) ?_;rintro _ h7 ⟨x,r,hp,⟨w,rfl,Y⟩,bx,aa⟩;have hr7:=CO ae hp;have bl:=aa.size;have U:∀b,v.ownBlock=some b->h1.size<=b/\b<h6.size:=λb hb=>bj.lt hb
   have bi:=bj.ext aa (λb hb (k:b=rb)=>by have:=U b hb;omega);have bh:∀(i:Nat) (cs:List Value) (x:Nd),css[i]? =some cs->acc[i]? =some x->mX.R h7 (λb=>bU v.ownBlock b\/b<h1.size) cs x:=λi cs x cb ca=>mX.mv (b_ i cs x cb ca) (Mv.bY aa λb hb hn=>⟨fun(k:b=rb)=>hn (.inr (by show b<_;omega)),hn⟩)
   have ap:mX.R h7 (λb=>bU v.ownBlock b\/b<h1.size) (bP x.kind x.set w) x:=aI.mv Y ⟨Nat.le_refl _,λb hb hn=>⟨rfl,λk=>by
    have hn:¬b<h6.size:=hn
    rcases k with k|k
    · have:=U b k.symm;omega
    · omega⟩⟩
   refine xo rfl (lg) ?_;rintro _ _ ⟨rfl,rfl⟩;refine xo rfl (aV.dA underlying103 H.JQ rfl rfl (bi) rfl rfl (aI.one Y) (by omega) (by decide) (by omega)) ?_;rintro v8 h8 ⟨b7,J,-,bn⟩;refine af ?_;have a_:¬bU v.ownBlock rb:=λk=>by have:=U rb k.symm;omega
   have b2:¬bU v.ownBlock h.size:=λk=>by have:=U _ k.symm;omega
   have e8:Ext (only rb) h h8:=⟨by have:=J.size;omega,λb hb hn=>by rw[J.block b (by omega) (λk=>by have:=U b k.symm;omega)];exact(e6.trans aa).block b hb hn⟩
   rw[hp] at Z;exact bk (acc++[x],v8,r) ⟨aC.ext bx J a_,cH.eC b' bh b7 J bn ap,(al.ext aa (by show ¬_=_;omega)).ext J b2,e8,⟨by show r.length<=_;omega,by show r.length+(acc++[x]).length<=_;rw[List.length_append,List.length_singleton];omega⟩,Z.symm⟩ (by show r.length<(c::t).length;simp only[List.length_cons];omega)
 · refine dB rfl (by decide) ?_;have bv:aL mX h6 (B8 h1.size) v acc:=a6.read (λb hb (k:b<h1.size)=>by omega) (λb _ k=>k);have be:an=some (bg 3 acc,m):=by rw[<-ac];unfold u9;rw[if_neg a1]
   refine af ?_;refine xo rfl (aE rfl (sG 3 bv)) ?_;rintro _ h7 ⟨⟨w,rfl,Y⟩,ag⟩;refine aO rfl (aZ rfl rfl ((al.ah ag)) (aI.one Y)) ?_;rintro _ h8 ⟨rfl,aw,J,hz8⟩;refine af ?_;have aw:aC h8 h.size 105 (bP (bg 3 acc).kind (bg 3 acc).set w):=aw;have bl:=ag.size;refine cE (cz rfl aw.row cD) ?_;exact⟨bg 3 acc,m,by rw[I,be],⟨w,rfl,eP Y (by omega) J (λb _ (hb:b=h.size)=>by omega)⟩,aC.ext (aC.ah ab ag) J (by show ¬_=_;omega),kZ.only (kZ.ah e6 ag) J (Nat.le_refl _)⟩
theorem FH (lim:Nat):∀d,yM d lim
 | 0=>λ_ _ l _ _ _ h _=>absurd h (Nat.not_lt_zero _)
 |d+1=>λ_ _ _ J I hs hd hl=>GN (FH lim d) J I hs (by omega) hl
end
end Go.Proofs.YtnjahnbpnpkmhaaGreatDoor

/- What the proof of the statement leans on (part 19). -/
import Derived.Lib.Split
import Derived.Test.YtdgckfkoihcmjaaGreatDoorQr

namespace Go.Proofs.YtdgckfkoihcmjaaGreatDoor
open Go Go.Lw
theorem lU {h:aj}(s:ByteArray) (c:Int):av Tryz.prog 200 #[.string s,.int .u8 c] h (bq fun r h'=>r= .int .i64 (Lib.indexByte s.data.toList c.toNat.toUInt8)/\h'=h) :=
 av.sO fun w=>Tryz.strings_IndexByte s c w
theorem wrap_u8 {i:Int}(h:0<=i/\i<=255):IntKind.u8.wrap i=i:=by
 have h8:(2:Int) ^ 8=256:=rfl;simp only[IntKind.wrap,IntKind.bits,IntKind.signed,h8,Bool.false_and,Bool.false_eq_true,if_false];omega
end Go.Proofs.YtdgckfkoihcmjaaGreatDoor
namespace Go.Proofs.YtdgckfkoihcmjaaGreatDoor
open Go.Proofs.Tryz
open Go Go.Lw
set_option maxRecDepth 20000 set_option maxHeartbeats 4000000
section
variable {rb n m d lim:Nat}{h h':aj}{c a:UInt8}{l r:By}{x:Nd}{M:Nat->Prop}
def tP:Value:=.iface 188 (.agg #[])
def Dc (c:List PanicEntry):Prop:=c=[{ v:=tP,recovered:=false }]
def St (h:aj) (rb:Nat) (l:By):Prop:=aC h rb 191 [.string (bs l)]
abbrev BU (rb:Nat):Value:=.pointer (some ⟨rb,0,none⟩)
abbrev only (rb:Nat):Nat->Prop:=fun b=>b=rb
def PR {α:Type}(rb:Nat) (h:aj) (p:Option (α×By)) (Φ:α->Value->aj->Prop):Ending->aj->Prop :=
 C5 (fun v h'=>∃x r,p=some (x,r)/\Φ x v h'/\St h' rb r/\Ext (only rb) h h') (fun ch h'=>Dc ch/\p=none/\Ext (only rb) h h')
theorem PR.no {α:Type}{p:Option (α×By)}{Φ:α->Value->aj->Prop}{c:List PanicEntry}(hc:Dc c) (hp:p=none) (hx:Ext (only rb) h h'):PR rb h p Φ (.panicked c) h':=⟨hc,hp,hx⟩
theorem C5.no {Φ:Value->aj->Prop}{X:List PanicEntry->aj->Prop}{c:List PanicEntry}(k:X c h):C5 Φ X (.panicked c) h:=k
theorem St.cell {h:aj}{rb:Nat}{l:By}(k:St h rb l):cellAt h ⟨rb,0,none⟩=some (.string (bs l)):=aC.cell k (i:=0) rfl
theorem St.lt {h:aj}{rb:Nat}{l:By}(k:St h rb l):rb<h.size:=aC.lt k
def FP:By->Option (UInt8×By)| []=>none|c::r=>some (c,r)
theorem iZ (h:FP l=none):l=[]:=by cases l with|nil=>rfl|cons c r=>cases h
theorem fQ (h:FP l=some (c,r)):l=c::r:=by cases l with|nil=>cases h|cons d t=>cases h;rfl
theorem tS (hs:St h rb l):av Tryz.prog 176 #[BU rb] h (bq fun r h'=>r= .int .u8 ((l.head?.getD 0).toNat:Nat)/\h'=h):=by
 refine bP ?_;refine af ?_;refine xp rfl (az rfl hs.cell) ?_;refine af ?_;refine aP (fun he=>?_) (fun he=>?_)
 · have hl:l=[]:=aI he;subst hl;refine af ?_;refine bh ?_;exact⟨_,rfl,rfl,rfl⟩
 · obtain⟨c,r,rfl⟩:=List.exists_cons_of_ne_nil (fun(e:l=[])=>he (by rw[e];rfl));refine af ?_;refine xp rfl (az rfl hs.cell) ?_;refine xp rfl (sG rfl rfl 0 rfl (eJ rfl)) ?_;refine af ?_;refine bh ?_;exact⟨_,rfl,rfl,rfl⟩
theorem fP (hs:St h rb l) (hl:l.length<=1000000):av Tryz.prog 177 #[BU rb] h (PR rb h (FP l) fun c v _=>v= .int .u8 (c.toNat:Nat)):=by
 refine bP ?_;refine af ?_;refine xp rfl (az rfl hs.cell) ?_;refine af ?_;refine aP (fun he=>?_) (fun he=>?_)
 · have hl:l=[]:=aI he;subst hl;refine af ?_;refine xp rfl (au (H.gR ) rfl) ?_;refine af ?_;refine aH rfl (cT (Φ:=fun _ _=>False) rfl (PR.no rfl rfl (Ext.refl _ _))) ?_;rintro _ _ hpn;exact hpn.elim
 · obtain⟨c,r,rfl⟩:=List.exists_cons_of_ne_nil (fun(e:l=[])=>he (by rw[e];rfl));have hz:(bs (c::r)).size=r.length+1:=by rw[aL];rfl
   have hd:=eI (c::r) 1;simp only[List.length_cons] at hl;refine af ?_;refine xp rfl (az rfl hs.cell) ?_;refine xp rfl (sG rfl rfl 0 rfl (eJ rfl)) ?_;refine af ?_;refine xp rfl (az rfl hs.cell) ?_;refine xp rfl (ay.ct underlying9 rfl rfl 1 rfl (by omega)) ?_;refine af ?_;refine aH rfl (kY rfl rfl hs) ?_;rintro _ h1 ⟨rfl,hk,hx,hz1⟩;refine af ?_;refine bh ?_;exact⟨c,r,rfl,rfl,by rw[hd] at hk;exact hk,hx⟩
theorem lA (c:UInt8) (hs:St h rb l) (hl:l.length<=1000000):av Tryz.prog 137 #[BU rb,.int .u8 (c.toNat:Nat)] h (bq fun v h' =>
 ((l.head? =some c/\v= .bool true/\St h' rb l.tail)\/(l.head? ≠some c/\v= .bool false/\St h' rb l))/\Ext (only rb) h h'):=by
 refine bP ?_;refine aR ?_;refine de ?_;refine aZ ?_;refine cV ?_
 iterate 2 refine aR ?_
 refine dW [(18,.bool (decide (l.head? ≠some c)))] rfl ?_ ?_
 · refine af ?_;refine xp rfl (az rfl hs.cell) ?_;refine af ?_;refine b9 10 (fun he=>?_) (fun he=>?_)
   · have hl:l=[]:=aI (of_decide_eq_true he);refine af ?_;exact aA rfl ⟨ai rfl (by subst hl;simp),sb rfl⟩
   · obtain⟨d,r,rfl⟩:=List.exists_cons_of_ne_nil (fun(e:l=[])=>(of_decide_eq_false he) (by rw[e];rfl));refine af ?_;refine xp rfl (az rfl hs.cell) ?_;refine xp rfl (sG rfl rfl 0 rfl (eJ rfl)) ?_;refine af ?_;exact aA rfl ⟨ai rfl (by simp only[List.head?_cons,Option.some.injEq,ne_eq];exact LH d c),sb rfl⟩
 · refine aP (fun hn=>?_) (fun hn=>?_)
   · refine af ?_;refine bh ?_;exact⟨_,rfl,.inr ⟨hn,rfl,hs⟩,Ext.refl _ _⟩
   · have hn:=Classical.not_not.1 hn;obtain⟨d,r,rfl⟩:=List.exists_cons_of_ne_nil (fun(e:l=[])=>by rw[e] at hn;cases hn);have hz:(bs (d::r)).size=r.length+1:=by rw[aL];rfl
     have hd:=eI (d::r) 1;simp only[List.length_cons] at hl;refine af ?_;refine xp rfl (az rfl hs.cell) ?_;refine xp rfl (ay.ct underlying9 rfl rfl 1 rfl (by omega)) ?_;refine af ?_;refine aH rfl (kY rfl rfl hs) ?_;rintro _ h1 ⟨rfl,hk,hx,hz1⟩;refine af ?_;refine bh ?_;exact⟨_,rfl,.inl ⟨hn,rfl,by rw[hd] at hk;exact hk⟩,hx⟩
theorem tU (c:UInt8) (hs:St h rb l) (hl:l.length<=1000000):av Tryz.prog 189 #[BU rb,.int .u8 (c.toNat:Nat)] h (PR rb h (if l.head? =some c then some ((),l.tail) else none) fun _ _ _=>True):=by
 refine bP ?_;refine af ?_;refine xo rfl (aF rfl (lA c hs hl)) ?_;rintro _ h1 ⟨hor,hx⟩
 rcases hor with ⟨h1,rfl,h2⟩|⟨h1,rfl,h2⟩
 · refine af ?_;refine eC rfl (by decide) ?_;refine af ?_;refine Ir ?_;exact⟨(),_,if_pos h1,trivial,h2,hx⟩
 · refine af ?_;refine eu rfl (by decide) ?_;refine af ?_;refine xp rfl (au (H.gR ) rfl) ?_;refine af ?_;refine aH rfl (cT (Φ:=fun _ _=>False) rfl (PR.no rfl (if_neg h1) hx)) ?_;rintro _ _ hpn;exact hpn.elim
theorem mh (x:UInt8):av Tryz.prog 200 #[.string ⟨#[40,41,91,93,124,42,43,63,46,92,45,94]⟩,.int .u8 (x.toNat:Nat)] h (bq fun r h'=>r= .int .i64 (Lib.indexByte fG x)/\h'=h) :=
 (lU _ _).ret fun _ _ ⟨ho,he⟩=>⟨by rw[ho];simp[fG],he⟩
theorem jN:∀x:UInt8,(0<=Lib.indexByte fG x)↔x∈fG:=by
 have h:∀n:Fin 256,(0<=Lib.indexByte fG (UInt8.ofNat n.val))↔(UInt8.ofNat n.val)∈fG:=by decide +kernel
 intro x;have:=h ⟨x.toNat,x.toNat_lt⟩;simpa using this
def zf:By:=[48,49,50,51,52,53,54,55,56,57,97,98,99,100,101,102]
theorem ze (x:UInt8):av Tryz.prog 200 #[.string ⟨#[48,49,50,51,52,53,54,55,56,57,97,98,99,100,101,102]⟩,.int .u8 (x.toNat:Nat)] h (bq fun r h'=>r= .int .i64 (Lib.indexByte zf x)/\h'=h) :=
 (lU _ _).ret fun _ _ ⟨ho,he⟩=>⟨by rw[ho];simp[zf],he⟩
theorem IW:∀n:Fin 256,IntKind.u8.wrap ((BitVec.ofInt IntKind.u8.bits (n.val:Int) |||BitVec.ofInt IntKind.u8.bits 32).toNat)=(((UInt8.ofNat n.val) ||| 32).toNat:Nat):=by decide +kernel
theorem low (x:UInt8):IntKind.u8.wrap ((BitVec.ofInt IntKind.u8.bits (x.toNat:Int) |||BitVec.ofInt IntKind.u8.bits 32).toNat)=((x ||| 32).toNat:Nat):=by
 have:=IW ⟨x.toNat,x.toNat_lt⟩;simpa using this
theorem Jt:∀n:Fin 256,lH (UInt8.ofNat n.val)=if Lib.indexByte zf ((UInt8.ofNat n.val) ||| 32)<0\/n.val<48 then none else some (Lib.indexByte zf ((UInt8.ofNat n.val) ||| 32)).toNat:=by decide +kernel
theorem PJ (x:UInt8):lH x=if Lib.indexByte zf (x ||| 32)<0\/x.toNat<48 then none else some (Lib.indexByte zf (x ||| 32)).toNat:=by
 have:=Jt ⟨x.toNat,x.toNat_lt⟩;simpa using this
theorem EW {x:UInt8}(h:lH x=some n):n<16:=by
 unfold lH at h;split at h
 · cases h;omega
 · split at h
   · cases h;omega
   · split at h
     · cases h;omega
     · cases h
theorem rW (x:UInt8):av Tryz.prog 199 #[.int .u8 (x.toNat:Nat)] h (C5 (fun v h'=>∃n:Nat,lH x=some n/\n<16/\v= .int .u8 n/\h'=h) (fun ch h'=>Dc ch/\lH x=none/\h'=h)):=by
 have hd:=PJ x;refine bP ?_;refine aR ?_;refine de ?_;refine aZ ?_;refine cV ?_;refine aR ?_;refine de ?_;refine aZ ?_;refine xp rfl (ay.sY rfl rfl) ?_;refine xo rfl (aF rfl ((low x▸ze (x ||| 32)))) ?_;rintro _ _ ⟨rfl,rfl⟩;refine aZ ?_;refine cV ?_
 iterate 2 refine aR ?_
 refine dW [(12,.bool (decide (Lib.indexByte zf (x ||| 32)<0\/x.toNat<48)))] rfl ?_ ?_
 · refine af ?_;refine b9 9 (fun hg=>?_) (fun hg=>?_)
   · refine af ?_;exact aA rfl ⟨ai rfl (by have:=of_decide_eq_true hg;simp[this]),sb rfl⟩
   · refine af ?_;exact aA rfl ⟨ai rfl (by have:=of_decide_eq_false hg;simp only[decide_eq_decide];omega),sb rfl⟩
 · refine aP (fun hn=>?_) (fun hn=>?_)
   · rw[if_pos hn] at hd;refine af ?_;refine xp rfl (au (H.gR ) rfl) ?_;refine af ?_;refine aH rfl (cT (Φ:=fun _ _=>False) rfl (C5.no ⟨rfl,hd,rfl⟩)) ?_;rintro _ _ hpn;exact hpn.elim
   · rw[if_neg hn] at hd;have h16:=EW hd;refine af ?_;refine bh ?_;refine⟨_,hd,h16,?_,rfl⟩
     show Value.int .u8 _=_
     congr 1
     have:IntKind.u8.wrap (Lib.indexByte zf (x ||| 32))=Lib.indexByte zf (x ||| 32):=wrap_u8 (by omega);rw[this];omega
theorem He:∀m n:Fin 16,IntKind.u8.wrap ((BitVec.ofInt IntKind.u8.bits (IntKind.u8.wrap ((m.val:Int)*2 ^ min (4:Int).toNat IntKind.u8.bits)) |||BitVec.ofInt IntKind.u8.bits (n.val:Int)).toNat)=((UInt8.ofNat (m.val*16+n.val)).toNat:Nat):=by decide +kernel
theorem Oi (hm:m<16) (hn:n<16):IntKind.u8.wrap ((BitVec.ofInt IntKind.u8.bits (IntKind.u8.wrap ((m:Int)*2 ^ min (4:Int).toNat IntKind.u8.bits)) |||BitVec.ofInt IntKind.u8.bits (n:Int)).toNat)=((UInt8.ofNat (m*16+n)).toNat:Nat):=He ⟨m,hm⟩ ⟨n,hn⟩
theorem KW {x:UInt8}(t:By) (h:lH x=none):qf (120::x::t)=none:=by
 unfold qf;cases t with
 |nil=>rfl
 |cons y t=>simp[h]
theorem om (hs:St h rb l) (hl:l.length<=1000000):av Tryz.prog 192 #[BU rb] h (PR rb h (qf l) fun c v _=>v= .int .u8 (c.toNat:Nat)):=by
 refine bP ?_;refine af ?_;refine xo rfl (vO rfl (fP hs hl) ((fun _ _ ⟨hc,hp,hx⟩=>PR.no hc (by rw[iZ hp];rfl) hx))) ?_;rintro _ h1 ⟨c,r,hp,rfl,hs1,hx1⟩;refine af ?_;obtain rfl:=fQ hp;simp only[List.length_cons] at hl;refine aP (fun e1=>?_) (fun e1=>?_)
 · have e1:c=110:=(cI rfl).1 e1;refine af ?_;refine bh ?_;exact⟨10,r,by unfold qf;simp[e1],rfl,hs1,hx1⟩
 · have e1:¬c=110:=fun e=>e1 ((cI rfl).2 e)
   refine af ?_;refine aP (fun e2=>?_) (fun e2=>?_)
   · have e2:c=116:=(cI rfl).1 e2;refine af ?_;refine bh ?_;exact⟨9,r,by unfold qf;simp[e2],rfl,hs1,hx1⟩
   · have e2:¬c=116:=fun e=>e2 ((cI rfl).2 e)
     refine af ?_;refine aP (fun e3=>?_) (fun e3=>?_)
     · have e3:c=114:=(cI rfl).1 e3;refine af ?_;refine bh ?_;exact⟨13,r,by unfold qf;simp[e3],rfl,hs1,hx1⟩
     · have e3:¬c=114:=fun e=>e3 ((cI rfl).2 e)
       refine af ?_;refine aP (fun e4=>?_) (fun e4=>?_)
       · have e4:c=120:=(cI rfl).1 e4;subst e4;refine af ?_;refine xo rfl (vO rfl (fP hs1 (by omega)) ((fun _ _ ⟨hc,hp,hx⟩=>PR.no hc (by rw[iZ hp];rfl) (hx1.trans hx)))) ?_;rintro _ h2 ⟨x,r2,hp2,rfl,hs2,hx2⟩;refine xo rfl (vO rfl (rW x) ((fun _ h' ⟨hc,hq,hh⟩=>PR.no hc (by obtain rfl:=fQ hp2;exact KW _ hq) (by subst hh;exact hx1.trans hx2)))) ?_;rintro _ _ ⟨m,hm,hm16,rfl,rfl⟩;refine aZ ?_;refine cV ?_;refine aR ?_;refine de ?_;refine aZ ?_;refine xp rfl (DS rfl rfl (by omega)) ?_;refine af ?_;obtain rfl:=fQ hp2;simp only[List.length_cons] at hl;refine xo rfl (vO rfl (fP hs2 (by omega)) ((fun _ _ ⟨hc,hp,hx⟩=>PR.no hc (by rw[iZ hp];rfl) ((hx1.trans hx2).trans hx)))) ?_;rintro _ h3 ⟨y,r3,hp3,rfl,hs3,hx3⟩;refine xo rfl (vO rfl (rW y) ((fun _ h' ⟨hc,hq,hh⟩=>PR.no hc (by obtain rfl:=fQ hp3;unfold qf;simp[hm,hq]) (by subst hh;exact(hx1.trans hx2).trans hx3)))) ?_;rintro _ _ ⟨n,hn,hn16,rfl,rfl⟩;refine xp rfl (ay.sY rfl rfl) ?_;refine af ?_;obtain rfl:=fQ hp3;refine bh ?_;exact⟨UInt8.ofNat (m*16+n),r3,by unfold qf;simp[hm,hn],by show Value.int _ _=_;rw[Oi hm16 hn16],hs3,(hx1.trans hx2).trans hx3⟩
       · have e4:¬c=120:=fun e=>e4 ((cI rfl).2 e)
         refine af ?_;refine xo rfl (aF rfl (mh c)) ?_;rintro _ _ ⟨rfl,rfl⟩;refine af ?_;refine aP (fun e5=>?_) (fun e5=>?_)
         · have e5:=(jN c).1 e5;refine af ?_;refine bh ?_;exact⟨c,r,by unfold qf;simp[e1,e2,e3,e4,e5],rfl,hs1,hx1⟩
         · have e5:¬c∈fG:=fun e=>e5 ((jN c).2 e)
           refine af ?_;refine xp rfl (au (H.gR ) rfl) ?_;refine af ?_;refine aH rfl (cT (Φ:=fun _ _=>False) rfl (PR.no rfl (by unfold qf;simp[e1,e2,e3,e4,e5]) hx1)) ?_;rintro _ _ hpn;exact hpn.elim
theorem pT (hs:St h rb l) (hl:l.length<=1000000):av Tryz.prog 198 #[BU rb] h (PR rb h (oF l) fun c v _=>v= .int .u8 (c.toNat:Nat)):=by
 refine bP ?_;refine af ?_;refine xo rfl (vO rfl (fP hs hl) ((fun _ _ ⟨hc,hp,hx⟩=>PR.no hc (by rw[iZ hp];rfl) hx))) ?_;rintro _ h1 ⟨c,r,hp,rfl,hs1,hx1⟩;refine af ?_;obtain rfl:=fQ hp;simp only[List.length_cons] at hl;refine aP (fun e1=>?_) (fun e1=>?_)
 · have e1:c=92:=(cI rfl).1 e1;refine af ?_;refine xo rfl (vO rfl (om hs1 (by omega)) ((fun _ _ ⟨hc,hp,hx⟩=>PR.no hc (by unfold oF;simp[e1,hp]) (hx1.trans hx)))) ?_;rintro _ h2 ⟨d,r2,hp2,rfl,hs2,hx2⟩;refine af ?_;refine bh ?_;exact⟨d,r2,by unfold oF;simp[e1,hp2],rfl,hs2,hx1.trans hx2⟩
 · have e1:¬c=92:=fun e=>e1 ((cI rfl).2 e)
   refine af ?_;refine xo rfl (aF rfl (mh c)) ?_;rintro _ _ ⟨rfl,rfl⟩;refine af ?_;refine aP (fun e5=>?_) (fun e5=>?_)
   · have e5:=(jN c).1 e5;refine af ?_;refine xp rfl (au (H.gR ) rfl) ?_;refine af ?_;refine aH rfl (cT (Φ:=fun _ _=>False) rfl (PR.no rfl (by unfold oF;simp[e1,e5]) hx1)) ?_;rintro _ _ hpn;exact hpn.elim
   · have e5:¬c∈fG:=fun e=>e5 ((jN c).2 e)
     refine af ?_;refine bh ?_;exact⟨c,r,by unfold oF;simp[e1,e5],rfl,hs1,hx1⟩
theorem GN (k s:Nat) (v:Value) (i:Nat) (hi:i<256):(dy k s v).set (1+i / 64*1) (.int .u64 ((B7 s (i / 64) ||| 2 ^ (i%64):Nat):Int))=dy k (s |||(1 <<< i)) v:=by
 have h4:i / 64<4:=by omega
 have hw:=FF s i;have hs:∀q,q≠i / 64->ef (s |||(1 <<< i)) q=ef s q:=fun q hq=>by unfold ef;rw[FG s i q hq]
 have he:ef (s |||(1 <<< i)) (i / 64)= .int .u64 ((B7 s (i / 64) ||| 2 ^ (i%64):Nat):Int):=by unfold ef;rw[hw]
 rw[<-he];generalize i / 64=q at *;unfold dy
 match q,h4 with
 | 0,_=>rw[hs 1 (by decide),hs 2 (by decide),hs 3 (by decide)];rfl
 | 1,_=>rw[hs 0 (by decide),hs 2 (by decide),hs 3 (by decide)];rfl
 | 2,_=>rw[hs 0 (by decide),hs 1 (by decide),hs 3 (by decide)];rfl
 | 3,_=>rw[hs 0 (by decide),hs 1 (by decide),hs 2 (by decide)];rfl
theorem GM (k s:Nat) (v:Value) (q:Nat) (hq:q<4):(dy k s v)[1+q*1]? =some (ef s q):=by
 match q,hq with
 | 0,_=>rfl
 | 1,_=>rfl
 | 2,_=>rfl
 | 3,_=>rfl
theorem KO {w i:Nat}(hw:w<18446744073709551616):IntKind.u64.wrap ((BitVec.ofInt IntKind.u64.bits (w:Int) |||BitVec.ofInt IntKind.u64.bits (IntKind.u64.wrap (1*2 ^ min (((i:Int)).tmod 64).toNat IntKind.u64.bits))).toNat:Int)=((w ||| 2 ^ (i%64):Nat):Int):=by
 have h1:((i:Int)).tmod 64=((i%64:Nat):Int):=by rw[Int.tmod_eq_emod_of_nonneg (by omega)];omega
 have hb:i%64<64:=Nat.mod_lt _ (by decide);have h2:2 ^ (i%64)<2 ^ 64:=Nat.pow_lt_pow_right (by decide) hb;rw[h1,L7,Oa hw h2]
theorem Ck (s i n:Nat) (h:0<n):wJ s i n=wJ (s |||(1 <<< i)) (i+1) (n-1):=by
 cases n with
 |zero=>omega
 |succ n=>rfl
theorem gL {nb k s:Nat}{v:Value}(hk:aC h nb 134 (dy k s v)) (a b:UInt8):av Tryz.prog 191 #[.pointer (some ⟨nb,1,none⟩),.int .u8 (a.toNat:Nat),.int .u8 (b.toNat:Nat)] h (bq fun _ h' =>
 aC h' nb 134 (dy k (nU s a b) v)/\Ext (only nb) h h'):=by
 have ha:=a.toNat_lt;have hb:=b.toNat_lt;refine bP ?_;refine aR ?_;refine de ?_;refine aZ ?_;refine xp rfl (NL rfl (wrap_i64 ⟨by omega,by omega⟩)) ?_;refine af ?_;refine gJ (σ:=Nat×Nat) (fun q=>[(6,.int .i64 (q.1:Nat))]) (fun q h'=>aC h' nb 134 (dy k q.2 v)/\Ext (only nb) h h'/\q.1<=256/\wJ q.2 q.1 (b.toNat+1-q.1)=nU s a b) (fun q=>b.toNat+1-q.1) ((a.toNat,s)) ⟨hk,Ext.refl _ _,by show a.toNat<=256;omega,rfl⟩ rfl ?_;rintro⟨i,s'⟩ h1 ⟨hk1,hx1,hi,hsp⟩ ih
 try dsimp only
 dsimp only at hk1 hi hsp
 iterate 2 refine aR ?_
 refine de ?_
 iterate 2 refine aZ ?_
 refine xp rfl (NL rfl (wrap_i64 ⟨by omega,by omega⟩)) ?_;refine af ?_;refine aP (fun hle=>?_) (fun hle=>?_)
 · have hi255:i<=b.toNat:=by omega
   rw[Ck _ _ _ (by omega)] at hsp;have hq:i / 64<4:=by omega
   have hdiv:IntKind.i64.wrap (((i:Int)).tdiv 64)=((i / 64:Nat):Int):=by
    rw[Int.tdiv_eq_ediv_of_nonneg (by omega),wrap_i64 ⟨by omega,by omega⟩];omega
   have hw:=B6 s' (i / 64);have hset:=GN k s' v i (by omega);have hk1':aC h1 nb 134 [.int .i64 k,ef s' 0,ef s' 1,ef s' 2,ef s' 3,v]:=hk1;refine af ?_;refine Ij 13 12 ?_;refine aG 0 ?_;refine aG 1 ?_;refine bC 2 rfl (fun h' e=>ij rfl rfl (by decide)) ?_;refine aG 3 ?_;refine bC 4 rfl (fun h' e=>xM rfl rfl (i / 64) hdiv hq) ?_;refine bC 5 rfl (fun h' e=>az rfl (e.old (hk1.cell (GM k s' v _ hq)))) ?_;refine aG 6 ?_;refine bC 7 rfl (fun h' e=>sZ rfl rfl (by decide)) ?_;refine bC 8 rfl (fun h' e=>DS rfl rfl (by rw[Int.tmod_eq_emod_of_nonneg (by omega)];omega)) ?_;refine bC 9 rfl (fun h' e=>ay.sY rfl rfl) ?_;refine Iu 10 ?_;refine bC 11 rfl (fun h' e=>xM rfl rfl (i / 64) hdiv hq) ?_;refine iA 12 rfl (kY rfl rfl hk1') ?_;rintro _ h2 ⟨rfl,hk2,hx2,hz2⟩;refine⟨nofun,?_⟩;refine gV ?_;refine af ?_;rw[KO hw,show [.int .i64 (k:Int),ef s' 0,ef s' 1,ef s' 2,ef s' 3,v]=dy k s' v from rfl,hset] at hk2;exact ih (i+1,s' |||(1 <<< i)) ⟨hk2,hx1.trans hx2,by show i+1<=256;omega,by show wJ _ (i+1) (b.toNat+1-(i+1))=_;rw[<-hsp];rfl⟩
 · have h0:b.toNat+1-i=0:=by omega
   rw[h0] at hsp;refine af ?_;refine Ir ?_;exact⟨_,rfl,by rw[<-hsp];exact hk1,hx1⟩
theorem EX (s:Nat) (b:UInt8):av Tryz.prog 103 #[.agg (uS s).toArray,.int .u8 (b.toNat:Nat)] h (bq fun r h'=>r= .bool (s.testBit b.toNat)/\aq h h'):=by
 have hb:=b.toNat_lt;have hq:b.toNat / 64<4:=by omega
 have hdiv:IntKind.u8.wrap (((b.toNat:Int)).tdiv 64)=((b.toNat / 64:Nat):Int):=by
  rw[Int.tdiv_eq_ediv_of_nonneg (by omega),wrap_u8 (by omega)];omega
 have hmod:((b.toNat:Int)).tmod 64=((b.toNat%64:Nat):Int):=by rw[Int.tmod_eq_emod_of_nonneg (by omega)];omega
 have hm64:b.toNat%64<64:=Nat.mod_lt _ (by decide)
 have hword:∀q,q<4->(uS s)[0+q*1]? =some (ef s q):=fun q hq=>by
  match q,hq with
  | 0,_=>rfl
  | 1,_=>rfl
  | 2,_=>rfl
  | 3,_=>rfl
 refine bP ?_;refine af ?_;refine xo rfl (iF) ?_;rintro _ h1 ⟨rfl,hk,he,hz⟩;refine aZ ?_;refine cV ?_;refine aR ?_;refine de ?_;refine aZ ?_;refine xp rfl (ij rfl rfl (by decide)) ?_;have hk:aC h1 h.size 131 (uS s):=hk;refine xp rfl (xM rfl rfl (b.toNat / 64) hdiv hq) ?_;refine xp rfl (az rfl (hk.cell (hword _ hq))) ?_;refine aZ ?_;refine xp rfl (sZ rfl rfl (by decide)) ?_;refine xp rfl (JJ rfl rfl (by rw[hmod];omega)) ?_;refine xp rfl (ay.HE rfl rfl) ?_;refine af ?_;refine bh ?_;refine⟨_,rfl,?_,he⟩;rw[hmod,L6 _ _ hm64,Ot (Nat.lt_of_le_of_lt (Nat.shiftRight_le _ _) (B6 s _)),Iy];cases s.testBit b.toNat<;>rfl
theorem jK.only {h0:aj}{g:Nat}(e:Ext M h0 h) (x:Ext (fun b=>b=g) h h') (hg:h0.size<=g):Ext M h0 h' :=
 ⟨Nat.le_trans e.size x.size,fun b hb hm=>by rw[x.block b (Nat.lt_of_lt_of_le hb e.size) (by omega)];exact e.block b hb hm⟩
theorem jK.ah {h0:aj}(e:Ext M h0 h) (x:aq h h'):Ext M h0 h':=e.trans (aq.of x)
theorem tG:∀(n m acc:Nat) (s:By),s.length<n->s.length<m->lS n acc s=lS m acc s
 | 0,_,_,_,h,_=>by omega
 |_,0,_,_,_,h=>by omega
 |n+1,m+1,acc,s,hn,hm=>by
  rw[lS,lS];cases hf:eH s with
  |none=>rfl
  |some p =>
   obtain⟨⟨a,b⟩,r⟩:=p;have hlen:=mP hf;simp only;split
   · rfl
   · exact tG n m _ _ (by omega) (by omega)
def oq (first:Bool) (acc:Nat) (l:By):Option (Nat×By):=if first=false/\l.head? =some 93 then some (acc,l.tail) else lS (l.length+1) acc l
theorem oQ {first:Bool}{acc:Nat}(h:¬(first=false/\l.head? =some 93)) (hf:eH l=none):oq first acc l=none:=by
 unfold oq;rw[if_neg h,lS,hf]
theorem uW {first:Bool}{acc:Nat}{b:UInt8}(h:¬(first=false/\l.head? =some 93)) (hf:eH l=some ((a,b),r)):oq first acc l=oq false (nU acc a b) r:=by
 have hlen:=mP hf;unfold oq;rw[if_neg h,lS,hf];simp only[true_and];split
 · simp
 · rename_i hne
   rw[if_neg (fun e=>by
    cases r with
    |nil=>cases e
    |cons c t=>simp at e;subst e;exact hne t rfl)]
   exact tG _ _ _ _ (by omega) (by omega)
theorem Mt (h:oF l=none):eH l=none:=by unfold eH;rw[h]
theorem Ms (h:oF l=some (a,r)) (hr:r.head? ≠some 45):eH l=some ((a,a),r):=by
 unfold eH;rw[h];simp only;split
 · exact absurd rfl hr
 · rfl
theorem Mr (h:oF l=some (a,r)) (hr:r.head? =some 45) (hb:oF r.tail=none):eH l=none:=by
 unfold eH;rw[h];cases r with
 |nil=>cases hr
 |cons c t=>simp at hr;subst hr;simp at hb;simp[hb]
theorem Mq {r':By}{b:UInt8}(h:oF l=some (a,r)) (hr:r.head? =some 45) (hb:oF r.tail=some (b,r')):eH l=if b.toNat<a.toNat then none else some ((a,b),r'):=by
 unfold eH;rw[h];cases r with
 |nil=>cases hr
 |cons c t=>simp at hr;subst hr;simp at hb;simp[hb]
theorem wu (l:By):iw l=(oq true 0 (if l.head? =some 94 then l.tail else l)).map fun p=>(.mk 1 (if l.head? =some 94 then mH p.1 else p.1) [],p.2):=by
 unfold iw oq;split
 · simp
 · rename_i hne
   have h1:l.head? ≠some 94:=fun e=>by
    cases l with
    |nil=>cases e
    |cons c t=>simp at e;subst e;exact hne t rfl
   simp[h1]
theorem Iw (s q:Nat) (hq:q<4):B7 (mH s) q=18446744073709551615 ^^^ B7 s q:=by
 apply Nat.eq_of_testBit_eq
 intro i;rw[lp,Nat.testBit_xor,lp];unfold mH;rw[Nat.testBit_xor,show HW=2 ^ 256-1 from rfl,Nat.testBit_two_pow_sub_one,show (18446744073709551615:Nat)=2 ^ 64-1 from rfl,Nat.testBit_two_pow_sub_one]
 by_cases hi:i<64
 · have:64*q+i<256:=by omega
   simp[hi,this]
 · simp[hi]
theorem LG {x:Nat}(hx:x<18446744073709551616):IntKind.u64.wrap ((BitVec.ofInt IntKind.u64.bits (if IntKind.u64.signed then -1 else IntKind.u64.max) ^^^ BitVec.ofInt IntKind.u64.bits (x:Int)).toNat:Int)=((18446744073709551615 ^^^ x:Nat):Int):=by
 have e:(BitVec.ofInt IntKind.u64.bits (if IntKind.u64.signed then -1 else IntKind.u64.max) ^^^ BitVec.ofInt IntKind.u64.bits (x:Int)).toNat=18446744073709551615 ^^^ x:=by
  rw[BitVec.toNat_xor]
  have h1:(BitVec.ofInt IntKind.u64.bits (x:Int)).toNat=x:=by
   show (BitVec.ofInt 64 (x:Int)).toNat=x
   simp only[BitVec.toNat_ofInt];omega
  rw[h1];rfl
 rw[e];have:18446744073709551615 ^^^ x<2 ^ 64:=Nat.xor_lt_two_pow (by decide) hx;exact ny ⟨by omega,by omega⟩
def AN (s q i:Nat):Value:=if i<q then ef (mH s) i else ef s i
def KT (s q:Nat):List Value:=[.int .i64 1,AN s q 0,AN s q 1,AN s q 2,AN s q 3,.slice none 0 0]
theorem GL (s q:Nat) (hq:q<4):(KT s q)[1+q*1]? =some (ef s q):=by
 match q,hq with
 | 0,_=>rfl
 | 1,_=>rfl
 | 2,_=>rfl
 | 3,_=>rfl
theorem IU (s q:Nat) (hq:q<4):(KT s q).set (1+q*1) (.int .u64 ((18446744073709551615 ^^^ B7 s q:Nat):Int))=KT s (q+1):=by
 rw[<-Iw s q hq]
 match q,hq with
 | 0,_=>rfl
 | 1,_=>rfl
 | 2,_=>rfl
 | 3,_=>rfl
abbrev DN (n:Nat):Nat->Prop:=fun b=>b<n
def C6 (n:Nat) (x:Nd) (v:Value) (h':aj):Prop:=∃w,v= .agg (dy x.kind x.set w).toArray/\bB h' (DN n) (dy x.kind x.set w) x
theorem fq (h:aj) (O:Nat->Prop) (k s:Nat):bB h O (dy k s (.slice none 0 0)) (.mk k s []):=.of k s (aY.nil _ _ _)
theorem wq (hs:St h rb l) (hl:l.length<=1000000):av Tryz.prog 190 #[BU rb] h (PR rb h (iw l) (C6 h.size)):=by
 have hlt:=hs.lt;have hbr:=wu l;refine bP ?_;refine af ?_;refine xo rfl (cm) ?_;rintro _ h1 ⟨rfl,hkr,he1,hz1⟩;refine af ?_;refine xp rfl (au (H.DO _) rfl) ?_;refine xo rfl (cm) ?_;rintro _ h2 ⟨rfl,hk2,he2,hz2⟩;refine aH rfl (aK rfl rfl hk2) ?_;rintro _ h3 ⟨rfl,hk3,hx3,hz3⟩;have hk3:aC h3 h1.size 134 (dy 1 0 (.slice none 0 0)):=hk3;have hkr:aC h1 h.size 134 (dy 0 0 (.slice none 0 0)):=hkr;have e3:aq h h3:=aq.only (he1.trans he2) hx3 (by omega);have hkr3:aC h3 h.size 134 (dy 0 0 (.slice none 0 0)):=(hkr.ah he2).ext hx3 (by show ¬_=_;omega);have hs3:St h3 rb l:=aC.ah hs e3;refine af ?_;refine xo rfl (aF rfl (lA 94 hs3 hl)) ?_;rintro _ h4 ⟨hor,hx4⟩
 obtain⟨nt,l1,rfl,hnt,hl1,hs4⟩:∃(nt:Bool) (l1:By),_=Value.bool nt/\nt=decide (l.head? =some 94)/\l1=(if l.head? =some 94 then l.tail else l)/\St h4 rb l1:=by
  rcases hor with ⟨a1,a2,a3⟩|⟨a1,a2,a3⟩
  · exact⟨true,_,a2,by simp[a1],by rw[if_pos a1],a3⟩
  · exact⟨false,_,a2,by simp[a1],by rw[if_neg a1],a3⟩
 rw[<-hl1] at hbr;have hl1l:l1.length<=1000000:=by rw[hl1];split;(have:l.tail.length<=l.length:=by simp);omega;exact hl
 have hkr4:=hkr3.ext hx4 (by show ¬_=_;omega);have hk4:=hk3.ext hx4 (by show ¬_=_;omega);have e4:Ext (only rb) h h4:=(aq.of e3).trans hx4;have hz4:=hx4.size;generalize htg:oq true 0 l1=tgt at hbr;refine af ?_;refine gJ (σ:=Bool×Nat×By) (fun q=>[(5,.bool q.1)]) (fun q h'=>St h' rb q.2.2/\aC h' h1.size 134 (dy 1 q.2.1 (.slice none 0 0))/\aC h' h.size 134 (dy 0 0 (.slice none 0 0))/\Ext (only rb) h h'/\q.2.2.length<=1000000/\oq q.1 q.2.1 q.2.2=tgt) (fun q=>q.2.2.length) ((true,0,l1)) ⟨hs4,hk4,hkr4,e4,hl1l,htg⟩ rfl ?_;rintro⟨first,acc,m⟩ h5 ⟨hs5,hk5,hkr5,e5,hm,hcon⟩ ih
 try dsimp only
 dsimp only at hs5 hk5 hm hcon
 iterate 2 refine aR ?_
 refine dW [(17,.bool (decide (¬(first=false/\m.head? =some 93))))] rfl ?_ ?_
 · refine af ?_;refine b9 13 (fun hf=>?_) (fun hf=>?_)
   · refine af ?_;exact aA rfl ⟨ai rfl (by simp[hf]),sb rfl⟩
   · refine af ?_;refine xo rfl (aF rfl (tS hs5)) ?_;rintro _ _ ⟨rfl,rfl⟩;refine af ?_;exact aA rfl ⟨ai rfl (by cases m with|nil=>simp|cons c t=>simp only[hf,List.head?_cons,Option.getD_some,Option.some.injEq,true_and];exact decide_eq_decide.2 (not_congr (cI rfl))),sb rfl⟩
 · refine aP (fun hgo=>?_) (fun hgo=>?_)
   · refine af ?_;refine xo rfl (vO rfl (pT hs5 hm) ((fun _ _ ⟨hc,hp,hx⟩=>PR.no hc (by rw[hbr,<-hcon,oQ hgo (Mt hp)];rfl) (e5.trans hx)))) ?_;rintro _ h6 ⟨a,r,ha,rfl,hs6,hx6⟩;have hrl:=pU ha;have hk6:=hk5.ext hx6 (by show ¬_=_;omega);have hkr6:=hkr5.ext hx6 (by show ¬_=_;omega);have e6:=e5.trans hx6;refine af ?_;refine xo rfl (aF rfl (lA 45 hs6 (by omega))) ?_;rintro _ h7 ⟨hor7,hx7⟩;have hk7:=hk6.ext hx7 (by show ¬_=_;omega);have hkr7:=hkr6.ext hx7 (by show ¬_=_;omega);have e7:=e6.trans hx7
     rcases hor7 with ⟨a1,rfl,hs7⟩|⟨a1,rfl,hs7⟩
     · have htl:r.tail.length<=r.length:=by simp
       refine af ?_;refine eu rfl (by decide) ?_;refine af ?_;refine xo rfl (vO rfl (pT hs7 (by omega)) ((fun _ _ ⟨hc,hp,hx⟩=>PR.no hc (by rw[hbr,<-hcon,oQ hgo (Mr ha a1 hp)];rfl) (e7.trans hx)))) ?_;rintro _ h8 ⟨b,r8,hb,rfl,hs8,hx8⟩;have hbl:=pU hb;have hk8:=hk7.ext hx8 (by show ¬_=_;omega);have hkr8:=hkr7.ext hx8 (by show ¬_=_;omega);have e8:=e7.trans hx8;have hf4:=Mq ha a1 hb;refine af ?_;refine aP (fun hlow=>?_) (fun hlow=>?_)
       · rw[if_pos (by omega)] at hf4;refine af ?_;refine xp rfl (au (H.gR ) rfl) ?_;refine af ?_;refine aH rfl (cT (Φ:=fun _ _=>False) rfl (PR.no rfl (by rw[hbr,<-hcon,oQ hgo hf4];rfl) e8)) ?_;rintro _ _ hpn;exact hpn.elim
       · rw[if_neg (by omega)] at hf4;refine af ?_;refine xo rfl (aF rfl (gL hk8 a b)) ?_;rintro _ h9 ⟨hk9,hx9⟩;refine af ?_;have hsp:=uW (acc:=acc) hgo hf4;exact ih (false,nU acc a b,r8) ⟨aC.ext hs8 hx9 (by show ¬_=_;omega),hk9,hkr8.ext hx9 (by show ¬_=_;omega),jK.only e8 hx9 (by omega),by show r8.length<=_;omega,by rw[<-hcon,hsp]⟩
     · have hf2:=Ms ha a1;refine af ?_;refine eC rfl (by decide) ?_;refine af ?_;refine eC rfl (by simp) ?_;refine af ?_;refine xo rfl (aF rfl (gL hk7 a a)) ?_;rintro _ h9 ⟨hk9,hx9⟩;refine af ?_;have hsp:=uW (acc:=acc) hgo hf2;exact ih (false,nU acc a a,r) ⟨aC.ext hs7 hx9 (by show ¬_=_;omega),hk9,hkr7.ext hx9 (by show ¬_=_;omega),jK.only e7 hx9 (by omega),by show r.length<=_;omega,by rw[<-hcon,hsp]⟩
   · have hgo:=Classical.not_not.1 hgo;have htgt:tgt=some (acc,m.tail):=by rw[<-hcon];unfold oq;rw[if_pos hgo]
     refine af ?_;refine xo rfl (vO rfl (tU 93 hs5 hm) ((fun _ _ ⟨hc,hp,hx⟩=>absurd hp (by rw[if_pos hgo.2];simp)))) ?_;rintro _ h6 ⟨_,r,hp,_,hs6,hx6⟩;refine af ?_;rw[if_pos hgo.2] at hp;cases hp;have hk6:=hk5.ext hx6 (by show ¬_=_;omega);have hkr6:=hkr5.ext hx6 (by show ¬_=_;omega);have e6:=e5.trans hx6;have hk6:aC h6 h1.size 134 (KT acc 0):=hk6;refine gJ (σ:=Nat) (fun q=>[(36,.int .i64 (q:Nat))]) (fun q h'=>q<=4/\St h' rb m.tail/\aC h' h1.size 134 (KT acc (if nt then q else 0))/\aC h' h.size 134 (dy 0 0 (.slice none 0 0))/\Ext (only rb) h h') (fun q=>4-q) (0) ⟨by omega,hs6,by cases nt<;>exact hk6,hkr6,e6⟩ rfl ?_;rintro q h7 ⟨hq,hs7,hk7,hkr7,e7⟩ ih;refine af ?_;refine aP (fun hq4=>?_) (fun hq4=>?_)
     · have hq4':q<4:=by omega
       refine af ?_;refine fF (fun hb=>?_) (fun hb=>?_)
       · rw[if_pos hb] at hk7;have hk7':aC h7 h1.size 134 [.int .i64 1,AN acc q 0,AN acc q 1,AN acc q 2,AN acc q 3,.slice none 0 0]:=hk7;refine de ?_
         iterate 3 refine aZ ?_
         refine xp rfl (xM rfl rfl q rfl hq4') ?_;refine xp rfl (az rfl (hk7.cell (GL acc q hq4'))) ?_;refine xp rfl (ay.My rfl) ?_;refine aZ ?_;refine xp rfl (xM rfl rfl q rfl hq4') ?_;refine aH rfl (kY rfl rfl hk7') ?_;rintro _ h8 ⟨rfl,hk8,hx8,hz8⟩;refine af ?_;have hk8:aC h8 h1.size 134 (KT acc (q+1)):=by rw[<-IU acc q hq4',<-LG (B6 acc q)];exact hk8
         exact ih (q+1) ⟨by omega,aC.ext hs7 hx8 (by show ¬_=_;omega),by rw[if_pos hb];exact hk8,hkr7.ext hx8 (by show ¬_=_;omega),jK.only e7 hx8 (by omega)⟩
       · rw[if_neg (by rw[hb];decide)] at hk7;refine af ?_;exact ih (q+1) ⟨by omega,hs7,by rw[if_neg (by rw[hb];decide)];exact hk7,hkr7,e7⟩
     · obtain rfl:q=4:=by omega
       have hfin:KT acc (if nt then 4 else 0)=dy 1 (if l.head? =some 94 then mH acc else acc) (.slice none 0 0):=by
        subst hnt
        by_cases hd:l.head? =some 94<;>simp[hd]<;>rfl
       rw[hfin] at hk7;have hbr2:iw l=some (.mk 1 (if l.head? =some 94 then mH acc else acc) [],m.tail):=by rw[hbr,htgt];rfl
       generalize (if l.head? =some 94 then mH acc else acc)=fs at hk7 hbr2;refine af ?_;refine xp rfl (bV rfl hk7.row) ?_;refine aH rfl (aK rfl rfl hkr7 (bB.one (fq h7 (only rb) 1 fs))) ?_;rintro _ h8 ⟨rfl,hk8,hx8,hz8⟩;refine af ?_;have hk8:aC h8 h.size 134 (dy 1 fs (.slice none 0 0)):=hk8;refine bF (br rfl hk8.row bE) ?_;exact⟨_,m.tail,hbr2,⟨_,rfl,fq _ _ _ _⟩,aC.ext hs7 hx8 (by show ¬_=_;omega),jK.only e7 hx8 (Nat.le_refl _)⟩
theorem gC {cs:List Value}(k:bB h (DN m) cs x) (hn:n<=m) (e:Ext M h h') (hM:∀b,b<h.size->M b->b<m):bB h' (DN n) cs x :=
 k.mv (Mv.cg e fun b hb ho=>⟨fun hm=>ho (hM b hb hm),fun k=>ho (Nat.lt_of_lt_of_le k hn)⟩)
theorem Gx {cs ds:List Value}(h:cs.length=ds.length):over cs 0 ds=ds:=by
 unfold over;rw[List.drop_of_length_le (by omega)];simp
theorem pZ {O:Nat->Prop}{v:Value}{xs:List Nd}(kind:Nat) (hv:aY rR h O v xs):av Tryz.prog 138 #[.int .i64 (kind:Nat),v] h (bq fun r h'=>(∃w,r= .agg (dy (bS kind xs).kind (bS kind xs).set w).toArray/\bB h' O (dy (bS kind xs).kind (bS kind xs).set w) (bS kind xs))/\aq h h'):=by
 obtain⟨oa,n,c,rfl,hsl⟩:=hv.open;have hn:=hsl.len;refine bP ?_;refine af ?_;refine xo rfl (cm) ?_;rintro _ h1 ⟨rfl,hk,he,hz⟩;refine af ?_;have hk:aC h1 h.size 134 (dy 0 0 (.slice none 0 0)):=hk;have hsl1:=hsl.mv (Mv.ah he);have hv1:=hv.ah he;refine aP (fun e0=>?_) (fun e0=>?_)
 · obtain rfl:n=0:=by omega
   have hx:xs=[]:=List.eq_nil_of_length_eq_zero hn;subst hx;refine af ?_;refine xp rfl (au (H.C0 ) rfl) ?_;refine aH rfl (aK rfl rfl hk) ?_;rintro _ h2 ⟨rfl,hk2,hx2,hz2⟩;refine af ?_;have hk2:aC h2 h.size 134 (dy 0 0 (.slice none 0 0)):=hk2;refine bF (br rfl hk2.row bE) ?_;exact⟨_,rfl,⟨_,rfl,fq _ _ 0 0⟩,aq.only he hx2 (Nat.le_refl _)⟩
 · refine af ?_;refine aP (fun e1=>?_) (fun e1=>?_)
   · obtain rfl:n=1:=by omega
     obtain⟨x,rfl⟩:=List.length_eq_one_iff.1 hn;obtain⟨b,o,cs,ha,ho,hr,hR⟩:=hsl.get 0 x rfl;have hr:=he.rowAt (fun k=>k) hr;obtain⟨w,rfl,hw⟩:=bB.open hR;refine aR ?_;refine de ?_;refine aZ ?_;refine xp rfl (cK rfl rfl 0 rfl ha (by decide)) ?_;refine xp rfl (bV rfl hr) ?_;refine aH rfl (aK rfl rfl hk (rR.one hR)) ?_;rintro _ h2 ⟨rfl,hk2,hx2,hz2⟩;refine af ?_;have hk2:aC h2 h.size 134 (dy x.kind x.set w):=hk2;refine bF (br rfl hk2.row bE) ?_;exact⟨_,rfl,⟨w,rfl,bB.ah hR (aq.only he hx2 (Nat.le_refl _))⟩,aq.only he hx2 (Nat.le_refl _)⟩
   · refine af ?_;refine xp rfl (au (H.qS _ _ _ _) rfl) ?_;refine aH rfl (aK rfl rfl hk) ?_;rintro _ h2 ⟨rfl,hk2,hx2,hz2⟩;refine af ?_;have hk2:aC h2 h.size 134 (dy kind 0 (.slice oa n c)):=hk2;refine bF (br rfl hk2.row bE) ?_
     have hj:bS kind xs= .mk kind 0 xs:=by
      unfold bS;split
      · simp at hn;omega
      · simp at hn;omega
      · rfl
     rw[hj];exact⟨_,rfl,⟨.slice oa n c,rfl,bB.of kind 0 (hv.ah (aq.only he hx2 (Nat.le_refl _)))⟩,aq.only he hx2 (Nat.le_refl _)⟩
def Sg (h:aj) (lim:Nat):Prop:=∃m,10<lim/\m<lim/\cellAt h ⟨10,0,none⟩=some (.map (some m)) /\
 ∃l:List (Int×Int),fu (Value.int .u8) (Value.int .i64) h m l/\∀c:UInt8,((kZ (c.toNat:Int) l).map (Value.int .i64)).getD (Value.int .i64 0)=Value.int .i64 (cW c:Nat)
theorem Sg.ext {h h':aj}{lim:Nat}(k:Sg h lim){M:Nat->Prop}(e:Ext M h h') (hM:∀b,M b->lim<=b):Sg h' lim:=by
 obtain⟨m,h1,h2,h3,l,h4,h5⟩:=k;exact⟨m,h1,h2,e.cell (fun k=>absurd (hM _ k) (by show ¬lim<=10;omega)) h3,l,h4.ext e (fun k=>by have:=hM _ k;omega),h5⟩
def vE (d lim:Nat):Prop:=∀(h:aj) (rb:Nat) (l:By),Sg h lim->lim<=rb->St h rb l->l.length<d->l.length<=1000000 ->
 av Tryz.prog 94 #[BU rb] h (PR rb h (dI d l) (C6 h.size))
theorem C1 (ih:vE d lim) (hg:Sg h lim) (hrb:lim<=rb) (hs:St h rb l) (hd:l.length<=d) (hl:l.length<=1000000):av Tryz.prog 175 #[BU rb] h (PR rb h (eZ (dI d) l) (C6 h.size)):=by
 have hlt:=hs.lt;refine bP ?_;refine af ?_;refine xo rfl (cm) ?_;rintro _ h1 ⟨rfl,hkr,he1,hz1⟩;refine af ?_;refine xp rfl (au (H.DO _) rfl) ?_;refine xo rfl (cm) ?_;rintro _ h2 ⟨rfl,hk2,he2,hz2⟩;refine aH rfl (aK rfl rfl hk2) ?_;rintro _ h3 ⟨rfl,hk3,hx3,hz3⟩;have hk3:aC h3 h1.size 134 (dy 1 0 (.slice none 0 0)):=hk3;have hkr:aC h1 h.size 134 (dy 0 0 (.slice none 0 0)):=hkr;have e3:aq h h3:=aq.only (he1.trans he2) hx3 (by omega);have hkr3:aC h3 h.size 134 (dy 0 0 (.slice none 0 0)):=(hkr.ah he2).ext hx3 (by show ¬_=_;omega);have hs3:St h3 rb l:=aC.ah hs e3;refine af ?_;refine xo rfl (vO rfl (fP hs3 hl) ((fun _ _ ⟨hc,hp,hx⟩=>PR.no hc (by rw[iZ hp];rfl) ((aq.of e3).trans hx)))) ?_;rintro _ h4 ⟨c,r,hp,rfl,hs4,hx4⟩;obtain rfl:=fQ hp;simp only[List.length_cons] at hl hd;have hkr4:=hkr3.ext hx4 (by show ¬_=_;omega);have hk4:=hk3.ext hx4 (by show ¬_=_;omega);have e4:Ext (only rb) h h4:=(aq.of e3).trans hx4;have hz4:=hx4.size;have hg4:Sg h4 lim:=hg.ext e4 (fun b (hb:b=rb)=>by omega);refine af ?_
 have fin:∀(x:Nd) (w:Value) (m:By) (h':aj) (ρ':Env),Sub [(0,BU rb),(2,.pointer (some ⟨h.size,0,none⟩)),(3,.pointer (some ⟨h1.size,0,none⟩))] ρ'->aC h' h1.size 134 (dy x.kind x.set w)->aC h' h.size 134 (dy 0 0 (.slice none 0 0))->St h' rb m->bB h' (DN (h.size+1)) (dy x.kind x.set w) x->Ext (only rb) h h'->eZ (dI d) (c::r)=some (x,m)->G Tryz.prog 175 f175 [.code [1,1,1]] ρ' h' (PR rb h (eZ (dI d) (c::r)) (C6 h.size)):=by
  rintro x w m hh ρ' hsub hkx hkrr hst hnd hee hat;refine G.sub (ρ':=[(0,BU rb),(2,.pointer (some ⟨h.size,0,none⟩)),(3,.pointer (some ⟨h1.size,0,none⟩))]) hsub ?_;refine af ?_;refine xp rfl (bV rfl hkx.row) ?_;refine aH rfl (aK rfl rfl hkrr (bB.one hnd)) ?_;rintro _ h9 ⟨rfl,hk9,hx9,hz9⟩;refine af ?_;have hk9:aC h9 h.size 134 (dy x.kind x.set w):=hk9;refine bF (br rfl hk9.row bE) ?_;exact⟨x,m,hat,⟨w,rfl,gC hnd (Nat.le_succ _) hx9 (fun b _ (hb:b=h.size)=>by omega)⟩,aC.ext hst hx9 (by show ¬_=_;omega),jK.only hee hx9 (Nat.le_refl _)⟩
 refine aP (fun c1=>?_) (fun c1=>?_)
 · have c1:c=40:=(cI rfl).1 c1;subst c1;refine af ?_;refine xo rfl (vO rfl (ih h4 rb r hg4 hrb hs4 (by omega) (by omega)) ((fun _ _ ⟨hc,hp,hx⟩=>PR.no hc (by unfold eZ;simp[hp]) (e4.trans hx)))) ?_;rintro _ h5 ⟨x,r5,hp5,⟨w,rfl,hnd5⟩,hs5,hx5⟩;have hk5:=hk4.ext hx5 (by show ¬_=_;omega);have hkr5:=hkr4.ext hx5 (by show ¬_=_;omega);have hr5:=kK d hp5;refine aH rfl (aK rfl rfl hk5 (bB.one hnd5)) ?_;rintro _ h6 ⟨rfl,hk6,hx6,hz6⟩;refine af ?_;have hk6:aC h6 h1.size 134 (dy x.kind x.set w):=hk6;have hs6:St h6 rb r5:=aC.ext hs5 hx6 (by show ¬_=_;omega);have hnd6:bB h6 (DN (h.size+1)) (dy x.kind x.set w) x:=gC hnd5 (by omega) hx6 (fun b _ (hb:b=h1.size)=>by omega);have e6:=jK.only (e4.trans hx5) hx6 (by omega);refine xo rfl (vO rfl (tU 41 hs6 (by omega)) ((fun _ _ ⟨hc,hp,hx⟩=>PR.no hc (by unfold eZ;simp only[if_true,hp5];split;rename_i t ht;cases ht;simp at hp;rfl) (e6.trans hx)))) ?_;rintro _ h7 ⟨_,r7,hp7,_,hs7,hx7⟩;refine cV ?_;refine aR ?_
   have hcl:r5=41::r7:=by
    split at hp7
    · rename_i hh;cases hp7;cases r5 with|nil=>cases hh|cons a b=>simp at hh;subst hh;rfl
    · cases hp7
   subst hcl;exact fin x w r7 _ _ (by exact sb rfl) (hk6.ext hx7 (by show ¬_=_;omega)) ((hkr5.ext hx6 (by show ¬_=_;omega)).ext hx7 (by show ¬_=_;omega)) hs7 (gC hnd6 (Nat.le_refl _) hx7 (fun b _ (hb:b=rb)=>by omega)) (e6.trans hx7) (by unfold eZ;simp[hp5])
 · have c1:¬c=40:=fun e=>c1 ((cI rfl).2 e)
   refine af ?_;refine aP (fun c2=>?_) (fun c2=>?_)
   · have c2:c=91:=(cI rfl).1 c2;refine af ?_;refine xo rfl (vO rfl (wq hs4 (by omega)) ((fun _ _ ⟨hc,hp,hx⟩=>PR.no hc (by unfold eZ;simp[c2,hp]) (e4.trans hx)))) ?_;rintro _ h5 ⟨x,r5,hp5,⟨w,rfl,hnd5⟩,hs5,hx5⟩;have hk5:=hk4.ext hx5 (by show ¬_=_;omega);have hkr5:=hkr4.ext hx5 (by show ¬_=_;omega);refine aH rfl (aK rfl rfl hk5 (bB.one hnd5)) ?_;rintro _ h6 ⟨rfl,hk6,hx6,hz6⟩;refine cV ?_;refine aR ?_;have hk6:aC h6 h1.size 134 (dy x.kind x.set w):=hk6;exact fin x w r5 _ _ (by exact sb rfl) hk6 (hkr5.ext hx6 (by show ¬_=_;omega)) (aC.ext hs5 hx6 (by show ¬_=_;omega)) (gC hnd5 (by omega) hx6 (fun b _ (hb:b=h1.size)=>by omega)) (jK.only (e4.trans hx5) hx6 (by omega)) (by unfold eZ;simp[c2,hp5])
   · have c2:¬c=91:=fun e=>c2 ((cI rfl).2 e)
     refine af ?_;refine aP (fun c3=>?_) (fun c3=>?_)
     · have c3:c=46:=(cI rfl).1 c3;refine af ?_;refine xo rfl (aF rfl (gL hk4 0 9)) ?_;rintro _ h5 ⟨hk5,hx5⟩;refine af ?_;refine xo rfl (aF rfl (gL hk5 11 255)) ?_;rintro _ h6 ⟨hk6,hx6⟩;refine cV ?_;refine aR ?_;have hx56:=hx5.trans hx6;exact fin Kj (.slice none 0 0) r _ _ (by exact sb rfl) hk6 (hkr4.ext hx56 (by show ¬_=_;omega)) (aC.ext hs4 hx56 (by show ¬_=_;omega)) (fq _ _ _ _) (jK.only e4 hx56 (by omega)) (by unfold eZ;simp[c3])
     · have c3:¬c=46:=fun e=>c3 ((cI rfl).2 e)
       refine af ?_;refine aP (fun c4=>?_) (fun c4=>?_)
       · have c4:c=92:=(cI rfl).1 c4;refine af ?_;refine xo rfl (vO rfl (om hs4 (by omega)) ((fun _ _ ⟨hc,hp,hx⟩=>PR.no hc (by unfold eZ;simp[c4,hp]) (e4.trans hx)))) ?_;rintro _ h5 ⟨b,r5,hp5,rfl,hs5,hx5⟩;have hk5:=hk4.ext hx5 (by show ¬_=_;omega);have hkr5:=hkr4.ext hx5 (by show ¬_=_;omega);refine af ?_;refine xo rfl (aF rfl (gL hk5 b b)) ?_;rintro _ h6 ⟨hk6,hx6⟩;refine cV ?_;refine aR ?_;exact fin (zl b) (.slice none 0 0) r5 _ _ (by exact sb rfl) hk6 (hkr5.ext hx6 (by show ¬_=_;omega)) (aC.ext hs5 hx6 (by show ¬_=_;omega)) (fq _ _ _ _) (jK.only (e4.trans hx5) hx6 (by omega)) (by unfold eZ;simp[c4,hp5])
       · have c4:¬c=92:=fun e=>c4 ((cI rfl).2 e)
         refine af ?_;refine aP (fun d41=>?_) (fun d41=>?_)
         · have d41:c=41:=(cI rfl).1 d41;refine af ?_;refine eu rfl (by rw[d41];decide) ?_;refine af ?_;refine xp rfl (au (H.gR ) rfl) ?_;refine af ?_;refine aH rfl (cT (Φ:=fun _ _=>False) rfl (PR.no rfl (by unfold eZ;simp[d41]) e4)) ?_;rintro _ _ hpn;exact hpn.elim
         · have d41:¬c=41:=fun e=>d41 ((cI rfl).2 e)
           refine af ?_;refine aP (fun d93=>?_) (fun d93=>?_)
           · have d93:c=93:=(cI rfl).1 d93;refine af ?_;refine eu rfl (by rw[d93];decide) ?_;refine af ?_;refine xp rfl (au (H.gR ) rfl) ?_;refine af ?_;refine aH rfl (cT (Φ:=fun _ _=>False) rfl (PR.no rfl (by unfold eZ;simp[d93]) e4)) ?_;rintro _ _ hpn;exact hpn.elim
           · have d93:¬c=93:=fun e=>d93 ((cI rfl).2 e)
             refine af ?_;refine aP (fun d124=>?_) (fun d124=>?_)
             · have d124:c=124:=(cI rfl).1 d124;refine af ?_;refine eu rfl (by rw[d124];decide) ?_;refine af ?_;refine xp rfl (au (H.gR ) rfl) ?_;refine af ?_;refine aH rfl (cT (Φ:=fun _ _=>False) rfl (PR.no rfl (by unfold eZ;simp[d124]) e4)) ?_;rintro _ _ hpn;exact hpn.elim
             · have d124:¬c=124:=fun e=>d124 ((cI rfl).2 e)
               refine af ?_;refine aP (fun d42=>?_) (fun d42=>?_)
               · have d42:c=42:=(cI rfl).1 d42;refine af ?_;refine eu rfl (by rw[d42];decide) ?_;refine af ?_;refine xp rfl (au (H.gR ) rfl) ?_;refine af ?_;refine aH rfl (cT (Φ:=fun _ _=>False) rfl (PR.no rfl (by unfold eZ;simp[d42]) e4)) ?_;rintro _ _ hpn;exact hpn.elim
               · have d42:¬c=42:=fun e=>d42 ((cI rfl).2 e)
                 refine af ?_;refine aP (fun d43=>?_) (fun d43=>?_)
                 · have d43:c=43:=(cI rfl).1 d43;refine af ?_;refine eu rfl (by rw[d43];decide) ?_;refine af ?_;refine xp rfl (au (H.gR ) rfl) ?_;refine af ?_;refine aH rfl (cT (Φ:=fun _ _=>False) rfl (PR.no rfl (by unfold eZ;simp[d43]) e4)) ?_;rintro _ _ hpn;exact hpn.elim
                 · have d43:¬c=43:=fun e=>d43 ((cI rfl).2 e)
                   refine af ?_;refine aP (fun d63=>?_) (fun d63=>?_)
                   · have d63:c=63:=(cI rfl).1 d63;refine af ?_;refine xp rfl (au (H.gR ) rfl) ?_;refine af ?_;refine aH rfl (cT (Φ:=fun _ _=>False) rfl (PR.no rfl (by unfold eZ;simp[d63]) e4)) ?_;rintro _ _ hpn;exact hpn.elim
                   · have d63:¬c=63:=fun e=>d63 ((cI rfl).2 e)
                     refine af ?_;refine xo rfl (aF rfl (gL hk4 c c)) ?_;rintro _ h6 ⟨hk6,hx6⟩;refine cV ?_;refine aR ?_;exact fin (zl c) (.slice none 0 0) r _ _ (by exact sb rfl) hk6 (hkr4.ext hx6 (by show ¬_=_;omega)) (aC.ext hs4 hx6 (by show ¬_=_;omega)) (fq _ _ _ _) (jK.only e4 hx6 (by omega)) (by unfold eZ;simp[c1,c2,c3,c4,d41,d93,d124,d42,d43,d63])
theorem yl {ρ:Env}{dst:Option Nat}{ty:TypeId}{pos:String}{after:Array Edge}{guard:Option (Nat×Bool)}{x y:Operand}{l:List (Int×Int)}
 (hx:aQ ρ x=some (.map (some m))) (hy:aQ ρ y=some (.int .u8 (c.toNat:Nat))) (hm:fu (Value.int .u8) (Value.int .i64) h m l) (hv:∀c:UInt8,((kZ (c.toNat:Int) l).map (Value.int .i64)).getD (Value.int .i64 0)=Value.int .i64 (cW c:Nat)) :
 ay Tryz.prog ⟨dst,.lookup 271 x y false,ty,pos,after,guard⟩ ρ h (.int .i64 (cW c:Nat)):=by
 have:=ay.lookup (P:=Tryz.prog) (ρ:=ρ) (h:=h) (dst:=dst) (ty:=ty) (pos:=pos) (after:=after) (guard:=guard) (jE.int .u8) underlying271 underlying5 (z:=.int .i64 0) (et:=3) (by kernel_rfl) hx hy rfl hm
 rwa [hv c] at this
theorem Ao (h:0<cW c):eD x (c::r)=eD (.mk (cW c) 0 [x]) r:=by
 rw[eD,if_neg (by omega)]
theorem An {m:By}(h:cW (m.head?.getD 0)=0):eD x m=(x,m):=by
 cases m with
 |nil=>rfl
 |cons c r=>rw[eD,if_pos (by simpa using h)]
theorem AB (ih:vE d lim) (hg:Sg h lim) (hrb:lim<=rb) (hs:St h rb l) (hd:l.length<=d) (hl:l.length<=1000000):av Tryz.prog 166 #[BU rb] h (PR rb h (fS (dI d) l) (C6 h.size)):=by
 have hlt:=hs.lt;refine bP ?_;refine af ?_;refine xo rfl (cm) ?_;rintro _ h1 ⟨rfl,hkr,he1,hz1⟩;refine af ?_;refine xo rfl (vO rfl (C1 ih (hg.ext he1 (fun _ k=>k.elim)) hrb (aC.ah hs he1) hd hl) ((fun _ _ ⟨hc,hp,hx⟩=>PR.no hc (by unfold fS;rw[hp];rfl) ((aq.of he1).trans hx)))) ?_;rintro _ h2 ⟨x0,m0,hp0,⟨w0,rfl,hnd2⟩,hs2,hx2⟩;refine xo rfl (cm) ?_;rintro _ h3 ⟨rfl,hk3,he3,hz3⟩;refine aH rfl (aK rfl rfl hk3 (bB.one hnd2)) ?_;rintro _ h4 ⟨rfl,hk4,hx4,hz4⟩;have hz2:=hx2.size;have hkr:aC h1 h.size 134 (dy 0 0 (.slice none 0 0)):=hkr;have hk4:aC h4 h2.size 134 (dy x0.kind x0.set w0):=hk4;have e2:Ext (only rb) h h2:=(aq.of he1).trans hx2;have hkr2:=hkr.ext hx2 (by show ¬_=_;omega);have e24:aq h2 h4:=aq.only he3 hx4 (Nat.le_refl _);have hnd4:bB h4 (fun b=>b<h.size+1\/b=h2.size) (dy x0.kind x0.set w0) x0:=hnd2.mv (Mv.cg e24 fun b hb hn=>⟨fun k=>k,fun k=>by have:¬b<h1.size:=hn;omega⟩);have hm0:=xG (fun h=>kK d h) hp0;have hpc:fS (dI d) l=some (eD x0 m0):=by unfold fS;rw[hp0];rfl
 generalize htg:eD x0 m0=tgt at hpc;generalize hnb:h2.size=nb at hk4 hnd4 hs2;have hnb1:h.size+1<=nb:=by omega
 refine af ?_;refine LC (σ:=Nd×Value×By) (fun q=>[(0,BU rb),(2,.pointer (some ⟨h.size,0,none⟩)),(3,.pointer (some ⟨nb,0,none⟩))]) (fun q h'=>St h' rb q.2.2/\aC h' nb 134 (dy q.1.kind q.1.set q.2.1)/\aC h' h.size 134 (dy 0 0 (.slice none 0 0))/\Ext (only rb) h h'/\bB h' (fun b=>b<h.size+1\/b=nb) (dy q.1.kind q.1.set q.2.1) q.1/\q.2.2.length<=1000000/\eD q.1 q.2.2=tgt) (fun q=>q.2.2.length) ((x0,w0,m0)) ⟨aC.ah hs2 e24,hk4,hkr2.ah e24,jK.ah e2 e24,hnd4,by show m0.length<=_;omega,htg⟩ ?_;rintro⟨x,w,m⟩ h5 ⟨hs5,hk5,hkr5,e5,hnd5,hm,hsg⟩ ih
 try dsimp only
 dsimp only at hs5 hk5 hnd5 hm hsg;have hg5:Sg h5 lim:=hg.ext e5 (fun b (hb:b=rb)=>by omega);obtain⟨mp,hm1,hm2,hcell,lm,hmap,hval⟩:=hg5;refine af ?_;refine FE ?_;refine eO rfl (az rfl hcell) ?_;refine af ?_;refine OL (tS hs5) ?_;refine eO rfl (yl rfl rfl hmap hval) ?_;refine af ?_;refine aP (fun hgo=>?_) (fun hgo=>?_)
 · have hgo:0<cW (m.head?.getD 0):=by omega
   obtain⟨c,r,rfl⟩:=List.exists_cons_of_ne_nil (fun(e:m=[])=>by rw[e] at hgo;revert hgo;decide);have hgo:0<cW c:=hgo;rw[Ao hgo] at hsg;simp only[List.length_cons] at hm;have hlt5:=hk5.lt;have hltr:=hkr5.lt
   have hn1:¬((⟨10,0,none⟩:Addr).block=rb\/Array.size h5<=(⟨10,0,none⟩:Addr).block):=by
    show ¬(10=rb\/Array.size h5<=10);omega
   have hn2:¬(nb=rb\/Array.size h5<=nb):=by omega
   have hn3:¬(mp=rb\/Array.size h5<=mp):=by omega
   have hO5:¬(h5.size<h.size+1\/h5.size=nb):=by have:=hkr5.lt;omega
   refine af ?_;refine kH 8 (fun b=>b=rb\/Array.size h5<=b) (fun i=>Nat.blt i 7) ?_;refine bC 0 rfl (fun h' e=>az rfl (e.cell hn1 hcell)) ?_;refine aG 1 ?_;refine bC 4 rfl (fun h' e=>bV rfl (e.rowAt hn2 hk5.row)) ?_;refine Ls 2 5 rfl rfl (vO rfl (fP hs5 (by simp only[List.length_cons];omega)) ((fun _ _ ⟨_,hp,_⟩=>by cases hp))) (sH) ?_ ?_
   · rintro _ h6 ⟨_,_,hp6,rfl,hs6,hx6⟩;refine⟨fun _=>hx6.mono (fun _ _ k=>.inl k),?_⟩;cases hp6;have hmap6:=hmap.ext hx6 (by show ¬_=_;omega);have hz6:=hx6.size;have hk6:=hk5.ext hx6 (by show ¬_=_;omega);have hnd6:bB h6 (fun b=>b<h.size+1\/b=nb) (dy x.kind x.set w) x:=hnd5.mv (Mv.cg hx6 fun b hb hn=>⟨fun(k:b=rb)=>hn (.inl (by omega)),hn⟩);refine bC 3 rfl (fun h' e=>yl rfl rfl (hmap6.ext e hn3) hval) ?_;refine cU 5 rfl (sH) ?_;rintro _ _ ⟨rfl,rfl⟩;refine⟨fun _=>by first|exact Ext.push _ _ _|assumption,?_⟩;refine bC 6 rfl (fun h' e=>au (H.qS _ _ _ _) rfl) ?_;have hsl:=aY.nY (e:=rR) (t:=134) hnd6 (show ¬(h6.size<h.size+1\/h6.size=nb) by omega);have ep:=Ext.push (fun _=>False) h6 (.cells (dy x.kind x.set w).toArray 134);have hk7:=hk6.ah ep;have hs7:St _ rb r:=aC.ah hs6 ep;have hkr7:=(hkr5.ext hx6 (by show ¬_=_;omega)).ah ep;have e7:=jK.ah (e5.trans hx6) ep;refine iA 7 rfl (aK rfl rfl hk7 (bB.one (bB.of (cW c) 0 hsl))) ?_;rintro _ h8 ⟨rfl,hk8,hx8,hz8⟩;refine⟨nofun,?_⟩;refine gV ?_;refine af ?_;have hk8:aC h8 nb 134 (dy (cW c) 0 (.slice (some ⟨h6.size,0,none⟩) 1 1)):=hk8;exact ih (.mk (cW c) 0 [x],.slice (some ⟨h6.size,0,none⟩) 1 1,r) ⟨aC.ext hs7 hx8 (by show ¬_=_;omega),hk8,hkr7.ext hx8 (by show ¬_=_;omega),jK.only e7 hx8 (by omega),(bB.of (cW c) 0 hsl).mv (Mv.cg hx8 fun b hb hn=>⟨fun(k:b=nb)=>hn (.inr k),hn⟩),by show r.length<=_;omega,hsg⟩ (by show r.length<(c::r).length;simp)
   · rintro _ _ ⟨rfl,rfl⟩;refine⟨fun _=>by first|exact Ext.push _ _ _|assumption,?_⟩;have hsl:=aY.nY (e:=rR) (t:=134) hnd5 hO5;have ep:=Ext.push (fun _=>False) h5 (.cells (dy x.kind x.set w).toArray 134);refine cU 2 rfl (vO rfl (fP (aC.ah hs5 ep) (by simp only[List.length_cons];omega)) ((fun _ _ ⟨_,hp,_⟩=>by cases hp))) ?_;rintro _ h6 ⟨_,_,hp6,rfl,hs6,hx6⟩;refine⟨fun _=>hx6.mono (fun _ _ k=>.inl k),?_⟩;cases hp6;have hmap6:=(hmap.ext ep (fun k=>k)).ext hx6 (by show ¬_=_;omega);have hz6:=hx6.size;have hzp:(h5.push (.cells (dy x.kind x.set w).toArray 134)).size=h5.size+1:=by simp
     have hk6:=(hk5.ah ep).ext hx6 (by show ¬_=_;omega);have hkr6:=(hkr5.ah ep).ext hx6 (by show ¬_=_;omega);have hn4:¬(mp=rb\/Array.size h5<=mp):=hn3;refine bC 3 rfl (fun h' e=>yl rfl rfl (hmap6.ext e hn4) hval) ?_;refine bC 6 rfl (fun h' e=>au (H.qS _ _ _ _) rfl) ?_;have hsl6:aY rR h6 (fun b=>b<h.size+1\/b=nb) (.slice (some ⟨h5.size,0,none⟩) 1 1) [x]:=hsl.mv (Mv.cg hx6 fun b hb hn=>⟨fun(k:b=rb)=>hn (.inl (by omega)),hn⟩);refine iA 7 rfl (aK rfl rfl hk6 (bB.one (bB.of (cW c) 0 hsl6))) ?_;rintro _ h8 ⟨rfl,hk8,hx8,hz8⟩;refine⟨nofun,?_⟩;refine gV ?_;refine af ?_;have hk8:aC h8 nb 134 (dy (cW c) 0 (.slice (some ⟨h5.size,0,none⟩) 1 1)):=hk8;exact ih (.mk (cW c) 0 [x],.slice (some ⟨h5.size,0,none⟩) 1 1,r) ⟨aC.ext hs6 hx8 (by show ¬_=_;omega),hk8,hkr6.ext hx8 (by show ¬_=_;omega),jK.only ((jK.ah e5 ep).trans hx6) hx8 (by omega),(bB.of (cW c) 0 hsl6).mv (Mv.cg hx8 fun b hb hn=>⟨fun(k:b=nb)=>hn (.inr k),hn⟩),by show r.length<=_;omega,hsg⟩ (by show r.length<(c::r).length;simp)
 · rw[An (by omega)] at hsg;refine af ?_;refine xp rfl (bV rfl hk5.row) ?_;refine aH rfl (aK rfl rfl hkr5 (bB.one hnd5)) ?_;rintro _ h6 ⟨rfl,hk6,hx6,hz6⟩;refine af ?_;have hk6:aC h6 h.size 134 (dy x.kind x.set w):=hk6;refine bF (br rfl hk6.row bE) ?_;exact⟨x,m,by rw[hpc,<-hsg],⟨w,rfl,hnd5.mv (Mv.cg hx6 fun b hb hn=>⟨fun(k:b=h.size)=>hn (.inl (by omega)),fun(k:b<h.size)=>hn (.inl (by omega))⟩)⟩,aC.ext hs5 hx6 (by show ¬_=_;omega),jK.only e5 hx6 (Nat.le_refl _)⟩
theorem wL (ih:vE d lim) (hg:Sg h lim) (hrb:lim<=rb) (hs:St h rb l) (hd:l.length<=d) (hl:l.length<=1000000):av Tryz.prog 136 #[BU rb] h (PR rb h (yu (dI d) l) (C6 h.size)):=by
 have hlt:=hs.lt;have hrl:∀{s x r},dI d s=some (x,r)->r.length<=s.length:=fun h=>kK d h
 refine bP ?_;refine af ?_;refine xo rfl (cm) ?_;rintro _ h1 ⟨rfl,hkr,he1,hz1⟩;refine af ?_;have hkr:aC h1 h.size 134 (dy 0 0 (.slice none 0 0)):=hkr;generalize htg:mz (dI d) (l.length+1) l=tgt;have hrow:yu (dI d) l=tgt.map fun p=>(bS 2 p.1,p.2):=by unfold yu;rw[htg]
 have htg0:tgt.map (fun p=>(([]:List Nd)++p.1,p.2))=tgt:=by cases tgt<;>rfl
 refine gJ (σ:=List Nd×Value×By) (fun q=>[(3,q.2.1)]) (fun q h'=>St h' rb q.2.2/\cy rR (DN h1.size) h' h1.size 134 q.2.1 q.1/\aC h' h.size 134 (dy 0 0 (.slice none 0 0))/\Ext (only rb) h h'/\q.2.2.length+q.1.length<=l.length/\(mz (dI d) (q.2.2.length+1) q.2.2).map (fun p=>(q.1++p.1,p.2))=tgt) (fun q=>q.2.2.length) (([],.slice none 0 0,l)) ⟨aC.ah hs he1,cy.nil _ _ _ _ _,hkr,aq.of he1,by show l.length+0<=_;omega,by rw[htg];exact htg0⟩ rfl ?_;rintro⟨acc,v,m⟩ h5 ⟨hs5,hv5,hkr5,e5,hm,hcon⟩ ih'
 try dsimp only
 dsimp only at hs5 hv5 hm hcon
 iterate 2 refine aR ?_
 refine dW [(24,.bool (!j8 m))] rfl ?_ ?_
 · refine af ?_;refine xp rfl (az rfl hs5.cell) ?_;refine af ?_;refine b9 9 (fun he=>?_) (fun he=>?_)
   · have hne:¬bs m=⟨#[]⟩:=of_decide_eq_true he;obtain⟨c,r,rfl⟩:=List.exists_cons_of_ne_nil (fun(e:m=[])=>hne (by rw[e];rfl));refine af ?_;refine xp rfl (az rfl hs5.cell) ?_;refine xp rfl (sG rfl rfl 0 rfl (eJ rfl)) ?_;refine af ?_;refine b9 17 (fun h124=>?_) (fun h124=>?_)
     · have h124:¬c=124:=fun e=>(of_decide_eq_true h124) ((cI rfl).2 e)
       refine af ?_;refine xp rfl (az rfl hs5.cell) ?_;refine xp rfl (sG rfl rfl 0 rfl (eJ rfl)) ?_;refine af ?_;exact aA rfl ⟨ai rfl (by simp only[j8];rw[show (c ==124)=false by simpa using h124,Bool.false_or,show (c ==41)=decide (c=41) by rw[Bool.eq_iff_iff];simp,<-decide_not];exact decide_eq_decide.2 (not_congr (cI rfl))),sb rfl⟩
     · have h124:c=124:=(cI rfl).1 (Classical.not_not.1 (of_decide_eq_false h124));refine af ?_;exact aA rfl ⟨ai rfl (by simp[j8,h124]),sb rfl⟩
   · have hne:bs m=⟨#[]⟩:=Classical.not_not.1 (of_decide_eq_false he);obtain rfl:m=[]:=aI hne;refine af ?_;exact aA rfl ⟨ai rfl (by rfl),sb rfl⟩
 · obtain⟨css,hc1,hc2,hc3⟩:=id hv5;have hlt5:=hkr5.lt;have hz5:=e5.size;refine fF (fun hgo=>?_) (fun hgo=>?_)
   · have hend:j8 m=false:=by simpa using hgo
     have hcon':tgt=(match fS (dI d) m with|none=>none|some (x,r)=>((mz (dI d) (r.length+1) r).map fun p=>(x::p.1,p.2)).map (fun p=>(acc++p.1,p.2))):=by
      rw[<-hcon,mz,if_neg (by rw[hend];decide)];cases hp:fS (dI d) m with
      |none=>rfl
      |some q =>
       obtain⟨x,r⟩:=q;have:=fR hrl hp;simp only;rw[wM hrl m.length (r.length+1) r (by omega) (by omega)]
     refine af ?_;refine xo rfl (vO rfl (AB ih (hg.ext e5 (fun b (hb:b=rb)=>by omega)) hrb hs5 (by omega) (by omega)) ((fun _ _ ⟨hc,hp,hx⟩=>PR.no hc (by rw[hrow,hcon',hp];rfl) (e5.trans hx)))) ?_;rintro _ h6 ⟨x,r,hp,⟨w,rfl,hnd6⟩,hs6,hx6⟩;have hr6:=fR hrl hp;have hz6:=hx6.size;have hown:∀b,v.ownBlock=some b->h1.size<=b/\b<h5.size:=fun b hb=>hc2.lt hb
     have hc26:=hc2.ext hx6 (fun b hb (k:b=rb)=>by have:=hown b hb;omega);have hc36:∀(i:Nat) (cs:List Value) (x:Nd),css[i]? =some cs->acc[i]? =some x->rR.R h6 (fun b=>cu v.ownBlock b\/b<h1.size) cs x:=fun i cs x h1' h2'=>rR.mv (hc3 i cs x h1' h2') (Mv.cg hx6 fun b hb hn=>⟨fun(k:b=rb)=>hn (.inr (by show b<_;omega)),hn⟩)
     have hnd6':rR.R h6 (fun b=>cu v.ownBlock b\/b<h1.size) (dy x.kind x.set w) x:=bB.mv hnd6 ⟨Nat.le_refl _,fun b hb hn=>⟨rfl,fun k=>by
      have hn:¬b<h5.size:=hn
      rcases k with k|k
      · have:=hown b k.symm;omega
      · omega⟩⟩
     refine xo rfl (sH) ?_;rintro _ _ ⟨rfl,rfl⟩;refine xo rfl (aT.gm underlying132 H.Hy rfl rfl (hc26) rfl rfl (bB.one hnd6) (by omega) (by decide) (by omega)) ?_;rintro v7 h7 ⟨ho7,hx7,-,hv7⟩;refine af ?_;have hrb7:¬cu v.ownBlock rb:=fun k=>by have:=hown rb k.symm;omega
     have hr7:¬cu v.ownBlock h.size:=fun k=>by have:=hown _ k.symm;omega
     have e7:Ext (only rb) h h7:=⟨by have:=hx7.size;omega,fun b hb hn=>by rw[hx7.block b (by omega) (fun k=>by have:=hown b k.symm;omega)];exact(e5.trans hx6).block b hb hn⟩
     rw[hp] at hcon';exact ih' (acc++[x],v7,r) ⟨aC.ext hs6 hx7 hrb7,cy.fC hc1 hc36 ho7 hx7 hv7 hnd6',(hkr5.ext hx6 (by show ¬_=_;omega)).ext hx7 hr7,e7,by show r.length+(acc++[x]).length<=_;rw[List.length_append,List.length_singleton];omega,by rw[hcon'];simp only[Option.map_map];congr 1;funext p;simp⟩
   · have hend:j8 m=true:=by simpa using hgo
     rw[mz,if_pos hend] at hcon;have hsl:aY rR h5 (DN h1.size) v acc:=hv5.read (fun b hb (k:b<h1.size)=>by omega) (fun b _ k=>k);refine af ?_;refine xo rfl (aF rfl (pZ 2 hsl)) ?_;rintro _ h6 ⟨⟨w,rfl,hnd6⟩,he6⟩;refine aH rfl (aK rfl rfl ((hkr5.ah he6)) (bB.one hnd6)) ?_;rintro _ h7 ⟨rfl,hk7,hx7,hz7⟩;refine af ?_;have hk7:aC h7 h.size 134 (dy (bS 2 acc).kind (bS 2 acc).set w):=hk7;have hz6:=he6.size;refine bF (br rfl hk7.row bE) ?_;exact⟨bS 2 acc,m,by rw[hrow,<-hcon];simp,⟨w,rfl,gC hnd6 (by omega) hx7 (fun b _ (hb:b=h.size)=>by omega)⟩,aC.ext (aC.ah hs5 he6) hx7 (by show ¬_=_;omega),jK.only (jK.ah e5 he6) hx7 (Nat.le_refl _)⟩
theorem El (ih:vE d lim) (hg:Sg h lim) (hrb:lim<=rb) (hs:St h rb l) (hd:l.length<=d) (hl:l.length<=1000000):av Tryz.prog 94 #[BU rb] h (PR rb h (dI (d+1) l) (C6 h.size)):=by
 have hlt:=hs.lt;have hrl:∀{s x r},dI d s=some (x,r)->r.length<=s.length:=fun h=>kK d h
 have hrows:dI (d+1) l=match yu (dI d) l with|none=>none|some (x,r)=>rY (dI d) [x] r:=tM hrl [] l
 refine bP ?_;refine af ?_;refine xo rfl (cm) ?_;rintro _ h1 ⟨rfl,hkr,he1,hz1⟩;refine af ?_;refine xo rfl (vO rfl (wL ih (hg.ext he1 (fun _ k=>k.elim)) hrb (aC.ah hs he1) hd hl) ((fun _ _ ⟨hc,hp,hx⟩=>PR.no hc (by rw[hrows,hp]) ((aq.of he1).trans hx)))) ?_;rintro _ h2 ⟨x0,m0,hp0,⟨w0,rfl,hnd2⟩,hs2,hx2⟩;have hkr:aC h1 h.size 134 (dy 0 0 (.slice none 0 0)):=hkr;have hz2:=hx2.size;have hm0:=Aw hrl hp0;have ep:=Ext.push (fun _=>False) h2 (.cells (dy x0.kind x0.set w0).toArray 134);have hv0:cy rR (DN h1.size) (h2.push (.cells (dy x0.kind x0.set w0).toArray 134)) h1.size 134 (.slice (some ⟨h2.size,0,none⟩) 1 1) [x0]:=cy.nY (e:=rR) hnd2 hz2;have hs3:St _ rb m0:=aC.ah hs2 ep;have hkr3:=(hkr.ext hx2 (by show ¬_=_;omega)).ah ep;have e3:=jK.ah ((aq.of he1).trans hx2) ep;rw[hp0] at hrows;simp only at hrows;generalize htg:rY (dI d) [x0] m0=tgt at hrows;refine xo rfl (sH) ?_;rintro _ _ ⟨rfl,rfl⟩;refine af ?_;refine LC (σ:=List Nd×Value×By) (fun q=>[(0,BU rb),(2,.pointer (some ⟨h.size,0,none⟩)),(3,q.2.1)]) (fun q h'=>St h' rb q.2.2/\cy rR (DN h1.size) h' h1.size 134 q.2.1 q.1/\aC h' h.size 134 (dy 0 0 (.slice none 0 0))/\Ext (only rb) h h'/\(q.2.2.length<=l.length/\q.2.2.length+q.1.length<=l.length+1)/\rY (dI d) q.1 q.2.2=tgt) (fun q=>q.2.2.length) (([x0],.slice (some ⟨h2.size,0,none⟩) 1 1,m0)) ⟨hs3,hv0,hkr3,e3,⟨by show m0.length<=_;omega,by show m0.length+1<=_;omega⟩,htg⟩ ?_;rintro⟨acc,v,m⟩ h5 ⟨hs5,hv5,hkr5,e5,⟨hml,hm⟩,hcon⟩ ih'
 try dsimp only
 dsimp only at hs5 hv5 hml hm hcon;refine af ?_;refine xo rfl (aF rfl (lA 124 hs5 (by omega))) ?_;rintro _ h6 ⟨hor,hx6⟩;refine af ?_;have hlt5:=hkr5.lt;have hz5:=e5.size;have hz6:=hx6.size;have hkr6:=hkr5.ext hx6 (by show ¬_=_;omega);have e6:=e5.trans hx6;have hv6:cy rR (DN h1.size) h6 h1.size 134 v acc:=hv5.mv (hx6.mono fun b _ (k:b=rb)=>(by omega:b<h1.size)) (fun b hb (k:b<h1.size)=>by omega) (fun b _ k=>k);obtain⟨css,hc1,hc2,hc3⟩:=id hv6
 rcases hor with ⟨a1,rfl,hs6⟩|⟨a1,rfl,hs6⟩
 · obtain⟨c,t,rfl⟩:=List.exists_cons_of_ne_nil (fun(e:m=[])=>by rw[e] at a1;cases a1);have hs6:St h6 rb t:=hs6;simp only[List.length_cons] at hm hml
   have hcon':tgt=match yu (dI d) t with|none=>none|some (x,r)=>rY (dI d) (acc++[x]) r:=by
    have hG:=tM (rows:=dI d) hrl acc t;rw[<-hcon];refine Eq.trans ?_ hG;unfold rY;rw[if_pos a1];rfl
   refine eu rfl (by decide) ?_;refine af ?_;refine xo rfl (vO rfl (wL ih (hg.ext e6 (fun b (hb:b=rb)=>by omega)) hrb hs6 (by omega) (by omega)) ((fun _ _ ⟨hc,hp,hx⟩=>PR.no hc (by rw[hrows,hcon',hp]) (e6.trans hx)))) ?_;rintro _ h7 ⟨x,r,hp,⟨w,rfl,hnd7⟩,hs7,hx7⟩;have hr7:=Aw hrl hp;have hz7:=hx7.size;have hown:∀b,v.ownBlock=some b->h1.size<=b/\b<h6.size:=fun b hb=>hc2.lt hb
   have hc27:=hc2.ext hx7 (fun b hb (k:b=rb)=>by have:=hown b hb;omega);have hc37:∀(i:Nat) (cs:List Value) (x:Nd),css[i]? =some cs->acc[i]? =some x->rR.R h7 (fun b=>cu v.ownBlock b\/b<h1.size) cs x:=fun i cs x h1' h2'=>rR.mv (hc3 i cs x h1' h2') (Mv.cg hx7 fun b hb hn=>⟨fun(k:b=rb)=>hn (.inr (by show b<_;omega)),hn⟩)
   have hnd7':rR.R h7 (fun b=>cu v.ownBlock b\/b<h1.size) (dy x.kind x.set w) x:=bB.mv hnd7 ⟨Nat.le_refl _,fun b hb hn=>⟨rfl,fun k=>by
    have hn:¬b<h6.size:=hn
    rcases k with k|k
    · have:=hown b k.symm;omega
    · omega⟩⟩
   refine xo rfl (sH) ?_;rintro _ _ ⟨rfl,rfl⟩;refine xo rfl (aT.gm underlying132 H.Hy rfl rfl (hc27) rfl rfl (bB.one hnd7) (by omega) (by decide) (by omega)) ?_;rintro v8 h8 ⟨ho8,hx8,-,hv8⟩;refine af ?_;have hrb8:¬cu v.ownBlock rb:=fun k=>by have:=hown rb k.symm;omega
   have hr8:¬cu v.ownBlock h.size:=fun k=>by have:=hown _ k.symm;omega
   have e8:Ext (only rb) h h8:=⟨by have:=hx8.size;omega,fun b hb hn=>by rw[hx8.block b (by omega) (fun k=>by have:=hown b k.symm;omega)];exact(e6.trans hx7).block b hb hn⟩
   rw[hp] at hcon';exact ih' (acc++[x],v8,r) ⟨aC.ext hs7 hx8 hrb8,cy.fC hc1 hc37 ho8 hx8 hv8 hnd7',(hkr6.ext hx7 (by show ¬_=_;omega)).ext hx8 hr8,e8,⟨by show r.length<=_;omega,by show r.length+(acc++[x]).length<=_;rw[List.length_append,List.length_singleton];omega⟩,hcon'.symm⟩ (by show r.length<(c::t).length;simp only[List.length_cons];omega)
 · refine eC rfl (by decide) ?_;have hsl:aY rR h6 (DN h1.size) v acc:=hv6.read (fun b hb (k:b<h1.size)=>by omega) (fun b _ k=>k);have hfin:tgt=some (bS 3 acc,m):=by rw[<-hcon];unfold rY;rw[if_neg a1]
   refine af ?_;refine xo rfl (aF rfl (pZ 3 hsl)) ?_;rintro _ h7 ⟨⟨w,rfl,hnd7⟩,he7⟩;refine aH rfl (aK rfl rfl ((hkr6.ah he7)) (bB.one hnd7)) ?_;rintro _ h8 ⟨rfl,hk8,hx8,hz8⟩;refine af ?_;have hk8:aC h8 h.size 134 (dy (bS 3 acc).kind (bS 3 acc).set w):=hk8;have hz7:=he7.size;refine bF (br rfl hk8.row bE) ?_;exact⟨bS 3 acc,m,by rw[hrows,hfin],⟨w,rfl,gC hnd7 (by omega) hx8 (fun b _ (hb:b=h.size)=>by omega)⟩,aC.ext (aC.ah hs6 he7) hx8 (by show ¬_=_;omega),jK.only (jK.ah e6 he7) hx8 (Nat.le_refl _)⟩
theorem Dr (lim:Nat):∀d,vE d lim
 | 0=>fun _ _ l _ _ _ h _=>absurd h (Nat.not_lt_zero _)
 |d+1=>fun _ _ _ hg hrb hs hd hl=>El (Dr lim d) hg hrb hs (by omega) hl
end
end Go.Proofs.YtdgckfkoihcmjaaGreatDoor
namespace Go.Proofs.YtdgckfkoihcmjaaGreatDoor
open Go.Proofs.Tryz
open Go Go.Lw Go.RowKit
set_option maxRecDepth 20000 set_option maxHeartbeats 4000000
section
variable {h:aj}{nb eb:Nat}
abbrev wD:List Value:=dy 0 0 (.slice none 0 0)
theorem CU {cs:List Value}{v0:Value}(hcs:cs.length=6) (hk:aC h nb 134 cs) (he:aC h eb 33 [v0]) (hne:nb≠eb) (B w:World) (ha:At B h w) :
 CallsD Tryz.prog 93 #[.pointer (some ⟨nb,0,none⟩),.pointer (some ⟨eb,0,none⟩)] (.panicking [{ v:=tP,recovered:=false }]) w fun e u' w' =>
  (∃r,e= .returned r)/\u'= .panicking [{ v:=tP,recovered:=true }]/\∃h',At B h' w'/\aC h' nb 134 wD/\aC h' eb 33 [.int .i64 10]/\Ext (fun b=>b=nb\/b=eb) h h':=by
 refine mX (v:=tP) (vs:=[.pointer (some ⟨nb,0,none⟩),.pointer (some ⟨eb,0,none⟩)]) (u':=.panicking [{ v:=tP,recovered:=true }]) func93 rfl rfl rfl rfl rfl rfl rfl rfl rfl rfl (fun c₀ cs hu=>.inl (by simp[recoverD,hu])) (fun a hf=>?_);refine wp_seq (wp_region ?_);refine(show RW Tryz.prog Tryz.f93.ntmps _ 0 _ h (fun ρ' h'=>h'=h/\Sub [(5,.bool true),(2,tP),(0,.pointer (some ⟨nb,0,none⟩)),(1,.pointer (some ⟨eb,0,none⟩))] ρ') (fun _ _=>False) from ?_) B a w hf ha _ ?_ (fun _ _ _ _ _ _ k=>k.elim)
 · refine RW.bl rfl rfl rfl rfl (dc rfl) ?_;refine RW.bl rfl rfl rfl rfl (ay.pP underlying20 rfl (.inr ⟨_,_,rfl⟩)) ?_;exact eK rfl ⟨rfl,rfl,rfl,rfl,rfl,trivial⟩
 rintro ρ' h' a1 w1 hf1 ha1 ⟨rfl,hsub⟩;have hf1:=hf1.sub hsub;refine wp_cond_true (hf1.eval (x:=.tmp 5) rfl) ?_;refine wp_seq (wp_region ?_);refine(show RW Tryz.prog Tryz.f93.ntmps _ 0 _ h' (fun ρ' g=>g=h'/\Sub [(0,.pointer (some ⟨nb,0,none⟩)),(1,.pointer (some ⟨eb,0,none⟩))] ρ') (fun _ _=>False) from ?_) B a1 w1 hf1 ha1 _ ?_ (fun _ _ _ _ _ _ k=>k.elim)
 · refine RW.bl rfl rfl rfl rfl (dc rfl) ?_;refine RW.bl rfl rfl rfl rfl (ay.vV underlying188 rfl) ?_;exact eK rfl ⟨rfl,rfl,rfl,trivial⟩
 rintro ρ'' h'' a2 w2 hf2 ha2 ⟨rfl,hsub2⟩;have hf2:=hf2.sub hsub2;refine wp_region ?_;refine(show RW Tryz.prog Tryz.f93.ntmps _ 0 _ h'' (fun _ g=>aC g nb 134 wD/\aC g eb 33 [.int .i64 10]/\Ext (fun b=>b=nb\/b=eb) h'' g) (fun _ _=>False) from ?_) B a2 w2 hf2 ha2 _ ?_ (fun _ _ _ _ _ _ k=>k.elim)
 · refine RW.bl rfl rfl rfl rfl (au (H.C0 ) rfl) ?_;refine RW.zL rfl rfl rfl (aT.gv H.mg rfl rfl hk rfl (by rw[hcs];decide) (by first|decide|simp[Value.oneCell'])) ?_;rintro _ h3 ⟨rfl,hk3,hx3,hz3⟩
   have hk3:aC h3 nb 134 wD:=by
    rw[Gx (by rw[hcs];rfl)] at hk3;exact hk3
   refine RW.zL rfl rfl rfl (aT.jd H.D5 rfl rfl (he.ext hx3 (fun e=>hne e.symm)) (by simp) rfl) ?_;rintro _ h4 ⟨rfl,hk4,hx4,hz4⟩;exact eK rfl ⟨hk3.ext hx4 (fun e=>hne e),hk4,(hx3.mono fun _ _ k=>.inl k).trans (hx4.mono fun _ _ k=>.inr k)⟩
 rintro _ h5 a5 w5 hf5 ha5 ⟨hq1,hq2,hq3⟩;exact⟨hf5.nd,_,eS hf5 ha5 .nil,⟨_,rfl⟩,rfl,h5,ha5,hq1,hq2,hq3⟩
theorem CV (B w:World) (ha:At B h w) :
 CallsD Tryz.prog 93 #[.pointer (some ⟨nb,0,none⟩),.pointer (some ⟨eb,0,none⟩)] .returning w fun e u' w'=>(∃r,e= .returned r)/\u'= .returning/\At B h w':=by
 refine mX (v:=.nilIface) (vs:=[.pointer (some ⟨nb,0,none⟩),.pointer (some ⟨eb,0,none⟩)]) (u':=.returning) func93 rfl rfl rfl rfl rfl rfl rfl rfl rfl rfl (fun c₀ cs hu=>.inr ⟨by simp[recoverD,hu],rfl,rfl⟩) (fun a hf=>?_);refine wp_seq (wp_region ?_);refine(show RW Tryz.prog Tryz.f93.ntmps _ 0 _ h (fun ρ' h'=>h'=h/\Sub [(5,.bool false)] ρ') (fun _ _=>False) from ?_) B a w hf ha _ ?_ (fun _ _ _ _ _ _ k=>k.elim)
 · refine RW.bl rfl rfl rfl rfl (dc rfl) ?_;refine RW.bl rfl rfl rfl rfl (ay.pP underlying20 rfl (.inl rfl)) ?_;exact eK rfl ⟨rfl,rfl,trivial⟩
 rintro ρ' h' a1 w1 hf1 ha1 ⟨rfl,hsub⟩;have hf1:=hf1.sub hsub;refine wp_cond_false (hf1.eval (x:=.tmp 5) rfl) (wp_skip ?_);exact⟨hf1.nd,_,eS hf1 ha1 .nil,⟨_,rfl⟩,rfl,ha1⟩
theorem uj {cs:List Value}{v0:Value}{ρ:Env}{R:Ending->aj->Prop}(h2:ρ.at 2=some (.pointer (some ⟨nb,0,none⟩))) (h3:ρ.at 3=some (.pointer (some ⟨eb,0,none⟩))) (hcs:cs.length=6) (hk:aC h nb 134 cs) (he:aC h eb 33 [v0]) (hne:nb≠eb)
 (hR:∀h',Ext (fun b=>b=nb\/b=eb) h h'->R (.returned (.tuple #[.agg wD.toArray,.int .i64 10])) h') :
 nL Tryz.prog f55 [{ target:=.fn (.func 93) #[.pointer (some ⟨nb,0,none⟩),.pointer (some ⟨eb,0,none⟩)],args:= #[] }] (.panicking [{ v:=tP,recovered:=false }]) ρ h R:=by
 intro B a w hf ha;refine leaves_cons (f:=93) (args:= #[.pointer (some ⟨nb,0,none⟩),.pointer (some ⟨eb,0,none⟩)]) (by simp) (nW func93 rfl (by decide +kernel)) ?_;refine(CU hcs hk he hne B w ha).mono ?_;rintro e u' w' ⟨⟨r,rfl⟩,rfl,h',ha',hk',he',hx'⟩;refine⟨_,eS hf.zero ha' (.cons (fH.KH H.xI H.mg h2 hk'.row rfl) (.cons (fH.cell H.Lg h3 (he'.cell (i:=0) rfl)) .nil)),h',ha',hR h' hx'⟩
theorem CG {x:Nd}{w0:Value}{e0:Int}{ρ:Env}{R:Ending->aj->Prop}(h2:ρ.at 2=some (.pointer (some ⟨nb,0,none⟩))) (h3:ρ.at 3=some (.pointer (some ⟨eb,0,none⟩))) (hk:aC h nb 134 (dy x.kind x.set w0)) (he:aC h eb 33 [.int .i64 e0])
 (hR:R (.returned (.tuple #[.agg (dy x.kind x.set w0).toArray,.int .i64 e0])) h) :
 nL Tryz.prog f55 [{ target:=.fn (.func 93) #[.pointer (some ⟨nb,0,none⟩),.pointer (some ⟨eb,0,none⟩)],args:= #[] }] .returning ρ h R:=by
 intro B a w hf ha;refine leaves_cons (f:=93) (args:= #[.pointer (some ⟨nb,0,none⟩),.pointer (some ⟨eb,0,none⟩)]) (by simp) (nW func93 rfl (by decide +kernel)) ?_;refine(CV B w ha).mono ?_;rintro e u' w' ⟨⟨r,rfl⟩,rfl,ha'⟩;refine⟨_,eS hf.zero ha' (.cons (fH.KH H.xI H.mg h2 hk.row rfl) (.cons (fH.cell H.Lg h3 (he.cell (i:=0) rfl)) .nil)),h,ha',hR⟩
def Lj (h h':aj) (s:By) (r:Value):Prop:=∃w,r= .tuple #[.agg (dy (bz s).1.kind (bz s).1.set w).toArray,.int .i64 (bz s).2]/\bB h' (DN h.size) (dy (bz s).1.kind (bz s).1.set w) (bz s).1
theorem AD {lim:Nat}(hg:Sg h lim) (hlim:lim<=h.size) (s:By) (hs:s.length<=1000000):av Tryz.prog 55 #[.string (bs s)] h (bq fun r h'=>Lj h h' s r/\aq h h'):=by
 have hsz:=aL s;refine bP ?_;refine af ?_;refine xo rfl (cm) ?_;rintro _ h1 ⟨rfl,hk1,he1,hz1⟩;refine xo rfl (cm) ?_;rintro _ h2 ⟨rfl,hk2,he2,hz2⟩;refine af ?_;have hk1:aC h1 h.size 134 wD:=hk1;have hk2:aC h2 h1.size 33 [.int .i64 0]:=hk2;have hk12:=hk1.ah he2;have e2:=he1.trans he2;refine aP (fun hbig=>?_) (fun hbig=>?_)
 · have hE:bz s=(nF,3):=by unfold bz;rw[if_pos (by omega)]
   refine af ?_;refine xp rfl (au (H.C0 ) rfl) ?_;refine aH rfl (aK rfl rfl hk12) ?_;rintro _ h3 ⟨rfl,hk3,hx3,hz3⟩;refine aH rfl (kY rfl rfl ((hk2.ext hx3 (by show ¬_=_;omega)))) ?_;rintro _ h4 ⟨rfl,hk4,hx4,hz4⟩;refine af ?_;have hk3:aC h3 h.size 134 wD:=hk3;have hk4:aC h4 h1.size 33 [.int .i64 3]:=hk4;refine bF (br rfl ((hk3.ext hx4 (by show ¬_=_;omega)).row) (OX rfl (hk4.cell (i:=0) rfl) bE)) ?_;refine⟨_,rfl,⟨.slice none 0 0,by rw[hE];rfl,by rw[hE];exact fq _ _ 0 0⟩,aq.only (aq.only e2 hx3 (Nat.le_refl _)) hx4 (by omega)⟩
 · iterate 2 refine aR ?_
   refine G.K4 (caps:=[.pointer (some ⟨h.size,0,none⟩),.pointer (some ⟨h1.size,0,none⟩)]) func55 rfl rfl rfl rfl rfl rfl rfl rfl rfl rfl rfl ?_;have hE:bz s=match j9 s with|some x=>(x,0)|none=>(nF,10):=by unfold bz;rw[if_neg (by omega)];rfl
   refine nw rfl ?_;refine GD.nP func55 rfl ?_;refine iL.bl rfl rfl rfl rfl (dc rfl) ?_;refine iL.bl rfl rfl rfl rfl (au (H.Jz _) rfl) ?_;refine iL.Ey rfl rfl rfl rfl (aT.ML rfl) ?_;rintro _ h3 ⟨rfl,hk3,he3,hz3⟩;refine iL.bl rfl rfl rfl rfl (ay.assign rfl) ?_;refine jC rfl ?_;refine GD.sub (ρ':=[(0,_),(2,_),(3,_),(4,_),(7,_)]) ⟨rfl,rfl,rfl,rfl,rfl,trivial⟩ ?_;refine nw rfl ?_;refine GD.nP func55 rfl ?_;refine iL.bl rfl rfl rfl rfl (dc rfl) ?_;have hk3:aC h3 h2.size 191 [.string (bs s)]:=hk3;have hg3:Sg h3 lim:=hg.ext (e2.trans he3) (fun _ k=>k.elim);have hrows:=Dr lim (s.length+1) h3 h2.size s hg3 (by omega) hk3 (Nat.lt_succ_self _) hs;have hk13:=hk12.ah he3;have hk23:=hk2.ah he3;have e3:=e2.trans he3;refine iL.Ey rfl rfl rfl rfl (qx (vs:=[_]) func94 rfl H.Oe rfl (av.LJ (hrows) ((fun _ h' ⟨hc,hp,hx⟩=>by rw[hc];exact uj rfl rfl rfl (hk13.ext hx (by show ¬_=_;omega)) (hk23.ext hx (by show ¬_=_;omega)) (by omega) (fun h'' hx2=>⟨_,rfl,⟨.slice none 0 0,by rw[hE];unfold j9;rw[hp];rfl,by rw[hE];unfold j9;rw[hp];exact fq _ _ 0 0⟩,⟨by have:=hx.size;have:=hx2.size;have:=e3.size;omega,fun b hb _=>by rw[hx2.block b (by have:=hx.size;omega) (by omega),hx.block b (by omega) (by show ¬_=_;omega)];exact e3.block b hb (fun k=>k)⟩⟩))))) ?_;rintro _ h4 ⟨x,r,hp,⟨w,rfl,hnd⟩,hs4,hx4⟩;have hz4:=hx4.size;have hk14:=hk13.ext hx4 (by show ¬_=_;omega);have hk24:=hk23.ext hx4 (by show ¬_=_;omega);have e4:aq h h4:=aq.only e3 hx4 (by omega);refine iL.zL rfl rfl rfl (aT.gv H.mg rfl rfl hk14 (by first|rfl|(simp;done)|(simp;omega)) (by first|decide|exact of_decide_eq_true rfl|(simp;done)|(simp;omega)) (bB.one hnd)) ?_;rintro _ h5 ⟨rfl,hk5,hx5,hz5⟩;refine jC rfl ?_;refine GD.sub (ρ':=[(0,_),(2,_),(3,_),(4,_),(7,_)]) ⟨rfl,rfl,rfl,rfl,rfl,trivial⟩ ?_;refine nw rfl ?_;refine nw rfl ?_;refine GD.nP func55 rfl ?_;refine iL.bl rfl rfl rfl rfl (dc rfl) ?_;refine iL.bl rfl rfl rfl rfl (qy rfl) ?_;refine iL.bl rfl rfl rfl rfl (bZ (off:=0) underlying191 rfl rfl H.zK rfl) ?_;have hk5:aC h5 h.size 134 (dy x.kind x.set w):=hk5;have hk25:=hk24.ext hx5 (by show ¬_=_;omega);have hs5:St h5 h2.size r:=aC.ext hs4 hx5 (by show ¬_=_;omega);have hnd5:bB h5 (DN h3.size) (dy x.kind x.set w) x:=gC hnd (Nat.le_refl _) hx5 (fun b _ (hb:b=h.size)=>by omega);have e5:=aq.only e4 hx5 (Nat.le_refl _);refine iL.bl rfl rfl rfl rfl (cv H.Le rfl hs5.cell) ?_;refine iL.bl rfl rfl rfl rfl (ay.GK rfl rfl) ?_;refine jC rfl ?_;refine GD.sub (ρ':=[(0,_),(2,_),(3,_),(4,_),(7,_),(19,_)]) ⟨rfl,rfl,rfl,rfl,rfl,rfl,trivial⟩ ?_;refine Ln rfl rfl (fun hr=>?_) (fun hr=>?_)
   · have hr:r≠[]:=fun e=>hr (by rw[e];rfl)
     have hpn:j9 s=none:=by
      unfold j9;rw[hp];cases r with
      |nil=>exact absurd rfl hr
      |cons c t=>rfl
     refine GD.nP func55 rfl ?_;refine iL.bl rfl rfl rfl rfl (au (H.gR ) rfl) ?_;refine iL.bl rfl rfl rfl rfl (jW H.Kk rfl) ?_;refine iL.zL rfl rfl rfl (cT (Φ:=fun _ _=>False) rfl (uj rfl rfl rfl hk5 hk25 (by omega) (fun h'' hx2=>⟨_,rfl,⟨.slice none 0 0,by rw[hE,hpn];rfl,by rw[hE,hpn];exact fq _ _ 0 0⟩,⟨by have:=hx2.size;have:=e5.size;omega,fun b hb _=>by rw[hx2.block b (by have:=e5.size;omega) (by omega)];exact e5.block b hb (fun k=>k)⟩⟩))) ?_;rintro _ _ hpn;exact hpn.elim
   · obtain rfl:r=[]:=aI (Classical.not_not.1 hr);have hpn:j9 s=some x:=by unfold j9;rw[hp]
     refine JR rfl ?_;refine nw rfl ?_;refine GD.nP func55 rfl ?_;refine iL.bl rfl rfl rfl rfl (ay.jo H.xI H.mg rfl hk5.row (by first|rfl|(simp;done)|(simp;omega))) ?_;refine iL.zL rfl rfl rfl (aT.gv H.mg rfl rfl hk5 (by first|rfl|(simp;done)|(simp;omega)) (by first|decide|exact of_decide_eq_true rfl|(simp;done)|(simp;omega)) (bB.one hnd5)) ?_;rintro _ h6 ⟨rfl,hk6,hx6,hz6⟩;refine iL.zL rfl rfl rfl (aT.jd H.D5 rfl rfl (hk25.ext hx6 (by show ¬_=_;omega)) (by first|decide|exact of_decide_eq_true rfl|(simp;done)|(simp;omega)) rfl) ?_;rintro _ h7 ⟨rfl,hk7,hx7,hz7⟩;refine jC rfl ?_;refine GD.sub (ρ':=[(0,_),(2,_),(3,_),(4,_),(7,_),(19,_)]) ⟨rfl,rfl,rfl,rfl,rfl,rfl,trivial⟩ ?_;have hk6:aC h6 h.size 134 (dy x.kind x.set w):=hk6;have hk7:aC h7 h1.size 33 [.int .i64 0]:=hk7;have hk17:=hk6.ext hx7 (by show ¬_=_;omega);have e7:=aq.only (aq.only e5 hx6 (Nat.le_refl _)) hx7 (by omega);have hnd7:bB h7 (DN h.size) (dy x.kind x.set w) x:=gC (gC hnd5 (Nat.le_refl _) hx6 (fun b _ (hb:b=h.size)=>by omega)) (by omega) hx7 (fun b _ (hb:b=h1.size)=>by omega);refine GD.ret func55 rfl ?_;exact CG rfl rfl hk17 hk7 ⟨_,rfl,⟨w,by rw[hE,hpn],by rw[hE,hpn];exact hnd7⟩,e7⟩
end
end Go.Proofs.YtdgckfkoihcmjaaGreatDoor
namespace Go.Proofs.YtdgckfkoihcmjaaGreatDoor
section
variable {l:List Nd}{s:By}{x:Nd}{i:Nat}
structure aX where
 kind:Nat
 set:Nat
 to:List Nat
 rule:Nat
end
mutual
def lay:Nd->List aX->Nat->List aX×Nat
 |.mk k s kids,ss,to =>
  if k=1 then (ss++[⟨1,s,[to],0⟩],ss.length)
  else if k=2 then bg kids ss to
  else if k=3 then ((aM kids ss to).1++[⟨0,0,(aM kids ss to).2,0⟩],(aM kids ss to).1.length)
  else if k=6 then ((bR kids ss to).1++[⟨0,0,[(bR kids ss to).2,to],0⟩],(bR kids ss to).1.length)
  else if k=4\/k=5 then
   ((bR kids (ss++[⟨0,0,[],0⟩]) ss.length).1.set ss.length ⟨0,0,[(bR kids (ss++[⟨0,0,[],0⟩]) ss.length).2,to],0⟩,
    if k=5 then (bR kids (ss++[⟨0,0,[],0⟩]) ss.length).2 else ss.length)
  else (ss,to)
def bg:List Nd->List aX->Nat->List aX×Nat
 | [],ss,to=>(ss,to)
 |x::r,ss,to=>lay x (bg r ss to).1 (bg r ss to).2
def aM:List Nd->List aX->Nat->List aX×List Nat
 | [],ss,_=>(ss,[])
 |x::r,ss,to=>((aM r (lay x ss to).1 to).1,(lay x ss to).2::(aM r (lay x ss to).1 to).2)
def bR:List Nd->List aX->Nat->List aX×Nat
 | [],ss,to=>(ss,to)
 |x::_,ss,to=>lay x ss to
end
mutual
def nN:Nd->Nat
 |.mk _ _ kids=>gr kids+1
def gr:List Nd->Nat
 | []=>0
 |x::r=>nN x+gr r
end
mutual
def tg:Nd->Bool
 |.mk k _ kids=>(!(k ==4 ||k ==5 ||k ==6) ||kids.length ==1) && th kids
def th:List Nd->Bool
 | []=>true
 |x::r=>tg x && th r
end
section
variable {l:List Nd}{s:By}{x:Nd}{i:Nat}
theorem Di (x:Nd):0<nN x:=by cases x;simp[nN]
theorem gK:∀(l m:List Nd),gr (l++m)=gr l+gr m
 | [],m=>by simp[gr]
 |x::l,m=>by simp only[List.cons_append,gr];rw[gK l m];omega
theorem lq:∀(l m:List Nd),th (l++m)=(th l && th m)
 | [],m=>by simp[th]
 |x::l,m=>by simp only[List.cons_append,th];rw[lq l m,Bool.and_assoc]
theorem xU:∀{l:List Nd}{i:Nat}{x:Nd},th l=true->l[i]? =some x->tg x=true
 | [],i,x,_,h=>by simp at h
 |y::l,0,x,hw,h=>by simp at h;subst h;simp only[th,Bool.and_eq_true] at hw;exact hw.1
 |y::l,i+1,x,hw,h=>by simp only[th,Bool.and_eq_true] at hw;exact xU hw.2 (by simpa using h)
end
mutual
theorem fK:∀(x:Nd) (ss:List aX) (to:Nat),ss.length<=(lay x ss to).1.length/\(lay x ss to).1.length<=ss.length+nN x
 |.mk k s kids,ss,to=>by
  rw[lay];simp only[nN];split
  · simp
  · split
    · have:=js kids ss to;omega
    · split
      · have:=eX kids ss to;simp only[List.length_append,List.length_singleton];omega
      · split
        · have:=fW kids ss to;simp only[List.length_append,List.length_singleton];omega
        · split
          · have:=fW kids (ss++[⟨0,0,[],0⟩]) ss.length;simp only[List.length_append,List.length_singleton] at this;simp only[List.length_set];omega
          · simp
theorem js:∀(l:List Nd) (ss:List aX) (to:Nat),ss.length<=(bg l ss to).1.length/\(bg l ss to).1.length<=ss.length+gr l
 | [],ss,to=>by simp[bg,gr]
 |x::r,ss,to=>by
  rw[bg];have h1:=js r ss to;have h2:=fK x (bg r ss to).1 (bg r ss to).2;simp only[gr];omega
theorem eX:∀(l:List Nd) (ss:List aX) (to:Nat),ss.length<=(aM l ss to).1.length/\(aM l ss to).1.length<=ss.length+gr l
 | [],ss,to=>by simp[aM,gr]
 |x::r,ss,to=>by
  rw[aM];have h1:=fK x ss to;have h2:=eX r (lay x ss to).1 to;simp only[gr];omega
theorem fW:∀(l:List Nd) (ss:List aX) (to:Nat),ss.length<=(bR l ss to).1.length/\(bR l ss to).1.length<=ss.length+gr l
 | [],ss,to=>by simp[bR,gr]
 |x::r,ss,to=>by
  rw[bR];have h1:=fK x ss to;simp only[gr];omega
end
section
variable {l:List Nd}{s:By}{x:Nd}{i:Nat}
def Small (s:By) (p:Option (Nd×By)):Prop:=∀x r,p=some (x,r)->nN x+2*r.length<=2*s.length+1/\tg x=true
theorem xY (k:Nat) (l:List Nd):nN (bS k l)<=gr l+1:=by
 unfold bS;split
 · simp[nF,nN,gr]
 · simp[gr]
 · simp[nN]
theorem xT {k:Nat}(hk:k=2\/k=3) (h:th l=true):tg (bS k l)=true:=by
 unfold bS;split
 · rfl
 · simp only[th,Bool.and_eq_true] at h;exact h.1
 · simp only[tg,h,Bool.and_true];rcases hk with rfl|rfl<;>rfl
theorem rA:∀(s:By) (n:Nd),tg n=true->nN (eD n s).1+2*(eD n s).2.length<=nN n+2*s.length/\tg (eD n s).1=true
 | [],n,hw=>by simp[eD,hw]
 |c::r,n,hw=>by
  rw[eD];split
  · simp[hw]
  · rename_i hs;have hw':tg (.mk (cW c) 0 [n])=true:=by simp[tg,th,hw]
    have h:=rA r (.mk (cW c) 0 [n]) hw';refine⟨?_,h.2⟩;have h1:=h.1;simp only[nN,gr,List.length_cons] at h1 ⊢;omega
theorem AA {rows:By->Option (Nd×By)}(hr:∀s,Small s (rows s)){r:By}(h:fS rows s=some (x,r)):nN x+2*r.length+1<=2*s.length/\tg x=true:=by
 have leaf:∀k st,(k=0\/k=1)->tg (.mk k st [])=true:=fun k st hk=>by rcases hk with rfl|rfl<;>rfl
 have key:∀y t,eZ rows s=some (y,t)->nN y+2*t.length+1<=2*s.length/\tg y=true:=by
  intro y t ha;have hlen:∀(k st:Nat),y= .mk k st []->t.length<s.length->nN y+2*t.length+1<=2*s.length:=fun k st hy ht=>by subst hy;simp only[nN,gr];omega
  unfold eZ at ha;split at ha
  · cases ha
  · rename_i c u;split at ha
    · split at ha
      · cases ha
      · rename_i n t' ht;split at ha
        · rename_i t'' _;cases ha;have:=hr _ _ _ ht;simp only[List.length_cons] at this ⊢;exact⟨by omega,this.2⟩
        · cases ha
    · split at ha
      · have hb:=qp ha
        have hy:∃st,y= .mk 1 st []:=by
         unfold iw at ha;split at ha<;>(simp only[Option.map_eq_some_iff] at ha;obtain⟨⟨m,r'⟩,_,h2⟩:=ha;cases h2;exact⟨_,rfl⟩)
        obtain⟨st,rfl⟩:=hy;exact⟨hlen _ _ rfl (by simp only[List.length_cons];omega),leaf _ _ (.inr rfl)⟩
      · split at ha
        · cases ha;exact⟨hlen _ _ rfl (by simp),leaf _ _ (.inr rfl)⟩
        · split at ha
          · simp only[Option.map_eq_some_iff] at ha;obtain⟨⟨b,r'⟩,h1,h2⟩:=ha;have:=uR h1;cases h2;exact⟨hlen _ _ rfl (by simp only[List.length_cons];omega),leaf _ _ (.inr rfl)⟩
          · split at ha
            · cases ha
            · cases ha;exact⟨hlen _ _ rfl (by simp),leaf _ _ (.inr rfl)⟩
 unfold fS at h;simp only[Option.map_eq_some_iff] at h;obtain⟨⟨n,t⟩,h1,h2⟩:=h;have h3:=key n t h1;have h4:=rA t n h3.2;rw[h2] at h4;simp only at h4;exact⟨by omega,h4.2⟩
theorem mu {rows:By->Option (Nd×By)}(hr:∀s,Small s (rows s)):∀(n:Nat) (all row:List Nd) (s:By) (x:Nd) (r:By),th all=true->th row=true->iI rows n all row s=some (x,r) ->
 nN x+2*r.length<=2*s.length+1+gr all+gr row+(if all=[] then 0 else 1)/\tg x=true
 | 0,_,_,_,_,_,_,_,h=>by cases h
 |n+1,all,row,s,x,r,hwa,hwr,h=>by
  rw[iI] at h;split at h
  · split at h
    · rename_i hbar;have hs:s.tail.length+1=s.length:=by cases s with|nil=>cases hbar|cons a b=>simp
      have hw':th (all++[bS 2 row])=true:=by rw[lq,hwa];simp[th,xT (.inl rfl) hwr]
      have ih:=mu hr n _ _ _ _ _ hw' (by rfl) h;have hj:=xY 2 row;have ha:gr (all++[bS 2 row])=gr all+nN (bS 2 row):=by rw[gK];simp[gr]
      rw[ha] at ih;refine⟨?_,ih.2⟩;have h1:=ih.1;rw[if_neg (by simp)] at h1;simp only[gr] at h1;omega
    · cases h;have hj:=xY 2 row;have hj3:=xY 3 (all++[bS 2 row]);have ha:gr (all++[bS 2 row])=gr all+nN (bS 2 row):=by rw[gK];simp[gr]
      refine⟨?_,xT (.inr rfl) (by rw[lq,hwa];simp[th,xT (.inl rfl) hwr])⟩;split
      · rename_i he;subst he;have:bS 3 ([]++[bS 2 row])=bS 2 row:=rfl;rw[this];simp only[gr] at *;omega
      · rw[ha] at hj3;omega
  · split at h
    · cases h
    · rename_i y t ht;have h1:=AA hr ht;have ih:=mu hr n all (row++[y]) t x r hwa (by rw[lq,hwr];simp[th,h1.2]) h;have ha:gr (row++[y])=gr row+nN y:=by rw[gK];simp[gr]
      rw[ha] at ih;exact⟨by have:=ih.1;omega,ih.2⟩
theorem rF:∀(d:Nat) (s:By),Small s (dI d s)
 | 0,s=>fun x r h=>by cases h
 |d+1,s=>fun x r h=>by
  have:=mu (fun s=>rF d s) _ _ _ _ _ _ rfl rfl h;simpa [gr] using this
theorem yB (h:j9 s=some x):nN x<=2*s.length+1/\tg x=true:=by
 unfold j9 at h;split at h
 · rename_i n hn;cases h;have:=rF _ _ _ _ hn;simpa using this
 · cases h
theorem A7 (hx:l[i]? =some x) (ss:List aX) (to:Nat):bg (l.drop i) ss to=lay x (bg (l.drop (i+1)) ss to).1 (bg (l.drop (i+1)) ss to).2:=by
 obtain⟨hi,rfl⟩:=List.getElem?_eq_some_iff.1 hx;rw[List.drop_eq_getElem_cons hi,bg]
theorem mK:∀(l:List Nd) (ss:List aX) (to:Nat),(aM l ss to).2.length=l.length
 | [],ss,to=>by simp[aM]
 |x::r,ss,to=>by rw[aM];simp[mK r]
end
mutual
theorem lG:∀(x:Nd) (ss:List aX) (to i:Nat),i<ss.length->(lay x ss to).1[i]? =ss[i]?
 |.mk k s kids,ss,to,i,hi=>by
  rw[lay];split
  · simp[List.getElem?_append_left hi]
  · split
    · exact ur kids ss to i hi
    · split
      · have:=eX kids ss to;simp only;rw[List.getElem?_append_left (by omega)];exact oH kids ss to i hi
      · split
        · have:=fW kids ss to;simp only;rw[List.getElem?_append_left (by omega)];exact oG kids ss to i hi
        · split
          · simp only;rw[List.getElem?_set_ne (by omega),oG kids (ss++[(⟨0,0,[],0⟩:aX)]) ss.length i (by simp;omega),List.getElem?_append_left hi]
          · rfl
theorem ur:∀(l:List Nd) (ss:List aX) (to i:Nat),i<ss.length->(bg l ss to).1[i]? =ss[i]?
 | [],ss,to,i,hi=>by simp[bg]
 |x::r,ss,to,i,hi=>by
  rw[bg];have h1:=js r ss to;rw[lG x _ _ i (by omega),ur r ss to i hi]
theorem oH:∀(l:List Nd) (ss:List aX) (to i:Nat),i<ss.length->(aM l ss to).1[i]? =ss[i]?
 | [],ss,to,i,hi=>by simp[aM]
 |x::r,ss,to,i,hi=>by
  rw[aM];have h1:=fK x ss to;simp only;rw[oH r _ _ i (by omega),lG x ss to i hi]
theorem oG:∀(l:List Nd) (ss:List aX) (to i:Nat),i<ss.length->(bR l ss to).1[i]? =ss[i]?
 | [],ss,to,i,hi=>by simp[bR]
 |x::r,ss,to,i,hi=>by
  rw[bR];exact lG x ss to i hi
end
section
variable {l:List Nd}{s:By}{x:Nd}{i:Nat}
theorem FV (hx:l[i]? =some x):gr (l.take i)+nN x<=gr l:=by
 obtain⟨hi,rfl⟩:=List.getElem?_eq_some_iff.1 hx;have h:gr (l.take i++l.drop i)=gr l:=by rw[List.take_append_drop]
 rw[gK,List.drop_eq_getElem_cons hi,gr] at h;omega
theorem FX (hx:l[i]? =some x):gr (l.drop (i+1))+nN x<=gr l:=by
 obtain⟨hi,rfl⟩:=List.getElem?_eq_some_iff.1 hx;have h:gr (l.take i++l.drop i)=gr l:=by rw[List.take_append_drop]
 rw[gK,List.drop_eq_getElem_cons hi,gr] at h;omega
theorem Dj:∀l:List Nd,l.length<=gr l
 | []=>by simp[gr]
 |x::l=>by have:=Dj l;have:=Di x;simp only[List.length_cons,gr];omega
def rG:List aX->List Bool->Nat
 |x::r,b::s=>(if b then 0 else x.to.length+1)+rG r s
 |_,_=>0
def iJ (ss:List aX):Nat->List Nat->List Bool->List Bool
 | 0,_,seen=>seen
 |n+1,todo,seen =>
  match todo.getLast? with
  |none=>seen
  |some i =>
   if seen[i]? =some true then iJ ss n todo.dropLast seen
   else iJ ss n (match ss[i]? with|some x=>if x.kind=0 then todo.dropLast++x.to else todo.dropLast|none=>todo.dropLast) (seen.set i true)
def closed (ss:List aX) (todo:List Nat):List Nat :=
 if todo.length=0 then []
 else ((List.range ss.length).filter fun i=>(iJ ss (todo.length+rG ss (List.replicate ss.length false)) todo (List.replicate ss.length false))[i]? ==some true && (ss[i]?.map (·.kind)) !=some 0)
theorem yA:∀(ss:List aX) (seen:List Bool) (i:Nat) (x:aX),ss[i]? =some x->seen[i]? =some false->rG ss (seen.set i true)+(x.to.length+1)=rG ss seen
 | [],_,_,_,h,_=>by simp at h
 |_::_,[],_,_,_,h=>by simp at h
 |y::r,b::s,0,x,h1,h2=>by
  simp at h1 h2;subst h1 h2;simp[rG];omega
 |y::r,b::s,i+1,x,h1,h2=>by
  have:=yA r s i x (by simpa using h1) (by simpa using h2);simp only[List.set_cons_succ,rG];omega
def Good (ss:List aX):Prop:=∀x∈ss,∀j∈x.to,j<ss.length
def bX (ss:List aX) (st:Nat):List Nat:=if ss.length=0 then [] else closed ss [st]
def qt (x:aX) (b:Int):Bool:=decide (x.kind=2/\(b<0\/(x.rule:Int)<b))
def qu (ss:List aX):List Nat->Int->Int
 | [],b=>b
 |j::r,b=>qu ss r (match ss[j]? with|some x=>if qt x b then x.rule else b|none=>b)
def aV (ss:List aX) (now:List Nat):Int:=if ss.length=0 then -1 else qu ss now (-1)
def je (x:aX) (c:UInt8):Bool:=decide (x.kind=1) && x.set.testBit c.toNat
def stepG (ss:List aX) (c:UInt8):List Nat->List Nat->List Nat
 | [],a=>a
 |j::r,a=>stepG ss c r (match ss[j]? with|some x=>if je x c then a++x.to else a|none=>a)
def cw (ss:List aX) (c:UInt8) (now:List Nat):List Nat:=if ss.length=0 then [] else closed ss (stepG ss c now [])
theorem qD (ss:List aX) (c:UInt8):∀(l a:List Nat),a.length<=(stepG ss c l a).length
 | [],a=>Nat.le_refl _
 |j::r,a=>by
  rw[stepG];refine Nat.le_trans ?_ (qD ss c r _);split
  · split<;>simp
  · exact Nat.le_refl _
def jm (ss:List aX):List UInt8->List Nat->Nat->Int×Int->Int×Int
 |l,now,k,b =>
  if now.length=0 then b
  else match l with
   | []=>if 0<=aV ss now then ((k:Int),aV ss now) else b
   |c::r=>jm ss r (cw ss c now) (k+1) (if 0<=aV ss now then ((k:Int),aV ss now) else b)
def dn (ss:List aX) (st:Nat) (l:List UInt8):Int×Int:=if ss.length=0 then (0,-1) else jm ss l (bX ss st) 0 (0,-1)
def CA (ss:List aX) (st:Nat) (s:By) (a:Int):Int×Int:=if ss.length=0\/a<0\/(s.length:Int)<a then (0,-1) else dn ss st (s.drop a.toNat)
theorem tY {ss:List aX}{l:List UInt8}{now:List Nat}{k:Nat}{b:Int×Int}(h:now.length=0):jm ss l now k b=b:=by cases l<;>(rw[jm];exact if_pos h)
theorem Cj (ss:List aX) (st:Nat):(bX ss st).Sublist (List.range ss.length):=by
 unfold bX closed;split
 · exact List.nil_sublist _
 · split
   · exact List.nil_sublist _
   · exact List.filter_sublist
theorem D7 (ss:List aX) (c:UInt8) (now:List Nat):(cw ss c now).Sublist (List.range ss.length):=by
 unfold cw closed;split
 · exact List.nil_sublist _
 · split
   · exact List.nil_sublist _
   · exact List.filter_sublist
def kN:Nat->List By->List aX->List Nat->Int ⊕ (List aX×List Nat)
 |_,[],ss,t=>.inr (ss,t)
 |i,s::r,ss,t=>if (bz s).2≠0 then .inl (bz s).2 else kN (i+1) r (lay (bz s).1 (ss++[⟨2,0,[],i⟩]) ss.length).1 (t++[(lay (bz s).1 (ss++[⟨2,0,[],i⟩]) ss.length).2])
def vW (l:List By):Nat:=(l.map List.length).sum
def eG (rules:List By):Int ⊕ (List aX×Nat) :=
 if rules.length=0\/64<rules.length then .inl 2
 else match kN 0 rules [] [] with
  |.inl e=>.inl e
  |.inr (ss,t)=>if 2000<vW rules then .inl 70 else .inr (ss++[⟨0,0,t,0⟩],ss.length)
theorem pK (h0:(bz s).2=0):nN (bz s).1<=401/\tg (bz s).1=true/\s.length<=200:=by
 unfold bz at *;split at h0
 · cases h0
 · rename_i hl;rw[if_neg hl];split at h0
   · rename_i x hx;have:=yB hx;exact⟨by show nN x<=401;omega,this.2,by omega⟩
   · cases h0
theorem wG {l:List By}(hx:l[i]? =some s):vW (l.take (i+1))=vW (l.take i)+s.length:=by
 rw[List.take_add_one,hx,Option.toList_some];simp[vW]
end
end Go.Proofs.YtdgckfkoihcmjaaGreatDoor
namespace Go.Proofs.YtdgckfkoihcmjaaGreatDoor
open Go.Proofs.Tryz
open Go Go.Lw
set_option maxRecDepth 20000 set_option maxHeartbeats 4000000
section
variable {h:aj}{O:Nat->Prop}{v:Value}{nb st:Nat}
def dP (n:Nat):Value:=.int .i64 (n:Nat)
def iC:gD Nat:=.flat dP fun _=>rfl
def Ec (k s:Nat) (v:Value) (r:Nat):List Value:=[.int .i64 (k:Nat),ef s 0,ef s 1,ef s 2,ef s 3,v,.int .i64 (r:Nat)]
def H6 (h:aj) (O:Nat->Prop) (cs:List Value) (x:aX):Prop:=∃v,cs=Ec x.kind x.set v x.rule/\aY iC h O v x.to
theorem aY.Kf {α:Type}{e:gD α}{xs:List α}(k:aY e h O v xs):v.oneCell'=true:=by
 obtain⟨oa,n,c,rfl,_⟩:=k;rfl
def Fb:gD aX:=⟨7,by decide,H6,fun h=>by obtain⟨v,rfl,_⟩:=h;rfl,fun h=>by
 obtain⟨v,rfl,hv⟩:=h;intro u hu;simp[Ec,ef] at hu
 rcases hu with rfl|rfl|rfl|rfl|rfl|rfl|rfl<;>first|rfl|exact aY.Kf hv,fun h m=>by
 obtain⟨v,hc,hv⟩:=h;exact⟨v,hc,hv.mv m⟩⟩
structure bM (h:aj) (O:Nat->Prop) (nb:Nat) (v:Value) (ss:List aX) (st:Nat):Prop where
 blk:aC h nb 128 [v,.int .i64 (st:Nat)]
 row:cy Fb (fun b=>b=nb\/O b) h (nb+1) 140 v ss
abbrev dY (nb:Nat) (v:Value):Nat->Prop:=fun b=>b=nb\/cu v.ownBlock b
theorem bM.own {ss:List aX}(k:bM h O nb v ss st):∀b,v.ownBlock=some b->nb<b/\b<h.size:=fun b hb=>by
 obtain⟨css,_,h2,_⟩:=k.row;have:=h2.lt hb;omega
theorem bM.ext {M:Nat->Prop}{O O':Nat->Prop}{h h':aj}{nb:Nat}{v:Value}{ss:List aX}{st:Nat}(k:bM h O nb v ss st) (e:Ext M h h') (hnb:¬M nb) (hown:∀b,v.ownBlock=some b->¬M b) (hM:∀b,b<h.size->M b->O b) (hO:∀b,b<h.size->O' b->O b):bM h' O' nb v ss st :=
 ⟨k.blk.ext e hnb,k.row.oZ e hown (fun b hb hm=>.inr (hM b hb hm)) (fun b hb k=>k.imp id (hO b hb))⟩
theorem bM.ah {O':Nat->Prop}{h':aj}{ss:List aX}(k:bM h O nb v ss st) (e:aq h h') (hO:∀b,b<h.size->O' b->O b):bM h' O' nb v ss st:=k.ext e (fun k=>k) (fun _ _ k=>k) (fun _ _ k=>k.elim) hO
theorem Ft {w:Value}{ss:List aX}{x:aX}(hn:bM h O nb v ss st) (_hO:∀b,O b->b<h.size) (hx:H6 h (fun b=>dY nb v b\/O b) (Ec x.kind x.set w x.rule) x) (hl:ss.length<=1000000) :
 av Tryz.prog 57 #[.pointer (some ⟨nb,0,none⟩),.agg (Ec x.kind x.set w x.rule).toArray] h (bq fun r h'=>∃v',r= .int .i64 (ss.length:Nat)/\bM h' O nb v' (ss++[x]) st/\Ext (dY nb v) h h'/\(∀b,v'.ownBlock=some b->v.ownBlock=some b\/h.size<=b)):=by
 have hw1:∀u∈Ec x.kind x.set w x.rule,u.oneCell'=true:=Fb.one hx;refine bP ?_;refine af ?_;refine xo rfl (iF) ?_;rintro _ h1 ⟨rfl,hk1,he1,hz1⟩;have hk1:aC h1 h.size 140 (Ec x.kind x.set w x.rule):=hk1;have hn1:=hn.ah (O':=O) he1 (fun _ _ k=>k);obtain⟨css,hc1,hc2,hc3⟩:=id hn1.row;have hown:=hn1.own;have hnlt:=hn1.blk.lt;have hnz:=hn.blk.lt;have hnM:¬(cu v.ownBlock nb\/Array.size h1<=nb):=by rintro(k|k);(have:=hown nb k.symm;omega);omega
 have hkM:¬(cu v.ownBlock h.size\/Array.size h1<=h.size):=by rintro(k|k);(have:=hn.own _ k.symm;omega);omega
 refine af ?_;refine kH 11 (fun b=>cu v.ownBlock b\/Array.size h1<=b) (fun i=>Nat.blt i 10) ?_;refine aG 0 ?_;refine aG 1 ?_;refine aG 2 ?_;refine aG 3 ?_;refine bC 4 rfl (fun h' e=>az rfl (e.cell hnM (hn1.blk.cell (i:=0) rfl))) ?_;refine bC 5 rfl (fun h' e=>bV rfl (e.rowAt hkM hk1.row)) ?_;refine cU 6 rfl (sH) ?_;rintro _ _ ⟨rfl,rfl⟩;refine⟨fun _=>by first|exact Ext.push _ _ _|assumption,?_⟩;refine cU 7 rfl (aT.gm underlying126 H.Kh rfl rfl (hc2) rfl rfl (hw1) (by omega) (by decide) (by omega)) ?_;rintro v2 h2 ⟨ho2,hx2,hx2',hv2⟩;refine⟨fun _=>hx2'.mono (fun _ _ k=>.inl k),?_⟩;obtain⟨oa2,c2,rfl,_⟩:=ho2.open;refine Iu 8 ?_;refine aG 9 ?_;refine iA 10 rfl (kY rfl rfl ((hn1.blk.ext hx2 (fun k=>by have:=hown nb k.symm;omega)))) ?_;rintro _ h3 ⟨rfl,hk3,hx3,hz3⟩;refine⟨nofun,?_⟩;refine gV ?_;refine af ?_;have hxs:Fb.R h1 (fun b=>cu v.ownBlock b\/b=nb\/O b) (Ec x.kind x.set w x.rule) x:=Fb.mv hx ⟨he1.size,fun b hb hn=>⟨he1.block b hb (fun k=>k),fun k=>hn (by rcases k with k|k|k;(exact .inl (.inr k));(exact .inl (.inl k));exact .inr k)⟩⟩;have hrow2:cy Fb (fun b=>b=nb\/O b) h2 (nb+1) 140 (.slice oa2 (ss.length+1) c2) (ss++[x]):=cy.fC hc1 hc3 ho2 hx2 hv2 hxs;have hrow3:cy Fb (fun b=>b=nb\/O b) h3 (nb+1) 140 (.slice oa2 (ss.length+1) c2) (ss++[x]):=hrow2.oZ hx3 (fun b hb (k:b=nb)=>by have:=hv2 b hb;rcases this with k'|k';(have:=hown b k';omega);omega) (fun b _ k=>.inl k) (fun b _ k=>k);have hk3:aC h3 nb 128 [.slice oa2 (ss.length+1) c2,.int .i64 (st:Nat)]:=hk3;refine xp rfl (az rfl (hk3.cell (i:=0) rfl)) ?_;refine af ?_;refine bh ?_;refine⟨_,rfl,_,?_,⟨hk3,hrow3⟩,⟨by have:=he1.size;have:=hx2.size;omega,fun b hb hn=>by rw[hx3.block b (by have:=hx2.size;omega) (fun k=>hn (.inl k)),hx2.block b (by omega) (fun k=>hn (.inr k)),he1.block b hb (fun k=>k)]⟩,fun b hb=>?_⟩
 · show Value.int _ _=_
   congr 1;omega
 · rcases hv2 b hb with k|k
   · exact .inl k
   · exact .inr (by omega)
theorem sF {l cap:Nat}{oa:Option Addr}{n c:Nat}{J:Nat->aj->Prop}(hn:n<=1000000)
 (hread:∀j h,J j h->cellAt h ⟨cap,0,none⟩=some (.slice oa n c)) (hy:∀j h,J (j+1) h->j<n->∃(b o k s:Nat) (w:Value),oa=some ⟨b,o,none⟩/\Lw.rowAt h b (o+j*6) (dy k s w) /\
  gz Tryz.prog l #[.int .i64 (j:Nat),.agg (dy k s w).toArray] h (bq fun r h'=>r= .bool true/\J j h')) (h0:J n h) :
 av Tryz.prog 139 #[.func (.yield l) #[] #[],.pointer (some ⟨cap,0,none⟩)] h (bq fun _ h'=>J 0 h'):=by
 refine bP ?_;refine af ?_;refine xp rfl (az rfl (hread _ _ h0)) ?_;refine af ?_;refine gJ (σ:=Nat) (fun j=>[(3,.int .i64 ((j:Int)-1))]) (fun j h'=>J j h'/\j<=n) (fun j=>j) (n) ⟨h0,Nat.le_refl _⟩ rfl ?_;rintro j h1 ⟨hJ,hj⟩ ih;refine af ?_;refine aP (fun hge=>?_) (fun hge=>?_)
 · obtain⟨i,rfl⟩:∃i,j=i+1:=⟨j-1,by omega⟩
   obtain⟨b,o,k,s,w,ha,hrow,hyy⟩:=hy i h1 hJ (by omega);have hji:((i+1:Nat):Int)-1=((i:Nat):Int):=by omega
   rw[hji];refine De rfl ?_;refine sj rfl ?_;refine G.block rfl rfl ?_;refine sj rfl ?_;refine G.KJ func139 rfl ?_;refine dQ.bl rfl rfl rfl rfl rfl (dc rfl) ?_;refine dQ.bl rfl rfl rfl rfl rfl (dc rfl) ?_;refine dQ.bl rfl rfl rfl rfl rfl (cv H.Kp rfl (hread _ _ hJ)) ?_;refine dQ.bl rfl rfl rfl rfl rfl (dc rfl) ?_;refine dQ.bl rfl rfl rfl rfl rfl (ay.oJ underlying132 H.mg rfl rfl i rfl ha (by omega)) ?_;refine dQ.bl rfl rfl rfl rfl rfl (ay.jo H.xI H.mg rfl hrow (by first|rfl|(simp;done)|(simp;omega))) ?_;refine qY (vs:=[_,_]) rfl rfl rfl rfl rfl rfl rfl (hyy) ?_;rintro _ h2 ⟨rfl,hJ2⟩;refine dQ.bl rfl rfl rfl rfl rfl (ay.IT rfl) ?_;refine fI rfl ?_;refine eC rfl (by decide) ?_;refine af ?_;exact ih i ⟨hJ2,by omega⟩
 · obtain rfl:j=0:=by omega
   refine af ?_;refine Ir ?_;exact⟨_,rfl,hJ⟩
theorem vp (v:Value) (hv:v.oneCell'=true):av Tryz.prog 95 #[v] h (bq fun r h'=>r= .func (.func 139) #[] #[.pointer (some ⟨h.size,0,none⟩)]/\h'=h.push (.cells #[v] 132)):=by
 have hcells:v.cells= #[v]:=by cases v<;>simp[Value.oneCell'] at hv<;>rfl
 refine bP ?_;refine af ?_;refine xo rfl (aT.box rfl) ?_;rintro _ _ ⟨rfl,rfl⟩;refine af ?_;refine xp rfl (ay.makeFunc (vs:=[_]) rfl) ?_;refine af ?_;refine bh ?_;exact⟨_,rfl,rfl,by rw[hcells]⟩
end
end Go.Proofs.YtdgckfkoihcmjaaGreatDoor
namespace Go.Proofs.YtdgckfkoihcmjaaGreatDoor
open Go Go.Lw
set_option maxRecDepth 20000
section
variable {O:Nat->Prop}{nb:Nat}{h h':aj}{v:Value}
structure Nx (O:Nat->Prop) (nb:Nat) (h:aj) (v:Value) (h':aj) (v':Value):Prop where
  ext:Ext (fun b=>dY nb v b\/O b) h h'
  own:∀b,v'.ownBlock=some b->v.ownBlock=some b\/h.size<=b
theorem Nx.refl {O:Nat->Prop}{nb:Nat}{h:aj}{v:Value}:Nx O nb h v h v:=⟨Ext.refl _ _,fun _ k=>.inl k⟩
theorem Nx.Lt (e:aq h h'):Nx O nb h v h' v:=⟨e.mono fun _ _ k=>k.elim,fun _ k=>.inl k⟩
theorem Nx.mono {O O':Nat->Prop}{nb:Nat}{h h':aj}{v v':Value}(k:Nx O nb h v h' v') (hO:∀b,b<h.size->O b->O' b):Nx O' nb h v h' v':=⟨k.ext.mono fun b hb k=>k.imp id (hO b hb),k.own⟩
theorem Nx.trans {O':Nat->Prop}{h1 h2:aj}{v1 v2:Value}(k:Nx O nb h v h1 v1) (k':Nx O' nb h1 v1 h2 v2) (hO:∀b,b<h.size->O' b->O b):Nx O nb h v h2 v2:=by
  refine⟨⟨Nat.le_trans k.ext.size k'.ext.size,fun b hb hn=>?_⟩,fun b hb=>?_⟩
  · rw[k'.ext.block b (Nat.lt_of_lt_of_le hb k.ext.size) ?_,k.ext.block b hb hn];rintro((k1|k1)|k1)
    · exact hn (.inl (.inl k1))
    · rcases k.own b k1.symm with k2|k2
      · exact hn (.inl (.inr k2.symm))
      · omega
    · exact hn (.inr (hO b hb k1))
  · have:=k.ext.size
    rcases k'.own b hb with k2|k2
    · exact k.own b k2
    · exact .inr (by omega)
theorem Nx.mv {v':Value}(k:Nx O nb h v h' v'):Mv (fun b=>dY nb v b\/O b) (fun b=>dY nb v' b\/O b) h h' :=
  ⟨k.ext.size,fun b hb hn=>⟨k.ext.block b hb hn,by
    rintro((k1|k1)|k1)
    · exact hn (.inl (.inl k1))
    · rcases k.own b k1.symm with k2|k2
      · exact hn (.inl (.inr k2.symm))
      · omega
    · exact hn (.inr k1)⟩⟩
theorem Nx.rI {v':Value}(k:Nx (fun _=>False) nb h v h' v'):Mv (dY nb v) (dY nb v') h h' :=
  ⟨k.ext.size,fun b hb hn=>⟨k.ext.block b hb (fun k=>k.elim hn id),fun k1=>by
    rcases k1 with k1|k1
    · exact hn (.inl k1)
    · rcases k.own b k1.symm with k2|k2
      · exact hn (.inr k2.symm)
      · omega⟩⟩
def JQ (O:Nat->Prop) (nb:Nat) (h:aj) (v:Value) (st:Nat) (out:List aX×Nat) (r:Value) (h':aj):Prop:=∃v',r= .int .i64 (out.2:Nat)/\bM h' O nb v' out.1 st/\Nx (fun _=>False) nb h v h' v'
def Ia (n:Nat):Prop:=∀{x:Nd}{h:aj}{O:Nat->Prop}{nb:Nat}{v w:Value}{ss:List aX}{st to:Nat},nN x<=n->bM h O nb v ss st->(∀b,O b->b<h.size)->bB h (dY nb v) (dy x.kind x.set w) x->tg x=true->ss.length+nN x<=1000000 ->
  av Tryz.prog 56 #[.pointer (some ⟨nb,0,none⟩),.agg (dy x.kind x.set w).toArray,.int .i64 (to:Nat)] h (bq (JQ O nb h v st (lay x ss to)))
theorem zC {w:Value}{ss:List aX}{st:Nat}{x:aX}(hn:bM h O nb v ss st) (hO:∀b,O b->b<h.size) (hx:H6 h (fun b=>dY nb v b\/O b) (Ec x.kind x.set w x.rule) x) (hl:ss.length<=1000000) :
    av Tryz.prog 57 #[.pointer (some ⟨nb,0,none⟩),.agg (Ec x.kind x.set w x.rule).toArray] h (bq (JQ O nb h v st (ss++[x],ss.length))) :=
  (Ft hn hO hx hl).mono fun e h' r=>by
    obtain⟨u,he,v',hu,hn',hx',ho⟩:=r;exact⟨u,he,v',hu,hn',hx'.mono fun _ _ k=>.inl k,ho⟩
theorem Kg (i:Nat):ef 0 i= .int .u64 0:=by simp[ef,B7]
theorem nh {w:Value}{ss:List aX}{st:Nat}{to:List Nat}(hn:bM h O nb v ss st) (hO:∀b,O b->b<h.size) (hx:aY iC h (fun b=>dY nb v b\/O b) w to) (hl:ss.length<=1000000) :
    av Tryz.prog 57 #[.pointer (some ⟨nb,0,none⟩),.agg #[.int .i64 0,.int .u64 0,.int .u64 0,.int .u64 0,.int .u64 0,w,.int .i64 0]] h (bq (JQ O nb h v st (ss++[⟨0,0,to,0⟩],ss.length))):=by
  have h1:=zC (x:=⟨0,0,to,0⟩) hn hO ⟨w,rfl,hx⟩ hl;simp only[Ec,Kg] at h1;exact h1
theorem Pm (t:TypeId) (a:Nat) (ho:¬O h.size):aY iC (h.push (.cells #[.int .i64 (a:Nat)] t)) O (.slice (some ⟨h.size,0,none⟩) 1 1) [a]:=aY.nY (e:=iC) (cs:=[dP a]) rfl ho
theorem NN (t:TypeId) (a b:Nat) (ho:¬O h.size):aY iC (h.push (.cells #[.int .i64 (a:Nat),.int .i64 (b:Nat)] t)) O (.slice (some ⟨h.size,0,none⟩) 2 2) [a,b] :=
  ⟨_,2,2,rfl,rfl,Nat.le_refl _,by simp[maxLen],fun i x hx=>by
    refine⟨h.size,0,[dP x],rfl,ho,?_,rfl⟩;have hr:=mw h [.int .i64 (a:Nat),.int .i64 (b:Nat)] t;intro j u hj;have h0:j=0:=by have:=(List.getElem?_eq_some_iff.1 hj).1;simp at this;omega
    subst h0;simp only[List.getElem?_cons_zero,Option.some.injEq] at hj;subst hj
    match i with
    | 0=>simp at hx;subst hx;exact hr 0 _ rfl
    | 1=>simp at hx;subst hx;exact hr 1 _ rfl
    |i+2=>simp at hx⟩
theorem rM:∀(l:List Nd) (x:Nd) (ss:List aX) (to:Nat),aM (l++[x]) ss to=((lay x (aM l ss to).1 to).1,(aM l ss to).2++[(lay x (aM l ss to).1 to).2])
  | [],x,ss,to=>by simp[aM]
  |y::l,x,ss,to=>by
    rw[List.cons_append,aM,rM l x,aM];simp
theorem rL {l:List Nd}{i:Nat}{x:Nd}(hx:l[i]? =some x) (ss:List aX) (to:Nat):aM (l.take (i+1)) ss to=((lay x (aM (l.take i) ss to).1 to).1,(aM (l.take i) ss to).2++[(lay x (aM (l.take i) ss to).1 to).2]):=by
  rw[List.take_add_one,hx,Option.toList_some,rM]
def JX (nb b5 cap d:Nat) (r0:Loop) (hL:aj) (v sl:Value) (O:Nat->Prop) (kids:List Nd) (ss:List aX) (st to j:Nat) (g:aj):Prop :=
  ∃v',b7 g (d+1) r0/\g[d]? =some (.deferred (some []))/\aC g cap 132 [sl]/\bM g (fun b=>O b\/(b5<=b/\b<hL.size)) nb v' (bg (kids.drop j) ss to).1 st /\
    aC g b5 3 [.int .i64 ((bg (kids.drop j) ss to).2:Nat)]/\Nx (fun b=>b5<=b/\b<hL.size) nb hL v g v'
end
end Go.Proofs.YtdgckfkoihcmjaaGreatDoor
namespace Go.Proofs.YtdgckfkoihcmjaaGreatDoor
open Go.Proofs.Tryz
open Go Go.Lw
set_option maxRecDepth 20000 set_option maxHeartbeats 4000000
section
variable {h:aj}
theorem kk {k j:Nat}(h:¬((k:Nat):Int)=(j:Nat)):¬k=j:=fun e=>h (by rw[e])
theorem GZ {n:Nat}(ih:Ia n):Ia (n+1):=by
 intro x h O nb v w ss st to hsz hn hO hx hw hl;obtain⟨k,s,kids⟩:=x;simp only[nN] at hsz hl;have hown:=hn.own;have hnb:=hn.blk.lt;obtain⟨w',hw',hkids⟩:=hx.open;have hww:w=w':=by simpa [dy] using hw'
 subst hww
 show av _ _ #[_,.agg (dy k s w).toArray,_] h _
 replace hkids:aY rR h (dY nb v) w kids:=hkids;obtain⟨oa,kn,kc,rfl,hsl⟩:=hkids.open;refine bP ?_;refine af ?_;refine xo rfl (iF) ?_;rintro _ h1 ⟨rfl,q3,e1,z1⟩;refine xo rfl (iF) ?_;rintro _ h2 ⟨rfl,q4,e2,z2⟩;refine xo rfl (iF) ?_;rintro _ h3 ⟨rfl,q5,e3,z3⟩;have q3:aC h1 h.size 82 [.pointer (some ⟨nb,0,none⟩)]:=q3;have q4:aC h2 h1.size 134 (dy k s (.slice oa kn kc)):=q4;have q5:aC h3 h2.size 3 [.int .i64 (to:Nat)]:=q5;have q3:=(q3.ah e2).ah e3;have q4:=q4.ah e3;have e03:aq h h3:=(e1.trans e2).trans e3;have hn3:bM h3 O nb v ss st:=hn.ah e03 (fun _ _ k=>k);have hO3:∀b,O b->b<h3.size:=fun b hb=>by have:=hO b hb;have:=e03.size;omega
 have nx3:Nx (fun _=>False) nb h v h3 v:=Nx.Lt e03;have hsl3:aY rR h3 (dY nb v) (.slice oa kn kc) kids:=hkids.mv nx3.rI
 have hnew3:∀b,h3.size<=b->¬(dY nb v b\/O b):=by
  have hz:=e03.size;rintro b hb ((k1|k1)|k1)
  · omega
  · have:=hown b k1.symm;omega
  · have:=hO b k1;omega
 have hnM:∀b,h.size<=b->¬(dY nb v b\/False):=by
  rintro b hb ((k1|k1)|k1)
  · omega
  · have:=hown b k1.symm;omega
  · exact k1
 have hkn:kids.length=kn:=hsl.len;have hwl:th kids=true:=by simp only[tg,Bool.and_eq_true] at hw;exact hw.2
 have hklen:=Dj kids;refine af ?_;refine xp rfl (az rfl (q4.cell (i:=0) rfl)) ?_;refine af ?_;refine aP (fun h1k=>?_) (fun h1k=>?_)
 · obtain rfl:k=1:=by omega
   have hlay:lay (.mk 1 s kids) ss to=(ss++[⟨1,s,[to],0⟩],ss.length):=by rw[lay];simp
   rw[hlay];refine af ?_;refine xp rfl (az rfl (q3.cell (i:=0) rfl)) ?_;refine af ?_;refine xp rfl (bV rfl (q4.part 1 (ds:=[ef s 0,ef s 1,ef s 2,ef s 3]) (by intro j v hv;match j with| 0=>exact hv| 1=>exact hv| 2=>exact hv| 3=>exact hv|j+4=>simp at hv))) ?_;refine xp rfl (az rfl (q5.cell (i:=0) rfl)) ?_;refine xo rfl (jG [_]) ?_;rintro _ _ ⟨rfl,rfl⟩;refine xp rfl (au (H.BE _ _ _ _ _ _ _ _) rfl) ?_;refine xo rfl (aF rfl (zC (O:=O) (x:=⟨1,s,[to],0⟩) (hn3.ah (Ext.push _ _ _) (fun _ _ k=>k)) (fun b hb=>by have:=hO3 b hb;simp;omega) ⟨_,rfl,Pm _ to (hnew3 _ (Nat.le_refl _))⟩ (by omega))) ?_;rintro _ h5 ⟨v',rfl,hn5,nx5⟩;refine af ?_;refine bh ?_;exact⟨_,rfl,v',rfl,hn5,(nx3.trans (Nx.Lt (Ext.push _ _ _)) (fun _ _ k=>k)).trans nx5 (fun _ _ k=>k)⟩
 · have h1k':¬k=1:=kk h1k;refine af ?_;refine aP (fun h2k=>?_) (fun h2k=>?_)
   · obtain rfl:k=2:=by omega
     have hlay:lay (.mk 2 s kids) ss to=bg kids ss to:=by rw[lay];simp
     rw[hlay];have hz0:=e03.size;refine af ?_;refine xp rfl (az rfl (q4.cell (i:=5) rfl)) ?_;refine xo rfl (aF rfl (vp (.slice oa kn kc) rfl)) ?_;rintro _ h4 ⟨rfl,hh4⟩;have e4:aq h3 h4:=by rw[hh4];exact Ext.push _ _ _
     have q6:aC h4 h3.size 132 [.slice oa kn kc]:=by rw[hh4];exact zJ _ _ _
     have z4:h4.size=h3.size+1:=by rw[hh4];simp
     clear hh4;refine af ?_;refine G.rangeFunc rfl rfl func139 rfl (by decide +kernel) ?_;intro fid tmps hfits;obtain⟨r0,hr0⟩:∃r0,r0=fh fid tmps #[30,31] (N7 (Lw.sub (ax f56) [0,1,0,0,1,1,1,0,1,0,1])) (N6 (Lw.sub (ax f56) [0,1,0,0,1,1,1,0,1,0,1])) h4.size:=⟨_,rfl⟩
     obtain⟨hL,hhL⟩:∃hL,hL=(h4.push (.deferred (some []))).push (.loop r0):=⟨_,rfl⟩
     suffices hmain:av Tryz.prog 139 #[.func (.yield (h4.size+1)) #[] #[],.pointer (some ⟨h3.size,0,none⟩)] hL _ by rw[hhL,hr0] at hmain;exact hmain
     have hst:r0.state= .ready:=by rw[hr0];rfl
     have hpn:r0.pending=none:=by rw[hr0];rfl
     have hps:r0.params= #[30,31]:=by rw[hr0];rfl
     have htm:r0.tmps=tmps:=by rw[hr0];rfl
     have eL:aq h4 hL:=by rw[hhL];exact(Ext.push _ _ _).trans (Ext.push _ _ _)
     have hLz:hL.size=h4.size+2:=by rw[hhL];simp
     have hloop0:b7 hL (h4.size+1) r0:=by
      have hz:h4.size+1=(h4.push (.deferred (some []))).size:=by simp
      rw[b7,hhL,hz];exact Array.getElem?_push_size
     have hdef0:hL[h4.size]? =some (.deferred (some [])):=by
      rw[hhL,(Ext.push (fun _=>False) (h4.push (.deferred (some []))) _).block h4.size (by simp) (fun k=>k)];exact Array.getElem?_push_size
     clear hhL;have e0L:aq h hL:=(e03.trans e4).trans eL;have q3L:=(q3.ah e4).ah eL;have q5L:=(q5.ah e4).ah eL;have q6L:=q6.ah eL;have hnL:bM hL (fun b=>O b\/(h2.size<=b/\b<hL.size)) nb v ss st:=hn.ah e0L (fun b hb k=>k.elim id (fun k=>by omega));have hkL:aY rR hL (fun b=>dY nb v b\/(h2.size<=b/\b<hL.size)) (.slice oa kn kc) kids:=hkids.mv ⟨e0L.size,fun b hb hn=>⟨e0L.block b hb (fun k=>k),fun k=>k.elim hn (fun k=>by omega)⟩⟩;have hdropn:kids.drop kn=[]:=List.drop_of_length_le (by omega);have hJ0:JX nb h2.size h3.size h4.size r0 hL v (.slice oa kn kc) O kids ss st to kn hL:=⟨v,hloop0,hdef0,q6L,by rw[hdropn,bg];exact hnL,by rw[hdropn,bg];exact q5L,Nx.refl⟩
     have hvM:∀{v':Value}{g:aj},Nx (fun b=>h2.size<=b/\b<hL.size) nb hL v g v'->∀b,h.size<=b->b<hL.size->¬dY nb v' b:=by
      rintro v' g nx b hb hb' (k1|k1)
      · omega
      · rcases nx.own b k1.symm with k2|k2
        · have:=hown b k2;omega
        · omega
     refine suff (p:=∀j g,JX nb h2.size h3.size h4.size r0 hL v (.slice oa kn kc) O kids ss st to (j+1) g->j<kn->∃(b o k s:Nat) (w:Value),oa=some ⟨b,o,none⟩/\Lw.rowAt g b (o+j*6) (dy k s w)/\gz Tryz.prog (h4.size+1) #[.int .i64 (j:Nat),.agg (dy k s w).toArray] g (bq fun r h'=>r= .bool true/\JX nb h2.size h3.size h4.size r0 hL v (.slice oa kn kc) O kids ss st to j h')) ?_ fun hy=>?_
     · intro j g ⟨v',hlp,hdf,hcap,hng,hb5,nxg⟩ hj;obtain⟨x,hx⟩:∃x,kids[j]? =some x:=⟨_,List.getElem?_eq_getElem (by omega)⟩
       have hkg:=hkL.mv nxg.mv;obtain⟨oa',n',c',hv',_,_,_,hget⟩:=id hkg;cases hv';obtain⟨b,o,cs,ha,hob,hrow,hnd⟩:=hget j x hx;obtain⟨w2,rfl,-⟩:=hnd.open;refine⟨b,o,x.kind,x.set,w2,ha,hrow,?_⟩;have hcatd:=A7 hx ss to;have hszx:=FX hx;have hbl:=js (kids.drop (j+1)) ss to;have hfit:=uI (p1:=30) (p2:=31) (v1:=.int .i64 (j:Nat)) (v2:=.agg (dy x.kind x.set w2).toArray) hfits rfl rfl;rw[<-hps,<-htm] at hfit;have hvg:=hvM nxg;have hzg:=nxg.ext.size;have q3g:=q3L.ext nxg.ext (fun k=>k.elim (hvM Nx.refl (v':=v) (g:=hL) _ (Nat.le_refl _) (by omega)) (fun k=>by omega));refine gz.of hlp hst (by rw[hps];rfl) hfit ((congrArg Loop.assign hr0).trans rfl) ((congrArg Loop.body hr0).trans rfl) ?_;refine dQ.Ey rfl rfl rfl rfl rfl (aT.zB H.JZ) ?_;rintro _ g1 ⟨rfl,k8,e1',zz1⟩;refine dQ.zL rfl rfl rfl rfl (aT.gv H.mg rfl rfl k8 (by first|rfl|(simp;done)|(simp;omega)) (by first|decide|exact of_decide_eq_true rfl|(simp;done)|(simp;omega)) (bB.one hnd)) ?_;rintro _ g2 ⟨rfl,k8',e2',zz2⟩;refine fI rfl ?_;have e12:aq g g2:=e1'.only e2' (Nat.le_refl _);have k8':aC g2 g.size 134 (dy x.kind x.set w2):=k8';refine⟨(e12.block _ hlp.lt (fun k=>k)).trans hlp,?_⟩;obtain⟨g3,hg3⟩:∃g3,g3=Lw.bL g2 (h4.size+1) (.loop { r0 with state:=.busy }):=⟨_,rfl⟩
       rw[<-hg3];have hlz:=hlp.lt;have hz2:=e12.size;have e23:Ext (fun b=>b=h4.size+1) g2 g3:=by rw[hg3];exact Ext.bL _ _ _ rfl
       have hlp3:b7 g3 (h4.size+1) { r0 with state:=.busy }:=by rw[b7,hg3];exact gN (by omega)
       have hz3:=e23.size;have e13:Ext (fun b=>b=h4.size+1) g g3:=(e12.mono fun _ _ k=>k.elim).trans e23;have l3:¬h.size=h4.size+1:=by omega
       have l5:¬h2.size=h4.size+1:=by omega
       have l6:¬h3.size=h4.size+1:=by omega
       have l8:¬g.size=h4.size+1:=by omega
       have ld:¬h4.size=h4.size+1:=by omega
       have q33:=q3g.ext e13 l3;have b53:=hb5.ext e13 l5;have cap3:=hcap.ext e13 l6;have k83:=k8'.ext e23 l8;have hown':∀b,v'.ownBlock=some b->¬b=h4.size+1:=fun b hb k=>hvg b (by omega) (by omega) (.inr hb.symm)
       have hn3g:bM g3 (fun b=>O b\/(h2.size<=b/\b<hL.size)) nb v' (bg (kids.drop (j+1)) ss to).1 st:=hng.ext e13 (by omega) hown' (fun b _ k=>.inr (by omega)) (fun b _ k=>k);have hnd3:bB g3 (dY nb v') (dy x.kind x.set w2) x:=hnd.mv ⟨e13.size,fun b hb hn=>⟨e13.block b hb (fun k=>hn (.inr (by omega))),fun k=>hn (.inl k)⟩⟩;refine dQ.bl rfl rfl rfl rfl rfl (cv H.MS rfl (q33.cell (i:=0) rfl)) ?_;refine dQ.bl rfl rfl rfl rfl rfl (ay.jo H.xI H.mg rfl k83.row (by first|rfl|(simp;done)|(simp;omega))) ?_;refine dQ.bl rfl rfl rfl rfl rfl (cv H.FB rfl (b53.cell (i:=0) rfl)) ?_;refine dQ.Ey rfl rfl rfl rfl rfl (qx (vs:=[_,_,_]) func56 rfl H.Of rfl (av.J2 (ih (x:=x) (O:=fun b=>O b\/(h2.size<=b/\b<hL.size)) (to:=(bg (kids.drop (j+1)) ss to).2) (by omega) hn3g (fun b hb=>by rcases hb with k|k;(have:=hO b k;omega);omega) hnd3 (xU hwl hx) (by omega)))) ?_;rintro _ g4 ⟨v4,rfl,hn4,nx4⟩;have hM4:∀b,h.size<=b->b<hL.size->¬(dY nb v' b\/False):=fun b h1 h2 k=>k.elim (hvg b h1 h2) id
       have b54:=b53.ext nx4.ext (hM4 _ (by omega) (by omega));refine dQ.zL rfl rfl rfl rfl (aT.jd H.jM rfl rfl b54 (by first|decide|exact of_decide_eq_true rfl|(simp;done)|(simp;omega)) rfl) ?_;rintro _ g5 ⟨rfl,b55,e5',zz5⟩;refine fI rfl ?_;have b55:aC g5 h2.size 3 [.int .i64 ((lay x (bg (kids.drop (j+1)) ss to).1 (bg (kids.drop (j+1)) ss to).2).2:Nat)]:=b55;have hz4:=nx4.ext.size;have nx45:Nx (fun b=>h2.size<=b/\b<hL.size) nb g3 v' g5 v4:=⟨⟨by omega,fun b hb hn=>by rw[e5'.block b (by omega) (fun k=>hn (.inr (by omega))),nx4.ext.block b hb (fun k=>hn (k.elim .inl (fun k=>k.elim)))]⟩,nx4.own⟩
       have hlp5:b7 g5 (h4.size+1) { r0 with state:=.busy }:=(hlp3.ext nx4.ext (hM4 _ (by omega) (by omega))).ext e5' (fun k=>by omega);have hr2:({ ({ r0 with state:=.busy }:Loop) with state:=.ready,pending:=none }:Loop)=r0:=by cases r0;simp at hst hpn;simp[hst,hpn]
       refine⟨_,hlp5,rfl,?_⟩;rw[hr2];have e56:Ext (fun b=>b=h4.size+1) g5 (Lw.bL g5 (h4.size+1) (.loop r0)):=Ext.bL _ _ _ rfl
       have hown4:∀b,v4.ownBlock=some b->¬b=h4.size+1/\¬b=h2.size:=fun b hb=>by
        rcases nx4.own b hb with k|k
        · exact⟨hown' b k,fun k'=>hvg b (by omega) (by omega) (.inr k.symm)⟩
        · omega
       have hdf5:g5[h4.size]? =some (.deferred (some [])):=by
        rw[e5'.block h4.size (by omega) (by omega),nx4.ext.block h4.size (by omega) (hM4 _ (by omega) (by omega)),e13.block h4.size (by omega) (by omega)];exact hdf
       have cap5:=(cap3.ext nx4.ext (hM4 _ (by omega) (by omega))).ext e5' (by omega);refine⟨v4,gN (by omega),by rw[e56.block h4.size (by omega) (by omega)];exact hdf5,cap5.ext e56 l6,?_,?_,?_⟩
       · rw[hcatd];have hn5:bM g5 (fun b=>O b\/(h2.size<=b/\b<hL.size)) nb v4 (lay x (bg (kids.drop (j+1)) ss to).1 (bg (kids.drop (j+1)) ss to).2).1 st:=hn4.ext e5' (by omega) (fun b hb=>(hown4 b hb).2) (fun b _ k=>.inr (by omega)) (fun _ _ k=>k);exact hn5.ext e56 (by omega) (fun b hb=>(hown4 b hb).1) (fun b _ k=>.inr (by omega)) (fun _ _ k=>k)
       · rw[hcatd];exact b55.ext e56 l5
       · exact((nxg.trans ⟨e13.mono (fun b _ k=>.inr (by omega)),fun b k=>.inl k⟩ (fun b _ k=>k)).trans nx45 (fun b _ k=>k)).trans ⟨e56.mono (fun b _ k=>.inr (by omega)),fun b k=>.inl k⟩ (fun b _ k=>k)
     · refine(sF (l:=h4.size+1) (cap:=h3.size) (n:=kn) (c:=kc) (J:=JX nb h2.size h3.size h4.size r0 hL v (.slice oa kn kc) O kids ss st to) (by omega) (fun j g hJ=>by obtain⟨_,_,_,k,_⟩:=hJ;exact k.cell (i:=0) rfl) hy hJ0).mono fun e g hJ=>?_
       obtain⟨u,rfl,v',hlp,hdf,hcap,hng,hb5,nxg⟩:=hJ;rw[List.drop_zero] at hng hb5;refine⟨_,rfl,r0,hlp,by rw[hst];decide,hpn,?_⟩;have hzg:=nxg.ext.size;have hlz:=hlp.lt;have e1:Ext (fun b=>b=h4.size+1) g (Lw.bL g (h4.size+1) (.loop { r0 with state:=.exhausted })):=Ext.bL _ _ _ rfl;have b5e:=hb5.ext e1 (by omega);have hdfe:=(e1.block h4.size (by omega) (by omega)).trans hdf;have hvg:=hvM nxg;refine GD.u7 ?_;refine nw rfl ?_;refine GD.nP func56 rfl ?_;refine iL.bl rfl rfl rfl rfl (cv H.FB rfl (b5e.cell (i:=0) rfl)) ?_;refine iL.bl rfl rfl rfl rfl (ay.assign rfl) ?_;refine jC rfl ?_;refine GD.sub (ρ':=[(0,_),(1,_),(2,_),(3,_),(4,_),(5,_),(6,_),(15,_),(16,_),(25,_),(29,_)]) ⟨rfl,rfl,rfl,rfl,rfl,rfl,rfl,rfl,rfl,rfl,rfl,trivial⟩ ?_;refine GD.Du func56 rfl hdfe rfl ?_;have e2:Ext (fun b=>b=h4.size) (Lw.bL g (h4.size+1) (.loop { r0 with state:=.exhausted })) (Lw.bL (Lw.bL g (h4.size+1) (.loop { r0 with state:=.exhausted })) h4.size (.deferred none)):=Ext.bL _ _ _ rfl;have e12:Ext (fun b=>b=h4.size+1\/b=h4.size) g _:=(e1.mono fun _ _ k=>.inl k).trans (e2.mono fun _ _ k=>.inr k);have hownv:∀b,v'.ownBlock=some b->¬(b=h4.size+1\/b=h4.size):=fun b hb k=>hvg b (by omega) (by omega) (.inr hb.symm)
       refine⟨_,rfl,v',rfl,hng.ext e12 (by omega) hownv (fun b _ k=>.inr (by omega)) (fun b _ k=>.inl k),?_⟩;have nxe:Nx (fun b=>h2.size<=b) nb h v _ v':=((Nx.Lt e0L).trans nxg (fun b _ k=>k.1)).trans ⟨e12.mono (fun b _ k=>.inr k),fun b k=>.inl k⟩ (fun b hb k=>by omega);exact nxe.mono (fun b hb k=>by omega)
   · have h2k':¬k=2:=kk h2k;refine af ?_;refine aP (fun h3k=>?_) (fun h3k=>?_)
     · obtain rfl:k=3:=by omega
       have hlay:lay (.mk 3 s kids) ss to=((aM kids ss to).1++[⟨0,0,(aM kids ss to).2,0⟩],(aM kids ss to).1.length):=by rw[lay];simp
       rw[hlay];refine af ?_;refine xp rfl (az rfl (q4.cell (i:=5) rfl)) ?_;refine af ?_;refine gJ (σ:=Nat×Value) (fun p=>[(9,p.2),(42,.int .i64 (p.1:Nat))]) (fun p h'=>p.1<=kn/\∃v',bM h' (fun b=>O b\/cu p.2.ownBlock b) nb v' (aM (kids.take p.1) ss to).1 st/\cy iC (fun _=>True) h' h3.size 3 p.2 (aM (kids.take p.1) ss to).2/\Nx (fun _=>False) nb h3 v h' v'/\(∀b,p.2.ownBlock=some b->v'.ownBlock≠some b)) (fun p=>kn-p.1) ((0,.slice none 0 0)) ⟨Nat.zero_le _,v,by simpa [aM] using hn3.ah (Ext.refl _ _) (fun b _ k=>k.elim id (fun k=>by cases k)),by simpa [aM] using cy.nil iC (fun _=>True) h3 h3.size 3,Nx.refl,fun b hb=>by cases hb⟩ rfl ?_;rintro⟨i,t9⟩ gh ⟨hi,v',hnH,htH,nxH,hdist⟩ ih2
       try dsimp only
       dsimp only at hi hnH htH nxH hdist;have hzH:=nxH.ext.size;have hz0:=e03.size;have q3H:=q3.ext nxH.ext (hnM _ (Nat.le_refl _));have q5H:=q5.ext nxH.ext (hnM _ (by omega));have hslH:aY rR gh (dY nb v') (.slice oa kn kc) kids:=hsl3.mv nxH.rI;have ht9:∀b,t9.ownBlock=some b->h3.size<=b/\b<gh.size:=fun b hb=>by obtain⟨_,_,k,_⟩:=id htH;exact k.lt hb
       have hlenT:(aM (kids.take i) ss to).2.length=i:=by rw[mK,List.length_take];omega
       refine af ?_;refine aP (fun hlt=>?_) (fun hlt=>?_)
       · have hik:i<kids.length:=by omega
         obtain⟨x,hx⟩:∃x,kids[i]? =some x:=⟨_,List.getElem?_eq_getElem hik⟩
         obtain⟨oa',n',c',hv',_,_,_,hget⟩:=id hslH;cases hv';obtain⟨b,o,cs,ha,hob,hrow,hnd⟩:=hget i x hx;obtain⟨w2,rfl,-⟩:=hnd.open;have hszx:=FV hx;have hbl:=eX (kids.take i) ss to
         iterate 4 refine aR ?_
         refine de ?_;refine xp rfl (cK rfl rfl i rfl ha) ?_;refine xp rfl (bV rfl hrow) ?_;refine xo rfl (cm) ?_;rintro _ h5 ⟨rfl,q11,e5,z5⟩;refine aH rfl (aK rfl rfl q11 (bB.one hnd)) ?_;rintro _ h6 ⟨rfl,q11',e6,z6⟩;have e56:aq gh h6:=e5.only e6 (Nat.le_refl _);have q11':aC h6 gh.size 134 (dy x.kind x.set w2):=q11';have hn6:bM h6 (fun b=>O b\/cu t9.ownBlock b) nb v' (aM (kids.take i) ss to).1 st:=hnH.ah e56 (fun _ _ k=>k);have nx6:Nx (fun _=>False) nb gh v' h6 v':=Nx.Lt e56;have hz6:=e56.size;have hnd6:=hnd.mv nx6.rI;refine af ?_;refine xp rfl (az rfl ((q3H.ah e56).cell (i:=0) rfl)) ?_;refine xp rfl (bV rfl q11'.row) ?_;refine xp rfl (az rfl ((q5H.ah e56).cell (i:=0) rfl)) ?_;refine xo rfl (aF rfl (ih (x:=x) (O:=fun b=>O b\/cu t9.ownBlock b) (to:=to) (by omega) hn6 (fun b hb=>by rcases hb with k|k;(have:=hO3 b k;omega);(have:=ht9 b k.symm;omega)) hnd6 (xU hwl hx) (by omega))) ?_;rintro _ h7 ⟨v7,rfl,hn7,nx7⟩
         have ht7:cy iC (fun _=>True) h7 h3.size 3 t9 (aM (kids.take i) ss to).2:=(htH.ah e56).oZ nx7.ext (fun b hb=>by
          rintro((k1|k1)|k1)
          · have:=ht9 b hb;omega
          · exact hdist b hb k1.symm
          · exact k1) (fun _ _ _=>trivial) (fun _ _ _=>trivial)
         obtain⟨css,hc1,hc2,hc3⟩:=id ht7;have hz7:=nx7.ext.size;refine xo rfl (jG [_]) ?_;rintro _ _ ⟨rfl,rfl⟩;refine xo rfl (wC rfl rfl hc2 rfl rfl) ?_;rintro t9' h8 ⟨ho8,hx8,-,hv8⟩;refine af ?_;have ht8:cy iC (fun _=>True) h8 h3.size 3 t9' ((aM (kids.take i) ss to).2++[(lay x (aM (kids.take i) ss to).1 to).2]):=cy.fC hc1 hc3 ho8 hx8 hv8 rfl
         have hn8:bM h8 (fun b=>O b\/cu t9'.ownBlock b) nb v7 (lay x (aM (kids.take i) ss to).1 to).1 st:=hn7.ext hx8 (fun k=>by have:=ht9 nb k.symm;omega) (fun b hb k=>by
          rcases nx7.own b hb with k'|k'
          · exact hdist b k.symm k'
          · have:=ht9 b k.symm;omega) (fun b _ k=>.inr k) (fun b hb k=>k.imp id (fun k=>by
            rcases hv8 b k.symm with k'|k'
            · exact k'.symm
            · omega))
         have hd8:∀b,t9'.ownBlock=some b->v7.ownBlock≠some b:=fun b hb k=>by
          rcases hv8 b hb with k'|k'
          · rcases nx7.own b k with k2|k2
            · exact hdist b k' k2
            · have:=ht9 b k';omega
          · have:=(hn7.own b k).2;omega
         exact ih2 (i+1,t9') ⟨by show i+1<=kn;omega,v7,by rw[rL hx];exact hn8,by rw[rL hx];exact ht8,⟨⟨by have:=hx8.size;omega,fun b hb hn=>by rw[hx8.block b (by omega) (fun k=>by have:=ht9 b k.symm;omega)];exact((nxH.trans nx6 (fun _ _ k=>k)).trans nx7 (fun _ _ k=>k)).ext.block b hb hn⟩,((nxH.trans nx6 (fun _ _ k=>k)).trans nx7 (fun _ _ k=>k)).own⟩,hd8⟩
       · obtain rfl:i=kn:=by omega
         have hall:kids.take i=kids:=List.take_of_length_le (by omega);rw[hall] at hnH htH hlenT;have hbl:=eX kids ss to
         have hrd:aY iC gh (fun b=>dY nb v' b\/O b) t9 (aM kids ss to).2:=htH.Dv (fun b hb=>by
          rintro((k1|k1)|k1)
          · have:=ht9 b hb;omega
          · exact hdist b hb k1.symm
          · have:=ht9 b hb;have:=hO3 b k1;omega) (fun _ _ _=>trivial)
         obtain⟨oa9,n9,c9,rfl,_⟩:=id hrd;refine af ?_;refine xp rfl (az rfl (q3H.cell (i:=0) rfl)) ?_;refine af ?_;refine xp rfl (au (H.zx _ _ _) rfl) ?_;refine xo rfl (aF rfl (nh (O:=O) (hnH.ah (Ext.refl _ _) (fun b _ k=>.inl k)) (fun b hb=>by have:=hO3 b hb;omega) hrd (by omega))) ?_;rintro _ h5 ⟨v5,rfl,hn5,nx5⟩;refine af ?_;refine bh ?_;exact⟨_,rfl,v5,rfl,hn5,(nx3.trans nxH (fun _ _ k=>k)).trans nx5 (fun _ _ k=>k)⟩
     · have h3k':¬k=3:=kk h3k;refine af ?_;refine aP (fun h6k=>?_) (fun h6k=>?_)
       · obtain rfl:k=6:=by omega
         have hone:kids.length=1:=by simp[tg] at hw;exact hw.1
         obtain⟨x,rfl⟩:∃x,kids=[x]:=by match kids,hone with| [x],_=>exact⟨x,rfl⟩
         have hkn1:kn=1:=by simpa using hkn.symm
         have hszx:nN x<=gr [x]:=by simp[gr]
         have hwx:tg x=true:=by simpa [th] using hwl
         have hlay:lay (.mk 6 s [x]) ss to=((lay x ss to).1++[⟨0,0,[(lay x ss to).2,to],0⟩],(lay x ss to).1.length):=by rw[lay];simp[bR]
         rw[hlay];have hz0:=e03.size;obtain⟨oa',n',c',hv',_,_,_,hget⟩:=id hsl3;cases hv';obtain⟨b,o,cs,ha,hob,hrow,hnd⟩:=hget 0 x rfl;obtain⟨w2,rfl,-⟩:=hnd.open
         have hnM3:∀b,h.size<=b->b<h3.size->¬(dY nb v b\/h3.size<=b):=by
          rintro b hb hb' ((k1|k1)|k1)
          · omega
          · have:=hown b k1.symm;omega
          · omega
         have hbM:¬(dY nb v b\/h3.size<=b):=by
          rintro(k1|k1)
          · exact hob k1
          · have:=cS hrow (by simp[dy]);omega
         have m3:=hnM3 h.size (Nat.le_refl _) (by omega);have m4:=hnM3 h1.size (by omega) (by omega);have m5:=hnM3 h2.size (by omega) (by omega);have hlenx:=fK x ss to;refine af ?_;refine kH 13 (fun b=>dY nb v b\/Array.size h3<=b) (fun i=>Nat.blt i 13) ?_;refine bC 0 rfl (fun h' e=>az rfl (e.cell m3 (q3.cell (i:=0) rfl))) ?_;refine bC 1 rfl (fun h' e=>az rfl (e.cell m3 (q3.cell (i:=0) rfl))) ?_;refine aG 2 ?_;refine bC 3 rfl (fun h' e=>az rfl (e.cell m4 (q4.cell (i:=5) rfl))) ?_;refine bC 4 rfl (fun h' e=>cK rfl rfl 0 rfl ha) ?_;refine bC 5 rfl (fun h' e=>bV rfl (e.rowAt hbM hrow)) ?_;refine bC 6 rfl (fun h' e=>az rfl (e.cell m5 (q5.cell (i:=0) rfl))) ?_;refine bC 8 rfl (fun h' e=>az rfl (e.cell m5 (q5.cell (i:=0) rfl))) ?_;refine cU 7 rfl (aF rfl (ih (x:=x) (O:=O) (to:=to) (by omega) hn3 hO3 hnd hwx (by omega))) ?_;rintro _ h5 ⟨v5,rfl,hn5,nx5⟩;refine⟨fun _=>nx5.ext.mono (fun b _ k=>k.elim .inl (fun k=>k.elim)),?_⟩;have hz5:=nx5.ext.size;have hown5:=hn5.own
         have hnew5:∀t,aY iC (h5.push (.cells #[.int .i64 ((lay x ss to).2:Nat),.int .i64 (to:Nat)] t)) (fun b=>dY nb v5 b\/O b) (.slice (some ⟨h5.size,0,none⟩) 2 2) [(lay x ss to).2,to]:=fun t=>NN t _ _ (by
          rintro((k1|k1)|k1)
          · omega
          · have:=hown5 _ k1.symm;omega
          · have:=hO3 _ k1;omega)
         refine cU 9 rfl (jG [_,_]) ?_;rintro _ _ ⟨rfl,rfl⟩;refine⟨fun _=>by first|exact Ext.push _ _ _|assumption,?_⟩;refine bC 10 rfl (fun h' e=>au (H.zx _ _ _) rfl) ?_;refine cU 11 rfl (aF rfl (nh (O:=O) (hn5.ah (Ext.push _ _ _) (fun _ _ k=>k)) (fun b hb=>by have:=hO3 b hb;simp;omega) (hnew5 _) (by omega))) ?_;rintro _ h6 ⟨v6,rfl,hn6,nx6⟩;refine⟨fun _=>nx6.ext.mono (fun b _ k=>by rcases k with (k1|k1)|k1;(exact .inl (.inl k1));(rcases nx5.own b k1.symm with k2|k2;(exact .inl (.inr k2.symm));exact .inr k2);exact k1.elim),?_⟩;refine aG 12 ?_;refine gV ?_;refine bh ?_;exact⟨_,rfl,v6,rfl,hn6,((nx3.trans nx5 (fun _ _ k=>k)).trans (Nx.Lt (Ext.push _ _ _)) (fun _ _ k=>k)).trans nx6 (fun _ _ k=>k)⟩
       · have h6k':¬k=6:=kk h6k;refine af ?_;refine aP (fun h4k=>?_) (fun h4k=>?_)
         · obtain rfl:k=4:=by omega
           have hone:kids.length=1:=by simp[tg] at hw;exact hw.1
           obtain⟨x,rfl⟩:∃x,kids=[x]:=by match kids,hone with| [x],_=>exact⟨x,rfl⟩
           have hkn1:kn=1:=by simpa using hkn.symm
           have hszx:nN x<=gr [x]:=by simp[gr]
           have hwx:tg x=true:=by simpa [th] using hwl
           have hlay:lay (.mk 4 s [x]) ss to=((lay x (ss++[⟨0,0,[],0⟩]) ss.length).1.set ss.length ⟨0,0,[(lay x (ss++[⟨0,0,[],0⟩]) ss.length).2,to],0⟩,ss.length):=by rw[lay];simp[bR]
           rw[hlay];refine af ?_;refine eu rfl (by simp) ?_;refine af ?_;refine xp rfl (az rfl (q3.cell (i:=0) rfl)) ?_;refine xp rfl (au (H.HR ) rfl) ?_;refine xo rfl (aF rfl (nh (O:=O) (to:=[]) hn3 hO3 (aY.nil _ _ _) (by omega))) ?_;rintro _ h5 ⟨v5,rfl,hn5,nx5⟩;have hz5:=nx5.ext.size;have hz0:=e03.size;have q3':=q3.ext nx5.ext (hnM _ (Nat.le_refl _));have q4':=q4.ext nx5.ext (hnM _ (by omega));have q5':=q5.ext nx5.ext (hnM _ (by omega));have hsl5:aY rR h5 (dY nb v5) (.slice oa kn kc) [x]:=hsl3.mv nx5.rI;obtain⟨oa',n',c',hv',_,_,_,hget⟩:=id hsl5;cases hv';obtain⟨b,o,cs,ha,hob,hrow,hnd⟩:=hget 0 x rfl;obtain⟨w2,rfl,-⟩:=hnd.open;have hown5:=hn5.own
           have hnM5:∀b,h.size<=b->b<h3.size->¬(dY nb v5 b\/h5.size<=b):=by
            rintro b hb hb' ((k1|k1)|k1)
            · omega
            · rcases nx5.own b k1.symm with k2|k2
              · have:=hown b k2;omega
              · omega
            · omega
           have hbM:¬(dY nb v5 b\/h5.size<=b):=by
            rintro(k1|k1)
            · exact hob k1
            · have:=cS hrow (by simp[dy]);omega
           have m3:=hnM5 h.size (Nat.le_refl _) (by omega);have m4:=hnM5 h1.size (by omega) (by omega);refine af ?_;refine kH 8 (fun b=>dY nb v5 b\/Array.size h5<=b) (fun i=>Nat.blt i 8) ?_;refine bC 0 rfl (fun h' e=>az rfl (e.cell m3 (q3'.cell (i:=0) rfl))) ?_;refine aG 1 ?_;refine bC 2 rfl (fun h' e=>az rfl (e.cell m4 (q4'.cell (i:=5) rfl))) ?_;refine bC 3 rfl (fun h' e=>cK rfl rfl 0 rfl ha) ?_;refine bC 4 rfl (fun h' e=>bV rfl (e.rowAt hbM hrow)) ?_;refine aG 5 ?_;refine cU 6 rfl (aF rfl (ih (x:=x) (O:=O) (to:=ss.length) (by omega) hn5 (fun b hb=>by have:=hO3 b hb;omega) hnd hwx (by simp;omega))) ?_;rintro _ h6 ⟨v6,rfl,hn6,nx6⟩;refine⟨fun _=>nx6.ext.mono (fun b _ k=>k.elim .inl (fun k=>k.elim)),?_⟩;have hz6:=nx6.ext.size;have nx36:=nx5.trans nx6 (fun _ _ k=>k);have q3':=q3.ext nx36.ext (hnM _ (Nat.le_refl _));have q4':=q4.ext nx36.ext (hnM _ (by omega));have q5':=q5.ext nx36.ext (hnM _ (by omega));have hown6:=hn6.own;have hlen6:=fK x (ss++[⟨0,0,[],0⟩]) ss.length;rw[List.length_append,List.length_singleton] at hlen6;have hpre:(lay x (ss++[⟨0,0,[],0⟩]) ss.length).1[ss.length]? =some ⟨0,0,[],0⟩:=by rw[lG x _ _ _ (by simp)];simp
           have hn6c:=hn6.blk.cell (i:=0) rfl
           have hnM6:∀b,h.size<=b->b<h3.size->¬(dY nb v6 b\/h6.size<=b):=by
            rintro b hb hb' ((k1|k1)|k1)
            · omega
            · rcases nx36.own b k1.symm with k2|k2
              · have:=hown b k2;omega
              · omega
            · omega
           have hnew6:∀t,aY iC (h6.push (.cells #[.int .i64 ((lay x (ss++[⟨0,0,[],0⟩]) ss.length).2:Nat),.int .i64 (to:Nat)] t)) (fun b=>cu v6.ownBlock b\/b=nb\/O b) (.slice (some ⟨h6.size,0,none⟩) 2 2) [(lay x (ss++[⟨0,0,[],0⟩]) ss.length).2,to]:=fun t=>NN t _ _ (by
            rintro(k1|k1|k1)
            · have:=hown6 _ k1.symm;omega
            · omega
            · have:=hO3 _ k1;omega)
           generalize hout:lay x (ss++[⟨0,0,[],0⟩]) ss.length=out at *;have hn7:bM (h6.push (.cells #[.int .i64 (out.2:Nat),.int .i64 (to:Nat)] 3)) O nb v6 out.1 st:=hn6.ah (Ext.push _ _ _) (fun _ _ k=>k);obtain⟨g,c6,cs6,hv6,hg1,hg2,hg3,hg4,hg5,hg6⟩:=hn7.row.put hpre;obtain⟨w6,rfl,_⟩:=hg5;subst hv6;have hput:=hg6 5 (.slice (some ⟨h6.size,0,none⟩) 2 2) ⟨0,0,[out.2,to],0⟩ (by decide) ⟨_,rfl,hnew6 _⟩;have hgb:h6.size=g\/g<h6.size:=by have:=hown6 g rfl;omega
           have hg6':g<h6.size:=(hown6 g rfl).2;have hcell7:cellAt (h6.push (.cells #[.int .i64 (out.2:Nat),.int .i64 (to:Nat)] 3)) ⟨g,0+ss.length*7+5,none⟩=some w6:=hg3 5 _ rfl;have m6:=hnM6 h1.size (by omega) (by omega);have j4:¬h1.size=g:=fun k=>m6 (.inl (.inr (by rw[k];rfl)))
           have j3:¬h6.size<=h.size:=by omega
           have j0:¬h6.size<=nb:=by omega
           have j5:¬h6.size<=h2.size:=by omega
           refine aG 7 ?_;refine gV ?_;refine af ?_;refine kH 11 (fun b=>Array.size h6<=b) (fun i=>Nat.blt i 10) ?_;refine bC 0 rfl (fun h' e=>az rfl (e.cell j3 (q3'.cell (i:=0) rfl))) ?_;refine aG 1 ?_;refine aG 2 ?_;refine bC 3 rfl (fun h' e=>az rfl (e.cell j0 hn6c)) ?_;refine aG 4 ?_;refine aG 5 ?_;refine bC 6 rfl (fun h' e=>az rfl (e.cell j5 (q5'.cell (i:=0) rfl))) ?_;refine cU 7 rfl (jG [_,_]) ?_;rintro _ _ ⟨rfl,rfl⟩;refine⟨fun _=>by first|exact Ext.push _ _ _|assumption,?_⟩;refine LD 8 rfl (cK rfl rfl ss.length rfl rfl) ?_;refine aG 9 ?_;refine iA 10 rfl (bU H.Ai rfl rfl rfl hcell7 (hg4 _)) ?_;rintro _ _ ⟨rfl,rfl⟩;refine⟨nofun,?_⟩;refine gV ?_;refine af ?_;have hz7:∀u,(dK (h6.push (.cells #[.int .i64 (out.2:Nat),.int .i64 (to:Nat)] 3)) ⟨g,0+ss.length*7+5,none⟩ u).size=h6.size+1:=fun u=>by rw[iW];simp
           have ex7:∀u,Ext (fun b=>b=g) h6 (dK (h6.push (.cells #[.int .i64 (out.2:Nat),.int .i64 (to:Nat)] 3)) ⟨g,0+ss.length*7+5,none⟩ u):=fun u=>⟨by rw[hz7];omega,fun b hb hn=>by rw[(Ext.dK (M:=fun b=>b=g) _ _ u rfl).block b (by simp;omega) hn,(Ext.push (fun _=>False) h6 _).block b hb (fun k=>k)]⟩
           refine xp rfl (az rfl ((q4'.ext (ex7 _) j4).cell (i:=0) rfl)) ?_;refine af ?_;refine eC rfl (by decide) ?_;refine af ?_;refine bh ?_;exact⟨_,rfl,_,rfl,⟨hn6.blk.ext (ex7 _) (by have:=hown6 g rfl;omega),hput⟩,((nx3.trans nx36 (fun _ _ k=>k)).trans ⟨(ex7 _).mono (fun b _ k=>.inl (.inr (by rw[k];rfl))),fun b k=>.inl k⟩ (fun _ _ k=>k))⟩
         · have h4k':¬k=4:=kk h4k;refine af ?_;refine aP (fun h5k=>?_) (fun h5k=>?_)
           · obtain rfl:k=5:=by omega
             have hone:kids.length=1:=by simp[tg] at hw;exact hw.1
             obtain⟨x,rfl⟩:∃x,kids=[x]:=by match kids,hone with| [x],_=>exact⟨x,rfl⟩
             have hkn1:kn=1:=by simpa using hkn.symm
             have hszx:nN x<=gr [x]:=by simp[gr]
             have hwx:tg x=true:=by simpa [th] using hwl
             have hlay:lay (.mk 5 s [x]) ss to=((lay x (ss++[⟨0,0,[],0⟩]) ss.length).1.set ss.length ⟨0,0,[(lay x (ss++[⟨0,0,[],0⟩]) ss.length).2,to],0⟩,(lay x (ss++[⟨0,0,[],0⟩]) ss.length).2):=by rw[lay];simp[bR]
             rw[hlay];refine af ?_;refine xp rfl (az rfl (q3.cell (i:=0) rfl)) ?_;refine xp rfl (au (H.HR ) rfl) ?_;refine xo rfl (aF rfl (nh (O:=O) (to:=[]) hn3 hO3 (aY.nil _ _ _) (by omega))) ?_;rintro _ h5 ⟨v5,rfl,hn5,nx5⟩;have hz5:=nx5.ext.size;have hz0:=e03.size;have q3':=q3.ext nx5.ext (hnM _ (Nat.le_refl _));have q4':=q4.ext nx5.ext (hnM _ (by omega));have q5':=q5.ext nx5.ext (hnM _ (by omega));have hsl5:aY rR h5 (dY nb v5) (.slice oa kn kc) [x]:=hsl3.mv nx5.rI;obtain⟨oa',n',c',hv',_,_,_,hget⟩:=id hsl5;cases hv';obtain⟨b,o,cs,ha,hob,hrow,hnd⟩:=hget 0 x rfl;obtain⟨w2,rfl,-⟩:=hnd.open;have hown5:=hn5.own
             have hnM5:∀b,h.size<=b->b<h3.size->¬(dY nb v5 b\/h5.size<=b):=by
              rintro b hb hb' ((k1|k1)|k1)
              · omega
              · rcases nx5.own b k1.symm with k2|k2
                · have:=hown b k2;omega
                · omega
              · omega
             have hbM:¬(dY nb v5 b\/h5.size<=b):=by
              rintro(k1|k1)
              · exact hob k1
              · have:=cS hrow (by simp[dy]);omega
             have m3:=hnM5 h.size (Nat.le_refl _) (by omega);have m4:=hnM5 h1.size (by omega) (by omega);refine af ?_;refine kH 8 (fun b=>dY nb v5 b\/Array.size h5<=b) (fun i=>Nat.blt i 8) ?_;refine bC 0 rfl (fun h' e=>az rfl (e.cell m3 (q3'.cell (i:=0) rfl))) ?_;refine aG 1 ?_;refine bC 2 rfl (fun h' e=>az rfl (e.cell m4 (q4'.cell (i:=5) rfl))) ?_;refine bC 3 rfl (fun h' e=>cK rfl rfl 0 rfl ha) ?_;refine bC 4 rfl (fun h' e=>bV rfl (e.rowAt hbM hrow)) ?_;refine aG 5 ?_;refine cU 6 rfl (aF rfl (ih (x:=x) (O:=O) (to:=ss.length) (by omega) hn5 (fun b hb=>by have:=hO3 b hb;omega) hnd hwx (by simp;omega))) ?_;rintro _ h6 ⟨v6,rfl,hn6,nx6⟩;refine⟨fun _=>nx6.ext.mono (fun b _ k=>k.elim .inl (fun k=>k.elim)),?_⟩;have hz6:=nx6.ext.size;have nx36:=nx5.trans nx6 (fun _ _ k=>k);have q3':=q3.ext nx36.ext (hnM _ (Nat.le_refl _));have q4':=q4.ext nx36.ext (hnM _ (by omega));have q5':=q5.ext nx36.ext (hnM _ (by omega));have hown6:=hn6.own;have hlen6:=fK x (ss++[⟨0,0,[],0⟩]) ss.length;rw[List.length_append,List.length_singleton] at hlen6;have hpre:(lay x (ss++[⟨0,0,[],0⟩]) ss.length).1[ss.length]? =some ⟨0,0,[],0⟩:=by rw[lG x _ _ _ (by simp)];simp
             have hn6c:=hn6.blk.cell (i:=0) rfl
             have hnM6:∀b,h.size<=b->b<h3.size->¬(dY nb v6 b\/h6.size<=b):=by
              rintro b hb hb' ((k1|k1)|k1)
              · omega
              · rcases nx36.own b k1.symm with k2|k2
                · have:=hown b k2;omega
                · omega
              · omega
             have hnew6:∀t,aY iC (h6.push (.cells #[.int .i64 ((lay x (ss++[⟨0,0,[],0⟩]) ss.length).2:Nat),.int .i64 (to:Nat)] t)) (fun b=>cu v6.ownBlock b\/b=nb\/O b) (.slice (some ⟨h6.size,0,none⟩) 2 2) [(lay x (ss++[⟨0,0,[],0⟩]) ss.length).2,to]:=fun t=>NN t _ _ (by
              rintro(k1|k1|k1)
              · have:=hown6 _ k1.symm;omega
              · omega
              · have:=hO3 _ k1;omega)
             generalize hout:lay x (ss++[⟨0,0,[],0⟩]) ss.length=out at *;have hn7:bM (h6.push (.cells #[.int .i64 (out.2:Nat),.int .i64 (to:Nat)] 3)) O nb v6 out.1 st:=hn6.ah (Ext.push _ _ _) (fun _ _ k=>k);obtain⟨g,c6,cs6,hv6,hg1,hg2,hg3,hg4,hg5,hg6⟩:=hn7.row.put hpre;obtain⟨w6,rfl,_⟩:=hg5;subst hv6;have hput:=hg6 5 (.slice (some ⟨h6.size,0,none⟩) 2 2) ⟨0,0,[out.2,to],0⟩ (by decide) ⟨_,rfl,hnew6 _⟩;have hgb:h6.size=g\/g<h6.size:=by have:=hown6 g rfl;omega
             have hg6':g<h6.size:=(hown6 g rfl).2;have hcell7:cellAt (h6.push (.cells #[.int .i64 (out.2:Nat),.int .i64 (to:Nat)] 3)) ⟨g,0+ss.length*7+5,none⟩=some w6:=hg3 5 _ rfl;have m6:=hnM6 h1.size (by omega) (by omega);have j4:¬h1.size=g:=fun k=>m6 (.inl (.inr (by rw[k];rfl)))
             have j3:¬h6.size<=h.size:=by omega
             have j0:¬h6.size<=nb:=by omega
             have j5:¬h6.size<=h2.size:=by omega
             refine aG 7 ?_;refine gV ?_;refine af ?_;refine kH 11 (fun b=>Array.size h6<=b) (fun i=>Nat.blt i 10) ?_;refine bC 0 rfl (fun h' e=>az rfl (e.cell j3 (q3'.cell (i:=0) rfl))) ?_;refine aG 1 ?_;refine aG 2 ?_;refine bC 3 rfl (fun h' e=>az rfl (e.cell j0 hn6c)) ?_;refine aG 4 ?_;refine aG 5 ?_;refine bC 6 rfl (fun h' e=>az rfl (e.cell j5 (q5'.cell (i:=0) rfl))) ?_;refine cU 7 rfl (jG [_,_]) ?_;rintro _ _ ⟨rfl,rfl⟩;refine⟨fun _=>by first|exact Ext.push _ _ _|assumption,?_⟩;refine LD 8 rfl (cK rfl rfl ss.length rfl rfl) ?_;refine aG 9 ?_;refine iA 10 rfl (bU H.Ai rfl rfl rfl hcell7 (hg4 _)) ?_;rintro _ _ ⟨rfl,rfl⟩;refine⟨nofun,?_⟩;refine gV ?_;refine af ?_;have hz7:∀u,(dK (h6.push (.cells #[.int .i64 (out.2:Nat),.int .i64 (to:Nat)] 3)) ⟨g,0+ss.length*7+5,none⟩ u).size=h6.size+1:=fun u=>by rw[iW];simp
             have ex7:∀u,Ext (fun b=>b=g) h6 (dK (h6.push (.cells #[.int .i64 (out.2:Nat),.int .i64 (to:Nat)] 3)) ⟨g,0+ss.length*7+5,none⟩ u):=fun u=>⟨by rw[hz7];omega,fun b hb hn=>by rw[(Ext.dK (M:=fun b=>b=g) _ _ u rfl).block b (by simp;omega) hn,(Ext.push (fun _=>False) h6 _).block b hb (fun k=>k)]⟩
             refine xp rfl (az rfl ((q4'.ext (ex7 _) j4).cell (i:=0) rfl)) ?_;refine af ?_;refine eu rfl (by decide) ?_;refine af ?_;refine bh ?_;exact⟨_,rfl,_,rfl,⟨hn6.blk.ext (ex7 _) (by have:=hown6 g rfl;omega),hput⟩,((nx3.trans nx36 (fun _ _ k=>k)).trans ⟨(ex7 _).mono (fun b _ k=>.inl (.inr (by rw[k];rfl))),fun b k=>.inl k⟩ (fun _ _ k=>k))⟩
           · have h5k':¬k=5:=kk h5k;have hlay:lay (.mk k s kids) ss to=(ss,to):=by rw[lay];simp[h1k',h2k',h3k',h4k',h5k',h6k']
             rw[hlay];refine af ?_;refine xp rfl (az rfl (q5.cell (i:=0) rfl)) ?_;refine af ?_;refine bh ?_;exact⟨_,rfl,v,rfl,hn3,nx3⟩
theorem GY:∀n,Ia n
 | 0=>by
  intro hs;have:=Di ‹Nd›;omega
 |n+1=>GZ (GY n)
def nG:gD By:=.flat (fun s=>.string (bs s)) fun _=>rfl
def xL (h h':aj) (rules:List By) (r:Value):Prop :=
 match eG rules with
 |.inl e=>r= .tuple #[.pointer none,.int .i64 e]
 |.inr (ss,st)=>∃nb v,r= .tuple #[.pointer (some ⟨nb,0,none⟩),.int .i64 0]/\h.size<=nb/\bM h' (fun b=>b<h.size) nb v ss st
theorem HY {O:Nat->Prop}{nb:Nat}{v:Value}{ss:List aX}{st:Nat}(i:Nat) (hn:bM h O nb v ss st) (hO:∀b,O b->b<h.size) (hl:ss.length<=1000000) :
 av Tryz.prog 57 #[.pointer (some ⟨nb,0,none⟩),.agg #[.int .i64 2,.int .u64 0,.int .u64 0,.int .u64 0,.int .u64 0,.slice none 0 0,.int .i64 (i:Nat)]] h (bq (JQ O nb h v st (ss++[⟨2,0,[],i⟩],ss.length))):=by
 have h1:=zC (x:=⟨2,0,[],i⟩) hn hO ⟨.slice none 0 0,rfl,aY.nil _ _ _⟩ hl;simp only[Ec,Kg] at h1;exact h1
theorem CB {lim:Nat}(hg:Sg h lim) (hlim:lim<=h.size){rv:Value}{rules:List By}(hr:aY nG h (fun _=>False) rv rules) (hrl:∀s∈rules,s.length<=1000000) :
 av Tryz.prog 25 #[rv] h (bq fun r h'=>xL h h' rules r/\aq h h'):=by
 obtain⟨oa,kn,kc,rfl,hsl⟩:=id hr.open;have hkn:=hsl.len;have hkc:=hsl.le;have hcap:=hsl.cap;generalize htgt:kN 0 rules [] []=tgt;refine bP ?_;refine aR ?_;refine de ?_
 iterate 2 refine aZ ?_
 refine cV ?_
 iterate 2 refine aR ?_
 refine dW [(18,.bool (decide (kn=0\/64<kn)))] rfl ?_ ?_
 · refine af ?_;refine b9 14 (fun hg=>?_) (fun hg=>?_)
   · refine af ?_;exact aA rfl ⟨ai rfl (by have:=of_decide_eq_true hg;simp;omega),sb rfl⟩
   · refine af ?_;exact aA rfl ⟨ai rfl (by have:=of_decide_eq_false hg;simp only[decide_eq_decide];omega),sb rfl⟩
 · refine aP (fun hbig=>?_) (fun hbig=>?_)
   · refine af ?_;refine bh ?_;refine⟨_,rfl,?_,Ext.refl _ _⟩;have:eG rules= .inl 2:=by unfold eG;rw[if_pos (show rules.length=0\/64<rules.length by omega)]
     rw[xL,this];rfl
   · have hmk:eG rules=match kN 0 rules [] [] with|.inl e=>.inl e|.inr (ss,t)=>if 2000<vW rules then .inl 70 else .inr (ss++[⟨0,0,t,0⟩],ss.length):=by unfold eG;rw[if_neg (show ¬(rules.length=0\/64<rules.length) by omega)]<;>rfl
     rw[htgt] at hmk;refine af ?_;refine xp rfl (au (H.Lc ) rfl) ?_;refine xo rfl (iF) ?_;rintro _ h1 ⟨rfl,q4,e1,z1⟩;have q4:aC h1 h.size 128 [.slice none 0 0,.int .i64 (0:Nat)]:=q4;have hn1:bM h1 (fun b=>b<h.size) h.size (.slice none 0 0) [] 0:=⟨q4,cy.nil _ _ _ _ _⟩
     refine af ?_;refine gJ (σ:=Nat×Value) (fun p=>[(5,p.2),(6,.int .i64 (vW (rules.take p.1):Nat)),(23,.int .i64 (p.1:Nat))]) (fun p h'=>p.1<=kn/\∃v ss t,bM h' (fun b=>b<h.size\/cu p.2.ownBlock b) h.size v ss 0/\cy iC (fun _=>True) h' h1.size 3 p.2 t/\Nx (fun _=>False) h.size h1 (.slice none 0 0) h' v/\(∀b,p.2.ownBlock=some b->v.ownBlock≠some b)/\(ss.length<=402*p.1/\vW (rules.take p.1)<=200*p.1/\t.length=p.1)/\kN p.1 (rules.drop p.1) ss t=tgt) (fun p=>kn-p.1) ((0,.slice none 0 0)) ⟨Nat.zero_le _,_,[],[],hn1.ah (Ext.refl _ _) (fun b _ k=>k.elim id (fun k=>by cases k)),cy.nil _ _ _ _ _,Nx.refl,fun b hb=>(by cases hb),⟨Nat.zero_le _,by simp[vW],rfl⟩,htgt⟩ rfl ?_;rintro⟨i,tv⟩ g0 ⟨hi,v,ss,t,hng,htg,nxg,hdist,⟨hss,htot,htl⟩,hcon⟩ ih
     try dsimp only
     dsimp only at hi hng htg nxg hdist hss htot htl hcon;have hz0:=nxg.ext.size;have htv:∀b,tv.ownBlock=some b->h1.size<=b/\b<g0.size:=fun b hb=>by obtain⟨_,_,k,_⟩:=id htg;exact k.lt hb
     have e0g:aq h g0:=⟨by omega,fun b hb _=>(nxg.ext.block b (by omega) (by
      rintro((k|k)|k)
      · omega
      · cases k
      · exact k)).trans (e1.block b hb (fun k=>k))⟩
     have hown:=hng.own;have hnlt:=hng.blk.lt;refine af ?_;refine aP (fun hlt=>?_) (fun hlt=>?_)
     · obtain⟨s,hs⟩:∃s,rules[i]? =some s:=⟨_,List.getElem?_eq_getElem (by omega)⟩
       have hdr:rules.drop i=s::rules.drop (i+1):=by
        obtain⟨hi',rfl⟩:=List.getElem?_eq_some_iff.1 hs;exact List.drop_eq_getElem_cons hi'
       rw[hdr,kN] at hcon;obtain⟨oa',n',c',hv',_,_,_,hget⟩:=id (hr.ah e0g);cases hv';obtain⟨b,o,cs,ha,hob,hrow,rfl⟩:=hget i s hs
       iterate 4 refine aR ?_
       refine de ?_;refine aZ ?_;refine xp rfl (cK rfl rfl i rfl ha) ?_;refine xp rfl (az rfl (hrow 0 _ rfl)) ?_;refine af ?_;refine xo rfl (aF rfl (AD (hg.ext e0g (fun _ k=>k.elim)) (by omega) s (hrl s (List.mem_of_getElem? hs)))) ?_;rintro _ g1 ⟨⟨w,rfl,hnd⟩,e01⟩;refine af ?_;refine xo rfl (cm) ?_;rintro _ g2 ⟨rfl,k9,e12,z12⟩;refine aH rfl (aK rfl rfl k9 (bB.one hnd)) ?_;rintro _ g3 ⟨rfl,k9',e23,z23⟩;refine af ?_;have k9':aC g3 g1.size 134 (dy (bz s).1.kind (bz s).1.set w):=k9';refine aP (fun herr=>?_) (fun herr=>?_)
       · rw[if_pos (by exact herr)] at hcon;refine af ?_;refine bh ?_;have e3:aq h g3:=(e0g.trans e01).trans (e12.only e23 (Nat.le_refl _));refine⟨_,rfl,?_,e3⟩;rw[<-hcon] at hmk;rw[xL,hmk];rfl
       · have h0:(bz s).2=0:=by simpa using herr
         rw[if_neg (by simpa using h0)] at hcon;have hsmall:=pK h0;have hbs:=aL s;have ecc:aq g1 g3:=e12.only e23 (Nat.le_refl _);have e03:aq g0 g3:=e01.trans ecc;have hz1:=e01.size;have hz3:=ecc.size;have hz13:g1.size<g3.size:=by omega
         iterate 2 refine aR ?_
         refine dW [(6,.int .i64 (vW (rules.take (i+1)):Nat))] rfl ?_ ?_
         · refine af ?_;exact aA rfl ⟨(by show some (Value.int _ _)=some (Value.int _ _);rw[wG hs];congr 2),sb rfl⟩
         · have hn3:bM g3 (fun b=>b<h.size\/cu tv.ownBlock b) h.size v ss 0:=hng.ah e03 (fun _ _ k=>k);have hO3:∀b,(b<h.size\/cu tv.ownBlock b)->b<g3.size:=fun b hb=>by rcases hb with k|k;omega;(have:=htv b k.symm;omega)
           have hnd3:bB g3 (dY h.size v) (dy (bz s).1.kind (bz s).1.set w) (bz s).1:=hnd.mv ⟨ecc.size,fun b hb hn=>⟨ecc.block b hb (fun k=>k),by
            rintro(k|k)
            · exact hn (by show b<g0.size;omega)
            · exact hn (by show b<g0.size;exact(hown b k.symm).2)⟩⟩
           have hK1:¬(dY h.size v g1.size\/False):=by
            rintro((k|k)|k)
            · omega
            · have:=hown _ k.symm;omega
            · exact k
           refine kH 11 (fun b=>¬b=Array.size g1) (fun i=>Nat.blt i 11) ?_;refine aG 0 ?_;refine aG 1 ?_;refine bC 2 rfl (fun h' e=>bV rfl (e.rowAt (fun k=>k rfl) k9'.row)) ?_;refine aG 3 ?_;refine aG 4 ?_;refine bC 5 rfl (fun h' e=>au (H.Fk _ _) rfl) ?_;refine cU 6 rfl (aF rfl (HY i hn3 hO3 (by omega))) ?_;rintro _ g4 ⟨v4,rfl,hn4,nx4⟩;refine⟨fun _=>nx4.ext.mono (fun b _ k e=>hK1 (e▸k)),?_⟩;have hz4:=nx4.ext.size
           have hK2:¬(dY h.size v4 g1.size\/False):=by
            rintro((k|k)|k)
            · omega
            · rcases nx4.own _ k.symm with k2|k2
              · exact hK1 (.inl (.inr k2.symm))
              · omega
            · exact k
           refine cU 7 rfl (aF rfl (GY 401 (x:=(bz s).1) (to:=ss.length) hsmall.1 hn4 (fun b hb=>by have:=hO3 b hb;omega) (hnd3.mv nx4.rI) hsmall.2.1 (by have:=hsmall.1;simp only[List.length_append,List.length_singleton];omega))) ?_;rintro _ g5 ⟨v5,rfl,hn5,nx5⟩;refine⟨fun _=>nx5.ext.mono (fun b _ k e=>hK2 (e▸k)),?_⟩;have hz5:=nx5.ext.size;have nx45:Nx (fun _=>False) h.size g3 v g5 v5:=nx4.trans nx5 (fun _ _ k=>k)
           have ht5:cy iC (fun _=>True) g5 h1.size 3 tv t:=(htg.ah e03).oZ nx45.ext (fun b hb=>by
            rintro((k1|k1)|k1)
            · have:=htv b hb;omega
            · exact hdist b hb k1.symm
            · exact k1) (fun _ _ _=>trivial) (fun _ _ _=>trivial)
           obtain⟨css,hc1,hc2,hc3⟩:=id ht5;have hKt:¬cu tv.ownBlock g1.size:=fun k=>by have:=htv _ k.symm;omega
           refine cU 8 rfl (jG [_]) ?_;rintro _ _ ⟨rfl,rfl⟩;refine⟨fun _=>by first|exact Ext.push _ _ _|assumption,?_⟩;refine cU 9 rfl (wC rfl rfl hc2 rfl rfl) ?_;rintro t6 g6 ⟨ho6,hx6,hx6',hv6⟩;refine⟨fun _=>hx6'.mono (fun b _ k e=>hKt (e▸k)),?_⟩;refine aG 10 ?_;refine gV ?_;refine af ?_;have ht6:=cy.fC hc1 hc3 ho6 hx6 hv6 (y:=(lay (bz s).1 (ss++[(⟨2,0,[],i⟩:aX)]) ss.length).2) rfl
           have hn6:bM g6 (fun b=>b<h.size\/cu t6.ownBlock b) h.size v5 (lay (bz s).1 (ss++[⟨2,0,[],i⟩]) ss.length).1 0:=hn5.ext hx6 (fun k=>by have:=htv _ k.symm;omega) (fun b hb k=>by
            rcases nx45.own b hb with k'|k'
            · exact hdist b k.symm k'
            · have:=htv b k.symm;omega) (fun b _ k=>.inr k) (fun b hb k=>k.imp id (fun k=>by
              rcases hv6 b k.symm with k'|k'
              · exact k'.symm
              · omega))
           have hd6:∀b,t6.ownBlock=some b->v5.ownBlock≠some b:=fun b hb k=>by
            rcases hv6 b hb with k'|k'
            · rcases nx45.own b k with k2|k2
              · exact hdist b k' k2
              · have:=htv b k';omega
            · have:=(hn5.own b k).2;omega
           have nx05:Nx (fun _=>False) h.size h1 (.slice none 0 0) g5 v5:=(nxg.trans (Nx.Lt e03) (fun _ _ k=>k)).trans nx45 (fun _ _ k=>k);have nx06:Nx (fun _=>False) h.size h1 (.slice none 0 0) g6 v5:=⟨⟨by have:=hx6.size;omega,fun b hb hn=>by rw[hx6.block b (by omega) (fun k=>by have:=htv b k.symm;omega)];exact nx05.ext.block b hb hn⟩,nx05.own⟩
           have hlenl:=(fK (bz s).1 (ss++[⟨2,0,[],i⟩]) ss.length).2;rw[List.length_append,List.length_singleton] at hlenl;have htt:=wG hs;exact ih (i+1,t6) ⟨by show i+1<=kn;omega,v5,_,_,hn6,ht6,nx06,hd6,⟨by have:=hsmall.1;show _<=402*(i+1);omega,by have:=hsmall.2.2;show vW (rules.take (i+1))<=200*(i+1);omega,by simp[htl]⟩,hcon⟩
     · obtain rfl:i=kn:=by omega
       have hall:rules.take i=rules:=List.take_of_length_le (by omega);have hnil:rules.drop i=[]:=List.drop_of_length_le (by omega);rw[hnil,kN] at hcon;rw[<-hcon] at hmk;rw[hall] at htot;simp only[hall];refine af ?_;refine aP (fun hbig2=>?_) (fun hbig2=>?_)
       · refine af ?_;refine bh ?_;refine⟨_,rfl,?_,e0g⟩;have:eG rules= .inl 70:=by rw[hmk];exact if_pos (by omega)
         rw[xL,this];rfl
       · have hmk2:eG rules= .inr (ss++[⟨0,0,t,0⟩],ss.length):=by rw[hmk];exact if_neg (by omega)
         have hrd:aY iC g0 (fun b=>dY h.size v b\/b<h.size) tv t:=htg.Dv (fun b hb=>by
          rintro((k1|k1)|k1)
          · have:=htv b hb;omega
          · exact hdist b hb k1.symm
          · have:=htv b hb;omega) (fun _ _ _=>trivial)
         obtain⟨oa9,n9,c9,rfl,_⟩:=id hrd;refine af ?_;refine xp rfl (au (H.zx _ _ _) rfl) ?_;refine xo rfl (aF rfl (nh (O:=fun b=>b<h.size) (to:=t) (hng.ah (Ext.refl _ _) (fun b _ k=>.inl k)) (fun b hb=>by omega) hrd (by omega))) ?_;rintro _ g4 ⟨v4,rfl,hn4,nx4⟩;refine af ?_;refine aH rfl (kY rfl rfl hn4.blk) ?_;rintro _ g5 ⟨rfl,hk5,hx5,hz5⟩;refine af ?_;refine bh ?_;have hn5:bM g5 (fun b=>b<h.size) h.size v4 (ss++[⟨0,0,t,0⟩]) ss.length:=⟨hk5,hn4.row.oZ hx5 (fun b hb k=>by have:=(hn4.own b hb).1;omega) (fun b _ k=>.inl k) (fun b _ k=>k)⟩
         have e4:aq h g5:=⟨by have:=hx5.size;have:=nx4.ext.size;omega,fun b hb _=>by
          rw[hx5.block b (by have:=nx4.ext.size;omega) (by omega),nx4.ext.block b (by omega) ?_]
          · exact e0g.block b hb (fun k=>k)
          · rintro((k|k)|k)
            · omega
            · rcases nxg.own b k.symm with k2|k2
              · cases k2
              · omega
            · exact k⟩
         refine⟨_,rfl,?_,e4⟩;rw[xL,hmk2];exact⟨h.size,v4,rfl,Nat.le_refl _,hn5⟩
theorem oB {O:Nat->Prop}{nb:Nat}{v:Value}{ss:List aX}{st:Nat}(hn:bM h O nb v ss st):av Tryz.prog 97 #[.pointer (some ⟨nb,0,none⟩)] h (bq fun r h'=>r= .bool (decide (ss.length=0))/\h'=h):=by
 obtain⟨css,hc1,hc2,hc3⟩:=id hn.row;obtain⟨oa,c,rfl,_⟩:=hc2.open;refine bP ?_;refine aR ?_;refine de ?_;refine aZ ?_;refine cV ?_;refine aR ?_;refine dW [(2,.bool (decide (ss.length=0)))] rfl ?_ ?_
 · refine aZ ?_;refine xp rfl (ay.qO underlying82 rfl rfl) ?_;refine af ?_;refine RW.ck (d:=5) (b':=false) rfl (rfl) ?_;refine af ?_;refine xp rfl (az rfl (hn.blk.cell (i:=0) rfl)) ?_;refine af ?_;exact aA rfl ⟨ai rfl (by simp only[decide_eq_decide];omega),sb rfl⟩
 · refine bh ?_;exact⟨_,rfl,rfl,rfl⟩
end
end Go.Proofs.YtdgckfkoihcmjaaGreatDoor
namespace Go.Proofs.YtdgckfkoihcmjaaGreatDoor
open Go Go.Lw
set_option maxRecDepth 20000
section
variable {h:aj}
theorem Gw {base:Nat}{t:TypeId}{v:Value}{todo:List Nat}{m:Nat}(k:cn dP h base t v todo) (hm:todo.length=m+1) :
    ∃g c x,v= .slice (some ⟨g,0,none⟩) (m+1) c/\m+1<=c/\g<h.size/\base<=g/\cellAt h ⟨g,0+m*1,none⟩=some (.int .i64 (x:Nat))/\todo=todo.dropLast++[x] /\
      cn dP h base t (.slice (ir (some ⟨g,0,none⟩) 0 1 c) m c) todo.dropLast/\(Value.slice (ir (some ⟨g,0,none⟩) 0 1 c) m c).ownBlock=some g:=by
  have k':aB h base t 1 v todo.length (todo.map dP):=k;obtain⟨oa,c,rfl,ho⟩:=k'.open;have hne:todo≠[]:=by intro e;rw[e] at hm;cases hm
  have hlast:todo=todo.dropLast++[todo.getLast hne]:=(List.dropLast_concat_getLast hne).symm
  have hx:(todo.map dP)[m]? =some (dP (todo.getLast hne)):=by
    rw[List.getElem?_map,List.getLast_eq_getElem,List.getElem?_eq_getElem (by omega)];simp[hm]
  obtain⟨g,rfl,hb,hlt,hc,_⟩:=ho.at hx;have ht:=ho.take (m:=m) (by omega) 1
  have hd:(todo.map dP).take (m*1)=todo.dropLast.map dP:=by
    rw[Nat.mul_one,List.dropLast_eq_take,hm,Nat.add_sub_cancel,List.map_take]
  rw[hd] at ht;refine⟨g,c,todo.getLast hne,by rw[hm],by have:=ho.le;omega,hlt,hb,hc,hlast,?_,?_⟩
  · have hl:todo.dropLast.length=m:=by simp[hm]
    unfold cn;rw[hl];exact ht
  · unfold ir;split<;>simp[Value.ownBlock,Addr.add]
theorem bM.get {O:Nat->Prop}{nb:Nat}{v:Value}{ss:List aX}{st i:Nat}{x:aX}(k:bM h O nb v ss st) (hx:ss[i]? =some x) :
    ∃g c w,v= .slice (some ⟨g,0,none⟩) ss.length c/\g<h.size/\Lw.rowAt h g (0+i*7) (Ec x.kind x.set w x.rule)/\aY iC h (fun b=>cu v.ownBlock b\/b=nb\/O b) w x.to:=by
  obtain⟨g,c,cs,rfl,_,hg,hrow,_,⟨w,rfl,hw⟩,_⟩:=k.row.put hx;exact⟨g,c,w,rfl,hg,hrow,hw⟩
theorem BM {O:Nat->Prop}{oa:Option Addr}{n c:Nat}{xs:List Nat}(k:aY iC h O (.slice oa n c) xs):xs.length=n/\(n=0\/∃b o,oa=some ⟨b,o,none⟩/\Lw.rowAt h b o (xs.map dP))/\n<=maxLen:=by
  obtain⟨oa',n',c',hv,hl,hc,hm,hg⟩:=k;cases hv;have hs:Sl iC h O oa n c xs:=⟨hl,hc,hm,hg⟩
  exact⟨hl,Sl.row hs,by omega⟩
end
end Go.Proofs.YtdgckfkoihcmjaaGreatDoor
namespace Go.Proofs.YtdgckfkoihcmjaaGreatDoor
open Go.Proofs.Tryz
open Go Go.Lw
set_option maxRecDepth 20000 set_option maxHeartbeats 4000000
section
variable {n nb st:Nat}{todo:List Nat}{seen:List Bool}{h:aj}{O:Nat->Prop}{v:Value}
theorem CS {ss:List aX}{i:Nat}(ht:todo.getLast? =some i) (hs:seen[i]? =some true):iJ ss (n+1) todo seen=iJ ss n todo.dropLast seen:=by
 rw[iJ,ht];simp[hs]
theorem Fi {ss:List aX}{i:Nat}{x:aX}(ht:todo.getLast? =some i) (hs:seen[i]? =some false) (hx:ss[i]? =some x):iJ ss (n+1) todo seen=iJ ss n (if x.kind=0 then todo.dropLast++x.to else todo.dropLast) (seen.set i true):=by
 rw[iJ,ht];simp[hs,hx]
theorem Fh {ss:List aX}:iJ ss n [] seen=seen:=by cases n<;>simp[iJ]
def FA (ss:List aX) (seen:List Bool) (i:Nat):Bool:=seen[i]? ==some true && (ss[i]?.map (·.kind)) !=some 0
theorem qn {tv:Value}{ss:List aX}{base:Nat}{tb:Option Nat}(hn:bM h O nb v ss st) (hgood:Good ss) (hss:ss.length<=1000000) (htd:cn dP h base 3 tv todo) (htb:tv.ownBlock=tb)
 (hbase:base<=h.size) (hOt:∀b,tb=some b->O b/\b≠nb/\v.ownBlock≠some b) (hlt:∀j∈todo,j<ss.length) (hpot:todo.length+rG ss (List.replicate ss.length false)<=1000000) :
 av Tryz.prog 98 #[.pointer (some ⟨nb,0,none⟩),tv] h (bq fun r h'=>cn dP h' h.size 3 r (closed ss todo)/\Ext (cu tb) h h'):=by
 obtain⟨css,hc1,hc2,hc3⟩:=id hn.row;obtain⟨va,vc,rfl,_⟩:=hc2.open
 have htl:tb=none\/∃b,tb=some b/\b<h.size:=by
  cases tb with
  |none=>exact .inl rfl
  |some b=>exact .inr ⟨b,rfl,(aB.lt htd htb).2⟩
 obtain⟨oa,c,rfl,_⟩:=(show aB h base 3 1 tv todo.length (todo.map dP) from htd).open;generalize htgt:iJ ss (todo.length+rG ss (List.replicate ss.length false)) todo (List.replicate ss.length false)=tgt;refine bP ?_;refine af ?_;refine aP (fun hz=>?_) (fun hz=>?_)
 · refine af ?_;refine bh ?_;have:closed ss todo=[]:=by unfold closed;rw[if_pos (by omega)]
   rw[this];exact⟨_,rfl,cn.nil _ _ _ _,Ext.refl _ _⟩
 · refine af ?_;refine xp rfl (az rfl (hn.blk.cell (i:=0) rfl)) ?_;refine af ?_;refine xo rfl (aT.pR underlying159 H.OQ H.OJ rfl rfl rfl (by omega) (by decide)) ?_;rintro _ h1 ⟨rfl,hk1,e1⟩;refine af ?_;refine gJ (σ:=Nat×Value×List Nat×List Bool) (fun q=>[(1,q.2.1)]) (fun q h'=>Ext (cu tb) h h'/\cn dP h' base 3 q.2.1 q.2.2.1/\(∀b,q.2.1.ownBlock=some b->tb=some b\/h1.size<=b)/\aB h' h.size 4 1 (.slice (some ⟨h.size,0,none⟩) ss.length ss.length) ss.length (q.2.2.2.map .bool)/\q.2.2.2.length=ss.length/\(∀j∈q.2.2.1,j<ss.length)/\(q.2.2.1.length+rG ss q.2.2.2<=q.1/\q.1<=1000000/\h1.size<=h'.size)/\iJ ss q.1 q.2.2.1 q.2.2.2=tgt) (fun q=>q.1) ((todo.length+rG ss (List.replicate ss.length false),.slice oa todo.length c,todo,List.replicate ss.length false)) ⟨e1.mono fun _ _ k=>k.elim,aB.DC htd e1,fun b hb=>.inl (htb.symm.trans hb),by simpa using hk1,by simp,hlt,⟨Nat.le_refl _,hpot,Nat.le_refl _⟩,htgt⟩ rfl ?_;rintro⟨n,dv,td,seen⟩ g ⟨eg,hd,hdo,hs,hsl,hlt',⟨hp,hn1,hgz⟩,hcon⟩ ih
   try dsimp only
   dsimp only at hd hdo hs hsl hlt' hp hn1 hcon;have hz1:h.size<h1.size:=by have:=(aB.lt hk1 rfl).2;exact this
   have hsow:=hs.open;obtain⟨sa,sc,hsv,hsow⟩:=hsow;cases hsv
   rcases Nat.eq_zero_or_pos td.length with hpos|hpos
   · obtain rfl:td=[]:=List.eq_nil_of_length_eq_zero hpos;obtain⟨oad,cd,rfl,_⟩:=(show aB g base 3 1 dv ([]:List Nat).length (([]:List Nat).map dP) from hd).open;rw[Fh] at hcon;refine af ?_;refine eC rfl (by simp) ?_;have hnc:∀{h':aj},Ext (cu tb) h h'->bM h' O nb (.slice va ss.length vc) ss st:=fun e=>hn.ext e (fun k=>(hOt nb k.symm).2.1 rfl) (fun b hb k=>(hOt b k.symm).2.2 hb) (fun b _ k=>(hOt b k.symm).1) (fun _ _ k=>k)
     have hcl:closed ss todo=(List.range ss.length).filter (FA ss seen):=by
      unfold closed;rw[if_neg (by omega),htgt,<-hcon];rfl
     refine af ?_;refine gJ (σ:=Nat×Value) (fun q=>[(7,q.2),(61,.int .i64 (q.1:Nat))]) (fun q h'=>q.1<=ss.length/\aq g h'/\cn dP h' g.size 3 q.2 ((List.range q.1).filter (FA ss seen))) (fun q=>ss.length-q.1) ((0,.slice none 0 0)) ⟨Nat.zero_le _,Ext.refl _ _,cn.nil _ _ _ _⟩ rfl ?_;rintro⟨i,ov⟩ g2 ⟨hi,e2,ho2⟩ ih2
     try dsimp only
     dsimp only at hi ho2;have eg2:Ext (cu tb) h g2:=eg.trans (e2.mono fun _ _ k=>k.elim);have hn2:=hnc eg2;have hz2:=e2.size;refine af ?_;refine aP (fun hlti=>?_) (fun hlti=>?_)
     · have hil:i<ss.length:=by omega
       obtain⟨bx,hbx⟩:∃bx,seen[i]? =some bx:=⟨_,List.getElem?_eq_getElem (by omega)⟩
       obtain⟨y,hy⟩:∃y,ss[i]? =some y:=⟨_,List.getElem?_eq_getElem hil⟩
       obtain⟨sa2,sc2,hsv2,hsow2⟩:=(aB.DC hs e2).open;cases hsv2;obtain⟨g',hg',_,hsg,hscell,hsnf⟩:=hsow2.at (i:=i) (x:=.bool bx) (by rw[List.getElem?_map,hbx];rfl);cases hg';obtain⟨gs,cs,ws,hvs,hgs,hrow,hws⟩:=hn2.get hy;cases hvs;have hlen2:((List.range i).filter (FA ss seen)).length<=i:=by have:=List.length_filter_le (FA ss seen) (List.range i);simpa using this
       have hnext:(List.range (i+1)).filter (FA ss seen)=(List.range i).filter (FA ss seen)++(if FA ss seen i then [i] else []):=by
        rw[List.range_succ,List.filter_append];cases hpr:FA ss seen i<;>simp[hpr]
       iterate 4 refine aR ?_
       refine de ?_;refine aZ ?_;refine xp rfl (cK rfl rfl i rfl rfl) ?_;refine xp rfl (az rfl hscell) ?_
       iterate 2 refine aZ ?_
       refine cV ?_;refine aR ?_;refine dW [(77,.bool (FA ss seen i))] rfl ?_ ?_
       · refine af ?_;refine b9 67 (fun hg=>?_) (fun hg=>?_)
         · refine af ?_;refine xp rfl (az rfl (hn2.blk.cell (i:=0) rfl)) ?_;refine aZ ?_;refine xp rfl (cK rfl rfl i rfl rfl hil) ?_;refine af ?_;refine xp rfl (az rfl (hrow 0 _ rfl)) ?_;refine af ?_;exact aA rfl ⟨ai rfl (by subst hg;simp[FA,hbx,hy];by_cases hk0:y.kind=0<;>simp[hk0]),sb rfl⟩
         · refine af ?_;exact aA rfl ⟨ai rfl (by subst hg;simp[FA,hbx]),sb rfl⟩
       · refine fF (fun hb=>?_) (fun hb=>?_)
         · rw[if_pos hb] at hnext;refine af ?_;refine xo rfl (jG [_]) ?_;rintro _ _ ⟨rfl,rfl⟩;refine xo rfl (wC rfl rfl ho2 rfl rfl) ?_;rintro ov3 g3 ⟨ho3,hx3,-,hv3⟩;refine af ?_;have ho3':cn dP g3 g.size 3 ov3 ((List.range (i+1)).filter (FA ss seen)):=by rw[hnext];exact cn.of (ys:=[i]) ho3 rfl rfl rfl
           have e3:aq g g3:=cn.grown e2 ho2 (Nat.le_refl _) hx3;exact ih2 (i+1,ov3) ⟨by show i+1<=_;omega,e3,ho3'⟩
         · rw[if_neg (by rw[hb];decide)] at hnext;rw[List.append_nil] at hnext;rw[<-hnext] at ho2;refine af ?_;exact ih2 (i+1,ov) ⟨by show i+1<=_;omega,e2,ho2⟩
     · obtain rfl:i=ss.length:=by omega
       refine af ?_;refine bh ?_;rw[hcl];exact⟨_,rfl,aB.lower ho2 (by omega),eg2⟩
   · obtain⟨m,hm⟩:∃m,td.length=m+1:=⟨td.length-1,by omega⟩
     obtain⟨gd,cd,x,rfl,hcd,hgd,hbd,hcell,hlast,hcut,hcb⟩:=Gw hd hm;have hgl:td.getLast? =some x:=by rw[hlast];simp
     have hxl:x<ss.length:=hlt' x (by rw[hlast];simp);have hltd:∀j∈td.dropLast,j<ss.length:=fun j hj=>hlt' j (List.dropLast_subset _ hj)
     have hdl:td.dropLast.length=m:=by simp[hm]
     obtain⟨n,rfl⟩:∃n',n=n'+1:=⟨n-1,by omega⟩
     obtain⟨bx,hbx⟩:∃bx,seen[x]? =some bx:=⟨_,List.getElem?_eq_getElem (by omega)⟩
     obtain⟨y,hy⟩:∃y,ss[x]? =some y:=⟨_,List.getElem?_eq_getElem hxl⟩
     obtain⟨g',hg',_,hsg,hscell,hsnf⟩:=hsow.at (i:=x) (x:=.bool bx) (by rw[List.getElem?_map,hbx];rfl);cases hg';refine af ?_;refine eu rfl (by simp only[decide_eq_false_iff_not];omega) ?_
     iterate 3 refine aR ?_
     refine de ?_
     iterate 4 refine aZ ?_
     refine xp rfl (cK rfl rfl m (by omega) rfl) ?_;refine xp rfl (az rfl hcell) ?_;refine af ?_;refine xp rfl (ay.yj underlying129 H.jM rfl rfl m (by omega) (by omega)) ?_;refine aZ ?_;refine cV ?_
     iterate 2 refine aR ?_
     refine de ?_
     iterate 2 refine aZ ?_
     refine xp rfl (cK rfl rfl x rfl rfl) ?_;refine xp rfl (az rfl hscell) ?_;refine af ?_;refine fF (fun hb=>?_) (fun hb=>?_)
     · subst hb;rw[CS hgl hbx] at hcon;refine af ?_;exact ih (n,_,td.dropLast,seen) ⟨eg,hcut,fun b hb=>hdo b (by rw[<-hb];exact hcb▸rfl),hs,hsl,hltd,⟨by show td.dropLast.length+rG ss seen<=n;omega,by show n<=_;omega,hgz⟩,hcon⟩
     · subst hb;rw[Fi hgl hbx hy] at hcon;have hpt:=yA ss seen x y hy hbx
       have hgne:¬gd=h.size:=fun k=>by
        rcases hdo gd rfl with k2|k2
        · rcases htl with k3|⟨b3,k3,k4⟩
          · rw[k3] at k2;cases k2
          · rw[k3] at k2;cases k2;omega
        · omega
       iterate 2 refine aR ?_
       refine de ?_
       iterate 2 refine aZ ?_
       refine xp rfl (cK rfl rfl x rfl rfl) ?_;refine aH rfl (bU H.KB rfl rfl rfl hscell hsnf) ?_;rintro _ g2 ⟨rfl,hg2⟩;have x2:Ext (fun b=>b=h.size) g g2:=by rw[hg2];exact Ext.dK _ _ _ rfl
       have hz2:=x2.size;have eg2:Ext (cu tb) h g2:=⟨by omega,fun b hb hn=>by rw[x2.block b (by omega) (by omega)];exact eg.block b hb hn⟩
       have hs2:aB g2 h.size 4 1 (.slice (some ⟨h.size,0,none⟩) ss.length ss.length) ss.length ((seen.set x true).map .bool):=by
        have k:=(hsow.set (i:=x) rfl hxl (.bool true)).own;rw[<-hg2] at k;rw[List.map_set];exact k
       have hcut2:aB g2 base 3 1 _ td.dropLast.length (td.dropLast.map dP):=aB.ext x2 hcut (fun b hb k=>hgne (by have:=hcb.symm.trans hb;cases this;exact k));have hn2:bM g2 O nb _ ss st:=hn.ext eg2 (fun k=>(hOt nb k.symm).2.1 rfl) (fun b hb k=>(hOt b k.symm).2.2 hb) (fun b _ k=>(hOt b k.symm).1) (fun _ _ k=>k);obtain⟨gs,cs,ws,hvs,hgs,hrow,hws⟩:=hn2.get hy;cases hvs;have hsl2:(seen.set x true).length=ss.length:=by simpa using hsl
       refine af ?_;refine xp rfl (az rfl (hn2.blk.cell (i:=0) rfl)) ?_;refine aZ ?_;refine xp rfl (cK rfl rfl x rfl rfl hxl) ?_;refine af ?_;refine xp rfl (az rfl (hrow 0 _ rfl)) ?_;refine af ?_;refine aP (fun hk=>?_) (fun hk=>?_)
       · rw[if_pos (by omega)] at hcon;obtain⟨wa,wn,wc,rfl,_⟩:=id hws;obtain⟨hwl,hwn,hwm⟩:=BM hws;rw[hdl] at hcut2;refine af ?_;refine xp rfl (az rfl (hn2.blk.cell (i:=0) rfl)) ?_;refine aZ ?_;refine xp rfl (cK rfl rfl x rfl rfl hxl) ?_;refine af ?_;refine xp rfl (az rfl (hrow 5 _ rfl)) ?_;refine xo rfl (aT.append underlying129 H.Mw rfl rfl hcut2 (by simp[hwl]) hwn (by intro u hu;simp at hu;obtain⟨j,_,rfl⟩:=hu;rfl) (by simp only[maxLen];omega) (by omega) (by omega)) ?_;rintro dv3 g3 ⟨hd3,ex3,-,ho3⟩;refine af ?_;have hz3:=ex3.size;rw[hcb] at ex3 ho3
         have hd3':cn dP g3 base 3 dv3 (td.dropLast++y.to):=by
          unfold cn;rw[List.length_append,hdl,hwl,List.map_append];exact hd3
         have hdo3:∀b,dv3.ownBlock=some b->tb=some b\/h1.size<=b:=fun b hb=>by
          rcases ho3 b hb with k|k
          · exact hdo b k
          · exact .inr (by omega)
         have eg3:Ext (cu tb) h g3:=⟨by omega,fun b hb hn=>by
          rw[ex3.block b (by omega) ?_]
          · exact eg2.block b hb hn
          · intro k;cases k
            rcases hdo gd rfl with k2|k2
            · exact hn k2.symm
            · omega⟩
         have hgood':∀j∈td.dropLast++y.to,j<ss.length:=fun j hj=>by
          rcases List.mem_append.1 hj with k|k
          · exact hltd j k
          · exact hgood y (List.mem_of_getElem? hy) j k
         exact ih (n,dv3,td.dropLast++y.to,seen.set x true) ⟨eg3,hd3',hdo3,aB.ext ex3 hs2 (fun b hb k=>by cases k;cases hb;exact hgne rfl),hsl2,hgood',⟨by show (td.dropLast++y.to).length+rG ss (seen.set x true)<=n;rw[List.length_append];omega,by show n<=_;omega,by show h1.size<=g3.size;omega⟩,hcon⟩
       · rw[if_neg (by omega)] at hcon;refine af ?_;exact ih (n,_,td.dropLast,seen.set x true) ⟨eg2,hcut2,fun b hb=>hdo b (by rw[<-hb];exact hcb▸rfl),hs2,hsl2,hltd,⟨by show td.dropLast.length+rG ss (seen.set x true)<=n;omega,by show n<=_;omega,by show h1.size<=g2.size;omega⟩,hcon⟩
theorem Ak {ss:List aX}(hn:bM h O nb v ss st) (hgood:Good ss) (hss:ss.length<=1000000) (hst:ss.length=0\/st<ss.length) (hpot:1+rG ss (List.replicate ss.length false)<=1000000) :
 av Tryz.prog 59 #[.pointer (some ⟨nb,0,none⟩)] h (bq fun r h'=>cn dP h' h.size 3 r (bX ss st)/\aq h h'):=by
 have hown:=hn.own;have hnlt:=hn.blk.lt;refine bP ?_;refine af ?_;refine xo rfl (aF rfl (oB hn)) ?_;rintro _ h0 ⟨rfl,hh0⟩;refine af ?_;subst hh0;refine aP (fun hz=>?_) (fun hz=>?_)
 · refine af ?_;refine bh ?_;rw[bX,if_pos hz];exact⟨_,rfl,cn.nil _ _ _ _,Ext.refl _ _⟩
 · have hn1:bM (h0.push (.cells #[.int .i64 (st:Nat)] 3)) (fun b=>O b\/b=h0.size) nb v ss st:=hn.ah (Ext.push _ _ _) (fun b hb k=>k.elim id (fun k=>by omega));have ho1:cn dP (h0.push (.cells #[.int .i64 (st:Nat)] 3)) h0.size 3 (.slice (some ⟨h0.size,0,none⟩) 1 1) [st]:=kW dP h0 3 [st] 1 rfl (by simp[maxLen]) h0.size (Nat.le_refl _) rfl;refine af ?_;refine xp rfl (az rfl (hn.blk.cell (i:=1) rfl)) ?_;refine xo rfl (jG [_]) ?_;rintro _ _ ⟨rfl,rfl⟩;refine xo rfl (aF rfl (qn (tb:=some h0.size) hn1 hgood hss ho1 rfl (by simp) (fun b hb=>by cases hb;exact⟨.inr rfl,by omega,fun k=>by have:=(hown _ k).2;omega⟩) (fun j hj=>by simp at hj;omega) hpot)) ?_;rintro _ h2 ⟨ho2,hx2⟩;refine af ?_;refine bh ?_;rw[bX,if_neg hz];have hps:(h0.push (.cells #[.int .i64 (st:Nat)] 3)).size=h0.size+1:=by simp
   refine⟨_,rfl,aB.lower ho2 (by omega),⟨by have:=hx2.size;omega,fun b hb _=>?_⟩⟩;rw[hx2.block b (by omega) (fun k=>by cases k;omega)];exact(Ext.push (fun _=>False) h0 _).block b hb (fun k=>k)
theorem wA {nv:Value}{ss:List aX}{now:List Nat}(hn:bM h O nb v ss st) (_hss:ss.length<=1000000) (hnow:aY iC h (fun _=>False) nv now) (hlt:∀j∈now,j<ss.length) (hnn:now.length<=1000000) :
 av Tryz.prog 62 #[.pointer (some ⟨nb,0,none⟩),nv] h (bq fun r h'=>r= .int .i64 (aV ss now)/\h'=h):=by
 obtain⟨css,hc1,hc2,hc3⟩:=id hn.row;obtain⟨va,vc,rfl,_⟩:=hc2.open;obtain⟨na,nn,nc,rfl,hnl,hnc,hnm,hget⟩:=id hnow;generalize htgt:qu ss now (-1)=tgt;refine bP ?_;refine af ?_;refine xo rfl (aF rfl (oB hn)) ?_;rintro _ h0 ⟨rfl,hh0⟩;refine af ?_;subst hh0;refine aP (fun hz=>?_) (fun hz=>?_)
 · refine af ?_;refine bh ?_;rw[aV,if_pos hz];exact⟨_,rfl,rfl,rfl⟩
 · refine af ?_;refine gJ (σ:=Nat×Int) (fun q=>[(5,.int .i64 q.2),(13,.int .i64 (q.1:Nat))]) (fun q h'=>h'=h0/\q.1<=nn/\qu ss (now.drop q.1) q.2=tgt) (fun q=>nn-q.1) ((0,-1)) ⟨rfl,Nat.zero_le _,htgt⟩ rfl ?_;rintro⟨i,b⟩ h1 ⟨rfl,hi,hcon⟩ ih
   try dsimp only
   dsimp only at hi hcon;refine af ?_;refine aP (fun hlti=>?_) (fun hlti=>?_)
   · obtain⟨j,hj⟩:∃j,now[i]? =some j:=⟨_,List.getElem?_eq_getElem (by omega)⟩
     obtain⟨bb,o,cs,ha,_,hrow,rfl⟩:=hget i j hj;have hjl:j<ss.length:=hlt j (List.mem_of_getElem? hj);obtain⟨y,hy⟩:∃y,ss[j]? =some y:=⟨_,List.getElem?_eq_getElem hjl⟩
     obtain⟨gs,cs,ws,hvs,hgs,hrw,hws⟩:=hn.get hy;cases hvs
     have hdr:now.drop i=j::now.drop (i+1):=by
      obtain⟨hi',rfl⟩:=List.getElem?_eq_some_iff.1 hj;exact List.drop_eq_getElem_cons hi'
     rw[hdr,qu,hy] at hcon;simp only at hcon
     iterate 4 refine aR ?_
     refine de ?_;refine xp rfl (cK rfl rfl i rfl ha) ?_;refine xp rfl (az rfl (hrow 0 _ rfl)) ?_;refine aZ ?_;refine cV ?_;refine aR ?_;refine dW [(54,.bool (qt y b))] rfl ?_ ?_
     · refine af ?_;refine RW.ck (d:=19) (b':=true) rfl (decide_eq_true (by omega)) ?_;refine af ?_;refine xp rfl (az rfl (hn.blk.cell (i:=0) rfl)) ?_;refine af ?_;refine RW.ck (d:=28) (b':=true) rfl (decide_eq_true (by omega)) ?_;refine af ?_;refine xp rfl (az rfl (hn.blk.cell (i:=0) rfl)) ?_;refine aZ ?_;refine xp rfl (cK rfl rfl j rfl rfl hjl) ?_;refine af ?_;refine xp rfl (az rfl (hrw 0 _ rfl)) ?_;refine af ?_;refine b9 39 (fun hk=>?_) (fun hk=>?_)
       · have hk':=of_decide_eq_true hk;refine af ?_;refine b9 42 (fun hb=>?_) (fun hb=>?_)
         · have hb':=of_decide_eq_true hb;refine af ?_;exact aA rfl ⟨ai rfl (by simp[qt];omega),sb rfl⟩
         · have hb':=of_decide_eq_false hb;refine af ?_;refine xp rfl (az rfl (hn.blk.cell (i:=0) rfl)) ?_;refine aZ ?_;refine xp rfl (cK rfl rfl j rfl rfl hjl) ?_;refine af ?_;refine xp rfl (az rfl (hrw 6 _ rfl)) ?_;refine af ?_;exact aA rfl ⟨ai rfl (by simp only[qt,decide_eq_decide];omega),sb rfl⟩
       · have hk':=of_decide_eq_false hk;refine af ?_;exact aA rfl ⟨ai rfl (by simp[qt];omega),sb rfl⟩
     · refine fF (fun hb=>?_) (fun hb=>?_)
       · rw[if_pos hb] at hcon;refine af ?_;refine xp rfl (az rfl (hn.blk.cell (i:=0) rfl)) ?_;refine aZ ?_;refine xp rfl (cK rfl rfl j rfl rfl hjl) ?_;refine af ?_;refine xp rfl (az rfl (hrw 6 _ rfl)) ?_;refine af ?_;exact ih (i+1,(y.rule:Int)) ⟨rfl,by show i+1<=nn;omega,hcon⟩
       · rw[if_neg (by rw[hb];decide)] at hcon;refine af ?_;exact ih (i+1,b) ⟨rfl,by show i+1<=nn;omega,hcon⟩
   · have hnil:now.drop i=[]:=List.drop_of_length_le (by omega);rw[hnil,qu] at hcon;refine af ?_;refine bh ?_;rw[aV,if_neg hz,htgt];exact⟨_,rfl,by rw[hcon];rfl,rfl⟩
theorem Ci {nv:Value}{ss:List aX}{now:List Nat}(c:UInt8) (hn:bM h O nb v ss st) (hgood:Good ss) (hss:ss.length<=1000000) (hnow:aY iC h (fun _=>False) nv now) (hlt:∀j∈now,j<ss.length) (hnn:now.length<=1000000)
 (hpot:(stepG ss c now []).length+rG ss (List.replicate ss.length false)<=1000000) :
 av Tryz.prog 61 #[.pointer (some ⟨nb,0,none⟩),nv,.int .u8 (c.toNat:Nat)] h (bq fun r h'=>cn dP h' h.size 3 r (cw ss c now)/\aq h h'):=by
 have hown:=hn.own;have hnlt:=hn.blk.lt;obtain⟨css,hc1,hc2,hc3⟩:=id hn.row;obtain⟨va,vc,rfl,_⟩:=hc2.open;obtain⟨na,nn,nc,rfl,hnl,hnc,hnm,hget⟩:=id hnow;generalize htgt:stepG ss c now []=tgt at *;refine bP ?_;refine af ?_;refine xo rfl (aF rfl (oB hn)) ?_;rintro _ h0 ⟨rfl,hh0⟩;refine af ?_;subst hh0;refine aP (fun hz=>?_) (fun hz=>?_)
 · refine af ?_;refine bh ?_;rw[cw,if_pos hz];exact⟨_,rfl,cn.nil _ _ _ _,Ext.refl _ _⟩
 · refine af ?_;refine gJ (σ:=Nat×Value×List Nat) (fun q=>[(7,q.2.1),(14,.int .i64 (q.1:Nat))]) (fun q h'=>aq h0 h'/\q.1<=nn/\cn dP h' h0.size 3 q.2.1 q.2.2/\(∀j∈q.2.2,j<ss.length)/\stepG ss c (now.drop q.1) q.2.2=tgt) (fun q=>nn-q.1) ((0,.slice none 0 0,[])) ⟨Ext.refl _ _,Nat.zero_le _,cn.nil _ _ _ _,(fun j hj=>by cases hj),htgt⟩ rfl ?_;rintro⟨i,ov,acc⟩ h1 ⟨e1,hi,ho,hal,hcon⟩ ih
   try dsimp only
   dsimp only at hi ho hal hcon;have hz1:=e1.size;have hn1:bM h1 O nb (.slice va ss.length vc) ss st:=hn.ah e1 (fun _ _ k=>k);have hacc:acc.length<=tgt.length:=by rw[<-hcon];exact qD _ _ _ _
   refine af ?_;refine aP (fun hlti=>?_) (fun hlti=>?_)
   · obtain⟨j,hj⟩:∃j,now[i]? =some j:=⟨_,List.getElem?_eq_getElem (by omega)⟩
     obtain⟨bb,o,cs,ha,_,hrow,rfl⟩:=hget i j hj;have hjl:j<ss.length:=hlt j (List.mem_of_getElem? hj);obtain⟨y,hy⟩:∃y,ss[j]? =some y:=⟨_,List.getElem?_eq_getElem hjl⟩
     obtain⟨gs,cs,ws,hvs,hgs,hrw,hws⟩:=hn1.get hy;cases hvs
     have hdr:now.drop i=j::now.drop (i+1):=by
      obtain⟨hi',rfl⟩:=List.getElem?_eq_some_iff.1 hj;exact List.drop_eq_getElem_cons hi'
     rw[hdr,stepG,hy] at hcon;simp only at hcon;have hrow1:Lw.rowAt h1 bb (o+i*1) [dP j]:=e1.rowAt (fun k=>k) hrow
     have hset:Lw.rowAt h1 gs (0+j*7+1) (uS y.set):=fun q u hu=>by
      have hq:(Ec y.kind y.set ws y.rule)[1+q]? =some u:=by
       match q with
       | 0=>exact hu
       | 1=>exact hu
       | 2=>exact hu
       | 3=>exact hu
       |q+4=>simp[uS] at hu
      have:=hrw (1+q) u hq
      rwa [<-Nat.add_assoc] at this
     iterate 4 refine aR ?_
     refine de ?_;refine xp rfl (cK rfl rfl i rfl ha) ?_;refine xp rfl (az rfl (hrow1 0 _ rfl)) ?_;refine aZ ?_;refine cV ?_;refine aR ?_;refine J0 (fun(_u:Unit) (h':aj)=>aq h1 h') (fun(_u:Unit)=>[(51,.bool (je y c))]) rfl ?_ ?_
     · refine af ?_;refine RW.ck (d:=20) (b':=true) rfl (decide_eq_true (by omega)) ?_;refine af ?_;refine xp rfl (az rfl (hn1.blk.cell (i:=0) rfl)) ?_;refine af ?_;refine RW.ck (d:=29) (b':=true) rfl (decide_eq_true (by omega)) ?_;refine af ?_;refine xp rfl (az rfl (hn1.blk.cell (i:=0) rfl)) ?_;refine aZ ?_;refine xp rfl (cK rfl rfl j rfl rfl hjl) ?_;refine af ?_;refine xp rfl (az rfl (hrw 0 _ rfl)) ?_;refine af ?_;refine b9 40 (fun hk=>?_) (fun hk=>?_)
       · have hk':=of_decide_eq_true hk;have hk2:y.kind=1:=by omega
         refine af ?_;refine xp rfl (az rfl (hn1.blk.cell (i:=0) rfl)) ?_;refine aZ ?_;refine xp rfl (cK rfl rfl j rfl rfl hjl) ?_;refine af ?_;refine xp rfl (bV rfl hset) ?_;refine af ?_;refine xo rfl (aF rfl (EX y.set c)) ?_;rintro _ h2 ⟨rfl,e2⟩;refine af ?_;exact lg () e2 ⟨ai rfl (by simp[je,hk2]),sb rfl⟩
       · have hk':=of_decide_eq_false hk;have hk2:¬y.kind=1:=by omega
         refine af ?_;exact lg () (Ext.refl _ _) ⟨ai rfl (by simp[je,hk2]),sb rfl⟩
     · rintro _ h2 e2;have e02:=e1.trans e2;have ho2:cn dP h2 h0.size 3 ov acc:=cn.ah ho e2;have hn2:bM h2 O nb _ ss st:=hn.ah e02 (fun _ _ k=>k);have hz2:=e02.size;refine fF (fun hb=>?_) (fun hb=>?_)
       · rw[if_pos hb] at hcon;have hacc2:(acc++y.to).length<=tgt.length:=by rw[<-hcon];exact qD _ _ _ _
         rw[List.length_append] at hacc2;obtain⟨gs,cs,ws,hvs,hgs,hrw2,hws2⟩:=hn2.get hy;cases hvs;obtain⟨wa,wn,wc,rfl,_⟩:=id hws2;obtain⟨hwl,hwn,hwm⟩:=BM hws2;refine af ?_;refine xp rfl (az rfl (hn2.blk.cell (i:=0) rfl)) ?_;refine aZ ?_;refine xp rfl (cK rfl rfl j rfl rfl hjl) ?_;refine af ?_;refine xp rfl (az rfl (hrw2 5 _ rfl)) ?_;refine xo rfl (aT.append underlying129 H.Mw rfl rfl ho2 (by simp[hwl]) hwn (by intro u hu;simp at hu;obtain⟨j,_,rfl⟩:=hu;rfl) (by simp only[maxLen];omega) (by omega) (by omega)) ?_;rintro ov3 h3 ⟨ho3,hx3,-,hv3⟩;refine af ?_
         have ho3':cn dP h3 h0.size 3 ov3 (acc++y.to):=by
          unfold cn;rw[List.length_append,hwl,List.map_append];exact ho3
         have e3:aq h0 h3:=cn.grown e02 ho2 (Nat.le_refl _) hx3
         have hal3:∀j∈acc++y.to,j<ss.length:=fun j hj=>by
          rcases List.mem_append.1 hj with k|k
          · exact hal j k
          · exact hgood y (List.mem_of_getElem? hy) j k
         exact ih (i+1,ov3,acc++y.to) ⟨e3,by show i+1<=nn;omega,ho3',hal3,hcon⟩
       · rw[if_neg (by rw[hb];decide)] at hcon;refine af ?_;exact ih (i+1,ov,acc) ⟨e02,by show i+1<=nn;omega,ho2,hal,hcon⟩
   · have hnil:now.drop i=[]:=List.drop_of_length_le (by omega);rw[hnil,stepG] at hcon;subst hcon;have hol:∀b,ov.ownBlock=some b->h0.size<=b/\b<h1.size:=fun b hb=>aB.lt ho hb
     have hn':bM h1 (fun b=>O b\/cu ov.ownBlock b) nb (.slice va ss.length vc) ss st:=hn.ah e1 (fun b hb k=>k.elim id (fun k=>by have:=(hol b k.symm).1;omega));refine af ?_;refine xo rfl (aF rfl (qn (tb:=ov.ownBlock) hn' hgood hss ho rfl (by omega) (fun b hb=>⟨.inr hb.symm,by have:=hol b hb;omega,fun k=>by have:=hol b hb;have:=(hown b k).2;omega⟩) hal hpot)) ?_;rintro _ h2 ⟨ho2,hx2⟩;refine af ?_;refine bh ?_;rw[cw,if_neg hz,htgt];refine⟨_,rfl,aB.lower ho2 (by omega),⟨by have:=hx2.size;omega,fun b hb _=>?_⟩⟩;rw[hx2.block b (by omega) (fun k=>by have:=hol b k.symm;omega)];exact e1.block b hb (fun k=>k)
theorem qv {α:Type}{e:gD α}{Q Q':Nat->Prop}{xs:List α}(k:aY e h Q v xs) (hq:∀b,Q' b->Q b):aY e h Q' v xs:=k.mv ⟨Nat.le_refl _,fun b _ hn=>⟨rfl,fun k=>hn (hq b k)⟩⟩
end
end Go.Proofs.YtdgckfkoihcmjaaGreatDoor
namespace Go.Proofs.YtdgckfkoihcmjaaGreatDoor
section
variable {fin:Nat->Prop}{n to i st:Nat}{w:By}{todo:List Nat}
inductive xK (A:By->Prop):By->Prop where
 |nil:xK A []
 |cons {u v:By}:A u->xK A v->xK A (u++v)
end
mutual
def Io:Nd->By->Prop
 |.mk k s kids=>fun w =>
  if k=1 then ∃c:UInt8,w=[c]/\s.testBit c.toNat=true
  else if k=2 then vH kids w
  else if k=3 then rf kids w
  else if k=6 then w=[]\/oW kids w
  else if k=4 then xK (oW kids) w
  else if k=5 then ∃u v,w=u++v/\oW kids u/\xK (oW kids) v
  else w=[]
def vH:List Nd->By->Prop
 | []=>fun w=>w=[]
 |x::r=>fun w=>∃u v,w=u++v/\Io x u/\vH r v
def rf:List Nd->By->Prop
 | []=>fun _=>False
 |x::r=>fun w=>Io x w\/rf r w
def oW:List Nd->By->Prop
 | []=>fun w=>w=[]
 |x::_=>fun w=>Io x w
end
section
variable {fin:Nat->Prop}{n to i st:Nat}{w:By}{todo:List Nat}
inductive Acc (F:List aX) (fin:Nat->Prop):Nat->Nat->By->Prop where
 |done {q:Nat}:fin q->Acc F fin 0 q []
 |eps {n q q':Nat}{x:aX}{w:By}:F[q]? =some x->x.kind=0->q'∈x.to->Acc F fin n q' w->Acc F fin (n+1) q w
 |eat {n q q':Nat}{x:aX}{c:UInt8}{w:By}:F[q]? =some x->x.kind=1->x.set.testBit c.toNat=true->q'∈x.to->Acc F fin n q' w->Acc F fin (n+1) q (c::w)
def kX (F:List aX) (fin:Nat->Prop):Prop:=∀q,fin q->∃x,F[q]? =some x/\x.kind=2
theorem Acc.fork {F:List aX}(hf:kX F fin){q:Nat}{x:aX}(hx:F[q]? =some x) (hk:x.kind=0) (h:Acc F fin n q w):∃m q',m<n/\q'∈x.to/\Acc F fin m q' w:=by
 cases h with
 |done hq=>obtain⟨y,hy,hk2⟩:=hf _ hq;rw[hx] at hy;cases hy;omega
 |eps hy _ hq h=>rw[hx] at hy;cases hy;exact⟨_,_,Nat.lt_succ_self _,hq,h⟩
 |eat hy hk1 _ _ _=>rw[hx] at hy;cases hy;omega
theorem Acc.Oq {F:List aX}(hf:kX F fin){q:Nat}{x:aX}(hx:F[q]? =some x) (hk:x.kind=1) (h:Acc F fin n q w):∃m q' c w',m<n/\w=c::w'/\x.set.testBit c.toNat=true/\q'∈x.to/\Acc F fin m q' w':=by
 cases h with
 |done hq=>obtain⟨y,hy,hk2⟩:=hf _ hq;rw[hx] at hy;cases hy;omega
 |eps hy hk1 _ _=>rw[hx] at hy;cases hy;omega
 |eat hy _ hc hq h=>rw[hx] at hy;cases hy;exact⟨_,_,_,_,Nat.lt_succ_self _,rfl,hc,hq,h⟩
def Splits (F:List aX) (fin:Nat->Prop) (b to:Nat) (A:By->Prop):Prop :=
 (∀n w,Acc F fin n b w->∃u v m,w=u++v/\A u/\m<=n/\Acc F fin m to v)/\(∀u v m,A u->Acc F fin m to v->∃n,Acc F fin n b (u++v))
def Fu (F ss':List aX) (lo:Nat):Prop:=∀i,lo<=i->i<ss'.length->F[i]? =ss'[i]?
theorem oA {F:List aX}:Splits F fin to to (fun w=>w=[]) :=
 ⟨fun n w h=>⟨[],w,n,rfl,rfl,Nat.le_refl _,h⟩,fun u v m hu h=>⟨m,by subst hu;exact h⟩⟩
theorem Al {F:List aX}(hf:kX F fin){first again:Nat}{A:By->Prop}{x:aX}(hx:F[again]? =some x) (hk:x.kind=0) (ht:x.to=[first,to]) (h:Splits F fin first again A):Splits F fin again to (xK A):=by
 constructor
 · intro n
   induction n using Nat.strongRecOn with
   |_ n ih =>
    intro w hw;obtain⟨m,q',hm,hq,hw'⟩:=hw.fork hf hx hk;rw[ht] at hq
    rcases List.mem_cons.1 hq with rfl|hq
    · obtain⟨u1,v1,m1,rfl,hu1,hm1,hv1⟩:=h.1 _ _ hw';obtain⟨u2,v2,m2,rfl,hu2,hm2,hv2⟩:=ih m1 (by omega) _ hv1;exact⟨u1++u2,v2,m2,by simp,.cons hu1 hu2,by omega,hv2⟩
    · have:q'=to:=by simpa using hq
      subst this;exact⟨[],w,m,rfl,.nil,by omega,hw'⟩
 · intro u v m hu hv
   induction hu with
   |nil=>exact⟨m+1,.eps hx hk (by rw[ht];simp) hv⟩
   |cons hA _ ih =>
    obtain⟨n,hn⟩:=ih;obtain⟨n',hn'⟩:=h.2 _ _ _ hA hn;exact⟨n'+1,.eps (q':=first) hx hk (by rw[ht];simp) (by rw[List.append_assoc];exact hn')⟩
theorem tB {F:List aX}{b c:Nat}{A B:By->Prop}(h1:Splits F fin b c A) (h2:Splits F fin c to B):Splits F fin b to (fun w=>∃u v,w=u++v/\A u/\B v):=by
 constructor
 · intro n w hw;obtain⟨u1,v1,m1,rfl,hu1,hm1,hv1⟩:=h1.1 _ _ hw;obtain⟨u2,v2,m2,rfl,hu2,hm2,hv2⟩:=h2.1 _ _ hv1;exact⟨u1++u2,v2,m2,by simp,⟨_,_,rfl,hu1,hu2⟩,by omega,hv2⟩
 · rintro u v m ⟨u1,u2,rfl,hA,hB⟩ hv;obtain⟨n,hn⟩:=h2.2 _ _ _ hB hv;obtain⟨n',hn'⟩:=h1.2 _ _ _ hA hn;exact⟨n',by rw[List.append_assoc];exact hn'⟩
end
mutual
theorem lF {F:List aX}{fin:Nat->Prop}(hf:kX F fin):∀(x:Nd) (ss:List aX) (to:Nat),Fu F (lay x ss to).1 ss.length->Splits F fin (lay x ss to).2 to (Io x)
 |.mk k s kids,ss,to,hs=>by
  rw[lay] at hs ⊢;unfold Io
  by_cases h1:k=1
  · simp only[if_pos h1] at hs ⊢;have hx:F[ss.length]? =some ⟨1,s,[to],0⟩:=by rw[hs _ (Nat.le_refl _) (by simp)];simp
    constructor
    · intro n w hw;obtain⟨m,q',c,w',hm,rfl,hc,hq,hw'⟩:=hw.Oq hf hx rfl;have:q'=to:=by simpa using hq
      subst this;exact⟨[c],w',m,rfl,⟨c,rfl,hc⟩,by omega,hw'⟩
    · rintro u v m ⟨c,rfl,hc⟩ hv;exact⟨m+1,.eat hx rfl hc (by simp) hv⟩
  · simp only[if_neg h1] at hs ⊢
    by_cases h2:k=2
    · simp only[if_pos h2] at hs ⊢;exact n7 hf kids ss to hs
    · simp only[if_neg h2] at hs ⊢
      by_cases h3:k=3
      · simp only[if_pos h3] at hs ⊢;have hl:=eX kids ss to;have hx:F[(aM kids ss to).1.length]? =some ⟨0,0,(aM kids ss to).2,0⟩:=by rw[hs _ (by omega) (by simp)];simp
        have ih:=n8 hf kids ss to (fun i h1 h2=>by rw[hs i h1 (by simp;omega),List.getElem?_append_left h2]);constructor
        · intro n w hw;obtain⟨m,q',hm,hq,hw'⟩:=hw.fork hf hx rfl;obtain⟨u,v,m',hu⟩:=ih.1 _ _ _ hq hw';exact⟨u,v,m',hu.1,hu.2.1,by omega,hu.2.2.2⟩
        · intro u v m hu hv;obtain⟨n,q',hq,hn⟩:=ih.2 _ _ _ hu hv;exact⟨n+1,.eps hx rfl hq hn⟩
      · simp only[if_neg h3] at hs ⊢
        by_cases h6:k=6
        · simp only[if_pos h6] at hs ⊢;have hl:=fW kids ss to;have hx:F[(bR kids ss to).1.length]? =some ⟨0,0,[(bR kids ss to).2,to],0⟩:=by rw[hs _ (by omega) (by simp)];simp
          have ih:=nZ hf kids ss to (fun i h1 h2=>by rw[hs i h1 (by simp;omega),List.getElem?_append_left h2]);constructor
          · intro n w hw;obtain⟨m,q',hm,hq,hw'⟩:=hw.fork hf hx rfl
            rcases List.mem_cons.1 hq with rfl|hq
            · obtain⟨u,v,m',h1,h2,h3,h4⟩:=ih.1 _ _ hw';exact⟨u,v,m',h1,.inr h2,by omega,h4⟩
            · have:q'=to:=by simpa using hq
              subst this;exact⟨[],w,m,rfl,.inl rfl,by omega,hw'⟩
          · rintro u v m (rfl|hu) hv
            · exact⟨m+1,.eps hx rfl (by simp) hv⟩
            · obtain⟨n,hn⟩:=ih.2 _ _ _ hu hv;exact⟨n+1,.eps hx rfl (by simp) hn⟩
        · simp only[if_neg h6] at hs ⊢
          by_cases h45:k=4\/k=5
          · simp only[if_pos h45] at hs ⊢;have hl:=fW kids (ss++[⟨0,0,[],0⟩]) ss.length;simp only[List.length_append,List.length_singleton] at hl
            have hx:F[ss.length]? =some ⟨0,0,[(bR kids (ss++[⟨0,0,[],0⟩]) ss.length).2,to],0⟩:=by
             rw[hs _ (Nat.le_refl _) (by simp;omega)];simp[List.getElem?_set];omega
            have ih:=nZ hf kids (ss++[⟨0,0,[],0⟩]) ss.length (fun i h1 h2=>by
             simp only[List.length_append,List.length_singleton] at h1;rw[hs i (by omega) (by simp;omega),List.getElem?_set_ne (by omega)])
            have hst:=Al hf hx rfl rfl ih
            by_cases h4:k=4
            · have h5:¬k=5:=by omega
              simp only[if_pos h4,if_neg h5];exact hst
            · have h5:k=5:=by omega
              simp only[if_neg h4,if_pos h5];exact tB ih hst
          · simp only[if_neg h45] at hs ⊢;have h4:¬k=4:=fun e=>h45 (.inl e)
            have h5:¬k=5:=fun e=>h45 (.inr e)
            simp only[if_neg h4,if_neg h5];exact oA
theorem n7 {F:List aX}{fin:Nat->Prop}(hf:kX F fin):∀(l:List Nd) (ss:List aX) (to:Nat),Fu F (bg l ss to).1 ss.length->Splits F fin (bg l ss to).2 to (vH l)
 | [],ss,to,hs=>by
  rw[bg];unfold vH;exact oA
 |x::r,ss,to,hs=>by
  rw[bg] at hs ⊢;unfold vH;have hl:=js r ss to;have hl2:=fK x (bg r ss to).1 (bg r ss to).2;have h2:=n7 hf r ss to (fun i h1 h2=>by rw[hs i h1 (by omega),lG x _ _ i h2]);have h1:=lF hf x (bg r ss to).1 (bg r ss to).2 (fun i h1 h2=>hs i (by omega) h2);exact tB h1 h2
theorem n8 {F:List aX}{fin:Nat->Prop}(hf:kX F fin):∀(l:List Nd) (ss:List aX) (to:Nat),Fu F (aM l ss to).1 ss.length ->
 (∀n q w,q∈(aM l ss to).2->Acc F fin n q w->∃u v m,w=u++v/\rf l u/\m<=n/\Acc F fin m to v)/\(∀u v m,rf l u->Acc F fin m to v->∃n q,q∈(aM l ss to).2/\Acc F fin n q (u++v))
 | [],ss,to,hs=>by
  rw[aM];unfold rf;exact⟨fun n q w h=>absurd h List.not_mem_nil,fun u v m h=>False.elim h⟩
 |x::r,ss,to,hs=>by
  rw[aM] at hs ⊢;unfold rf;have hl:=fK x ss to;have hl2:=eX r (lay x ss to).1 to;have h1:=lF hf x ss to (fun i h1 h2=>by rw[hs i h1 (by simp only;omega)];exact oH r _ _ i h2);have h2:=n8 hf r (lay x ss to).1 to (fun i h1 h2=>hs i (by omega) h2);constructor
  · intro n q w hq hw
    rcases List.mem_cons.1 hq with rfl|hq
    · obtain⟨u,v,m,a,b,c,d⟩:=h1.1 _ _ hw;exact⟨u,v,m,a,.inl b,c,d⟩
    · obtain⟨u,v,m,a,b,c,d⟩:=h2.1 _ _ _ hq hw;exact⟨u,v,m,a,.inr b,c,d⟩
  · rintro u v m (hu|hu) hv
    · obtain⟨n,hn⟩:=h1.2 _ _ _ hu hv;exact⟨n,_,List.mem_cons_self,hn⟩
    · obtain⟨n,q,hq,hn⟩:=h2.2 _ _ _ hu hv;exact⟨n,q,List.mem_cons_of_mem _ hq,hn⟩
theorem nZ {F:List aX}{fin:Nat->Prop}(hf:kX F fin):∀(l:List Nd) (ss:List aX) (to:Nat),Fu F (bR l ss to).1 ss.length->Splits F fin (bR l ss to).2 to (oW l)
 | [],ss,to,hs=>by
  rw[bR];unfold oW;exact oA
 |x::r,ss,to,hs=>by
  rw[bR] at hs ⊢;unfold oW;exact lF hf x ss to hs
end
section
variable {fin:Nat->Prop}{n to i st:Nat}{w:By}{todo:List Nat}
inductive Ig (ss:List aX):Nat->Nat->Prop where
 |refl (i:Nat):Ig ss i i
 |step {i j k:Nat}{x:aX}:ss[i]? =some x->x.kind=0->j∈x.to->Ig ss j k->Ig ss i k
theorem Ig.snoc {ss:List aX}{j k:Nat}{x:aX}(h:Ig ss i j) (hx:ss[j]? =some x) (hk:x.kind=0) (ht:k∈x.to):Ig ss i k:=by
 induction h with
 |refl=>exact .step hx hk ht (.refl _)
 |step a b c _ ih=>exact .step a b c (ih hx)
structure Ih (ss:List aX) (T todo:List Nat) (seen:List Bool):Prop where
 len:seen.length=ss.length
 inn:∀j∈todo,j<ss.length
 sound:∀i,(seen[i]? =some true\/i∈todo)->∃t∈T,Ig ss t i
 cl:∀(i:Nat) (x:aX),seen[i]? =some true->ss[i]? =some x->x.kind=0->∀j∈x.to,seen[j]? =some true\/j∈todo
 all:∀t∈T,seen[t]? =some true\/t∈todo
theorem CH {l:List Nat}(h:l.getLast? =some i):l=l.dropLast++[i]:=by
 obtain⟨h0,rfl⟩:=List.getLast?_eq_some_iff.1 h;simp
theorem qR {ss:List aX}{T:List Nat}(hg:Good ss):∀(n:Nat) (todo:List Nat) (seen:List Bool),todo.length+rG ss seen<=n->Ih ss T todo seen->Ih ss T [] (iJ ss n todo seen)
 | 0,todo,seen,hn,k=>by
  have:todo=[]:=List.length_eq_zero_iff.1 (by omega);subst this;exact k
 |n+1,todo,seen,hn,k=>by
  unfold iJ;split
  · rename_i h;have:todo=[]:=List.getLast?_eq_none_iff.1 h;subst this;exact k
  · rename_i i h;have hsp:=CH h;have hlen:todo.length=todo.dropLast.length+1:=by rw[hsp];simp
    have hi:i∈todo:=by rw[hsp];simp
    have hmem:∀j,j∈todo->j∈todo.dropLast\/j=i:=fun j hj=>by rw[hsp] at hj;simpa using hj
    have hsub:∀j,j∈todo.dropLast->j∈todo:=fun j hj=>by rw[hsp];simp[hj]
    split
    · rename_i hs;refine qR hg n _ _ (by omega) ⟨k.len,fun j hj=>k.inn j (hsub j hj),fun j hj=>k.sound j (hj.imp id (hsub j)),fun j x a b c d e=>?_,fun t ht=>?_⟩
      · rcases k.cl j x a b c d e with h1|h1
        · exact .inl h1
        · rcases hmem d h1 with h2|rfl
          · exact .inr h2
          · exact .inl hs
      · rcases k.all t ht with h1|h1
        · exact .inl h1
        · rcases hmem t h1 with h2|rfl
          · exact .inr h2
          · exact .inl hs
    · rename_i hs;have hil:=k.inn i hi;obtain⟨x,hx⟩:∃x,ss[i]? =some x:=⟨_,List.getElem?_eq_getElem hil⟩
      have hf:seen[i]? =some false:=by
       obtain⟨b,hb⟩:∃b,seen[i]? =some b:=⟨_,List.getElem?_eq_getElem (by rw[k.len];exact hil)⟩
       cases b
       · exact hb
       · exact absurd hb hs
      have hp:=yA ss seen i x hx hf;have hself:(seen.set i true)[i]? =some true:=by rw[List.getElem?_set_self (by rw[k.len];exact hil)]
      have hset:∀j,seen[j]? =some true->(seen.set i true)[j]? =some true:=fun j hj=>by
       by_cases e:i=j
       · subst e;exact hself
       · rw[List.getElem?_set_ne e];exact hj
      have hget:∀j,(seen.set i true)[j]? =some true->j=i\/seen[j]? =some true:=fun j hj=>by
       by_cases e:i=j
       · exact .inl e.symm
       · rw[List.getElem?_set_ne e] at hj;exact .inr hj
      rw[hx];simp only;obtain⟨t0,Lu,he0⟩:=k.sound i (.inr hi);have hxm:x∈ss:=List.mem_of_getElem? hx;generalize hnew:(if x.kind=0 then todo.dropLast++x.to else todo.dropLast)=new
      have hin:∀j,j∈new->j∈todo.dropLast\/(x.kind=0/\j∈x.to):=fun j hj=>by
       subst hnew;split at hj
       · rename_i hk
         rcases List.mem_append.1 hj with h1|h1
         · exact .inl h1
         · exact .inr ⟨hk,h1⟩
       · exact .inl hj
      have hold:∀j,j∈todo.dropLast->j∈new:=fun j hj=>by
       subst hnew;split
       · exact List.mem_append_left _ hj
       · exact hj
      have hbig:new.length<=todo.dropLast.length+x.to.length:=by
       subst hnew;split<;>simp
      refine qR hg n _ _ (by omega) ⟨by rw[List.length_set];exact k.len,fun j hj=>?_,fun j hj=>?_,fun j y a b c d e=>?_,fun t ht=>?_⟩
      · rcases hin j hj with h1|⟨_,h1⟩
        · exact k.inn j (hsub j h1)
        · exact hg x hxm j h1
      · rcases hj with h1|h1
        · rcases hget j h1 with rfl|h2
          · exact⟨t0,Lu,he0⟩
          · exact k.sound j (.inl h2)
        · rcases hin j h1 with h2|⟨hk,h2⟩
          · exact k.sound j (.inr (hsub j h2))
          · exact⟨t0,Lu,he0.snoc hx hk h2⟩
      · rcases hget j a with rfl|a
        · rw[hx] at b;cases b;refine .inr ?_;rw[if_pos c] at hnew;subst hnew;exact List.mem_append_right _ e
        · rcases k.cl j y a b c d e with h1|h1
          · exact .inl (hset d h1)
          · rcases hmem d h1 with h2|rfl
            · exact .inr (hold d h2)
            · exact .inl hself
      · rcases k.all t ht with h1|h1
        · exact .inl (hset t h1)
        · rcases hmem t h1 with h2|rfl
          · exact .inr (hold t h2)
          · exact .inl hself
theorem oS {ss:List aX}(hg:Good ss) (ht:∀j∈todo,j<ss.length) (j:Nat):j∈closed ss todo↔∃x,ss[j]? =some x/\x.kind≠0/\∃t∈todo,Ig ss t j:=by
 unfold closed;split
 · rename_i h;have:todo=[]:=List.length_eq_zero_iff.1 h;subst this;simp
 · have h0:∀i:Nat,(List.replicate ss.length false)[i]? ≠some true:=fun i hi=>by rw[List.getElem?_replicate] at hi;split at hi<;>cases hi
   have hi0:Ih ss todo todo (List.replicate ss.length false):=⟨by simp,ht,fun i hi=>hi.elim (fun hi=>absurd hi (h0 i)) fun hi=>⟨i,hi,.refl i⟩,fun i x hi=>absurd hi (h0 i),fun t h=>.inr h⟩
   have hi:=qR hg (todo.length+rG ss (List.replicate ss.length false)) todo _ (Nat.le_refl _) hi0;generalize iJ ss (todo.length+rG ss (List.replicate ss.length false)) todo (List.replicate ss.length false)=out at hi;simp only[List.mem_filter,List.mem_range,Bool.and_eq_true,bne_iff_ne,ne_eq];constructor
   · rintro⟨hj,h1,h2⟩;obtain⟨x,hx⟩:∃x,ss[j]? =some x:=⟨_,List.getElem?_eq_getElem hj⟩
     rw[hx] at h2;have h1:out[j]? =some true:=by simpa using h1
     exact⟨x,hx,by simpa using h2,hi.sound j (.inl h1)⟩
   · rintro⟨x,hx,hk,t,ht',he⟩
     have key:∀a b,Ig ss a b->out[a]? =some true->out[b]? =some true:=by
      intro a b he
      induction he with
      |refl=>exact id
      |step hy hk hm _ ih =>
       intro ha;refine ih ?_
       rcases hi.cl _ _ ha hy hk _ hm with h1|h1
       · exact h1
       · cases h1
     have h1:=key _ _ he (by
      rcases hi.all t ht' with h1|h1
      · exact h1
      · cases h1)
     refine⟨(List.getElem?_eq_some_iff.1 hx).1,by rw[h1];rfl,by rw[hx];simpa using hk⟩
theorem Acc.through {ss:List aX}{j:Nat}(h:Ig ss i j) (k:Acc ss fin n j w):∃m,Acc ss fin m i w:=by
 induction h with
 |refl=>exact⟨n,k⟩
 |step a b c _ ih=>obtain⟨m,hm⟩:=ih k;exact⟨m+1,.eps a b c hm⟩
theorem Acc.stop {ss:List aX}(hf:kX ss fin) (k:Acc ss fin n i w):∃j x,Ig ss i j/\ss[j]? =some x/\x.kind≠0/\∃m,Acc ss fin m j w:=by
 induction k with
 |done hq=>obtain⟨x,hx,hk⟩:=hf _ hq;exact⟨_,x,.refl _,hx,by omega,_,.done hq⟩
 |eps a b c _ ih=>obtain⟨j,x,he,hr⟩:=ih;exact⟨j,x,.step a b c he,hr⟩
 |eat a b c d e _=>exact⟨_,_,.refl _,a,by omega,_,.eat a b c d e⟩
def wB (ss:List aX) (fin:Nat->Prop) (T:List Nat) (w:By):Prop:=∃j∈T,∃n,Acc ss fin n j w
theorem uX {ss:List aX}(hf:kX ss fin) (hg:Good ss) (ht:∀j∈todo,j<ss.length) (w:By):wB ss fin (closed ss todo) w↔wB ss fin todo w:=by
 constructor
 · rintro⟨j,hj,n,h⟩;obtain⟨x,hx,hk,t,ht',he⟩:=(oS hg ht j).1 hj;exact⟨t,ht',h.through he⟩
 · rintro⟨t,ht',n,h⟩;obtain⟨j,x,he,hx,hk,hm⟩:=h.stop hf;exact⟨j,(oS hg ht j).2 ⟨x,hx,hk,t,ht',he⟩,hm⟩
theorem nA (ss:List aX) (c:UInt8) (k:Nat):∀(l a:List Nat),k∈stepG ss c l a↔k∈a\/∃j∈l,∃x,ss[j]? =some x/\je x c=true/\k∈x.to
 | [],a=>by simp[stepG]
 |j::r,a=>by
  rw[stepG,nA ss c k r];cases hx:ss[j]? with
  |none=>simp[hx]
  |some x =>
   simp only;cases ho:je x c with
   |true=>simp[hx,ho,or_assoc]
   |false=>simp[hx,ho]
def Flat (ss:List aX) (T:List Nat):Prop:=∀j∈T,∃x,ss[j]? =some x/\x.kind≠0
theorem mU {ss:List aX}(hg:Good ss) (ht:∀j∈todo,j<ss.length):Flat ss (closed ss todo):=fun j hj=>by
 obtain⟨x,hx,hk,_⟩:=(oS hg ht j).1 hj;exact⟨x,hx,hk⟩
theorem Aj {ss:List aX}(hg:Good ss) (c:UInt8) (T:List Nat):∀j∈stepG ss c T [],j<ss.length:=fun j hj=>by
 rcases (nA ss c j T []).1 hj with h|⟨i,_,x,hx,_,hm⟩
 · cases h
 · exact hg x (List.mem_of_getElem? hx) j hm
theorem tA {ss:List aX}(hg:Good ss) (c:UInt8) (T:List Nat):Flat ss (cw ss c T):=by
 unfold cw;split
 · intro j hj;cases hj
 · exact mU hg (Aj hg c T)
theorem Ea {ss:List aX}(hf:kX ss fin) (hg:Good ss){T:List Nat}(hT:Flat ss T) (c:UInt8) (w:By):wB ss fin (cw ss c T) w↔wB ss fin T (c::w):=by
 unfold cw;split
 · rename_i h0;constructor
   · rintro⟨j,hj,_⟩;cases hj
   · rintro⟨j,hj,_⟩;obtain⟨x,hx,_⟩:=hT j hj;have:=(List.getElem?_eq_some_iff.1 hx).1;omega
 · rw[uX hf hg (Aj hg c T)];constructor
   · rintro⟨k,hk,n,h⟩
     rcases (nA ss c k T []).1 hk with h1|⟨j,hj,x,hx,ho,hm⟩
     · cases h1
     · simp only[je,Bool.and_eq_true,decide_eq_true_eq] at ho;exact⟨j,hj,n+1,.eat hx ho.1 ho.2 hm h⟩
   · rintro⟨j,hj,n,h⟩;obtain⟨x,hx,hk⟩:=hT j hj;cases h with
     |eps hy hk0 _ _=>rw[hx] at hy;cases hy;exact absurd hk0 hk
     |eat hy hk1 hc hm h=>exact⟨_,(nA ss c _ T []).2 (.inr ⟨j,hj,_,hy,by simp[je,hk1,hc],hm⟩),_,h⟩
def lZ (ss:List aX) (r:Nat) (q:Nat):Prop:=∃x,ss[q]? =some x/\x.kind=2/\x.rule=r
theorem sU (ss:List aX) (r:Nat):kX ss (lZ ss r):=fun _ ⟨x,hx,hk,_⟩=>⟨x,hx,hk⟩
theorem HZ {ss:List aX}{r:Nat}{T:List Nat}(hT:Flat ss T):wB ss (lZ ss r) T []↔∃j∈T,lZ ss r j:=by
 constructor
 · rintro⟨j,hj,n,h⟩;obtain⟨x,hx,hk⟩:=hT j hj;cases h with
   |done hq=>exact⟨j,hj,hq⟩
   |eps hy hk0 _ _=>rw[hx] at hy;cases hy;exact absurd hk0 hk
 · rintro⟨j,hj,hq⟩;exact⟨j,hj,0,.done hq⟩
def nr (p:Nat->Prop) (r:Int):Prop:=(r= -1/\∀i,¬p i)\/∃n:Nat,r=n/\p n/\∀i,p i->n<=i
theorem vC (ss:List aX):∀(l:List Nat) (b:Int) (p:Nat->Prop),nr p b->nr (fun r=>p r\/∃j∈l,lZ ss r j) (qu ss l b)
 | [],b,p,h=>by
  rw[qu]
  rcases h with ⟨rfl,h1⟩|⟨n,rfl,h1,h2⟩
  · exact .inl ⟨rfl,fun i h=>by rcases h with h|⟨_,h,_⟩;exact h1 i h;cases h⟩
  · exact .inr ⟨n,rfl,.inl h1,fun i h=>by rcases h with h|⟨_,h,_⟩;exact h2 i h;cases h⟩
 |j::l,b,p,h=>by
  rw[qu]
  have key:∀b',nr (fun r=>p r\/lZ ss r j) b'->nr (fun r=>p r\/∃k∈j::l,lZ ss r k) (qu ss l b'):=fun b' hb'=>by
   have:=vC ss l b' _ hb'
   have e:(fun r=>(p r\/lZ ss r j)\/∃k∈l,lZ ss r k)=(fun r=>p r\/∃k∈j::l,lZ ss r k):=by
    funext r;simp[or_assoc]
   rwa [e] at this
  have no:(∀r,¬lZ ss r j)->nr (fun r=>p r\/lZ ss r j) b:=fun hno=>by
   have e:(fun r=>p r\/lZ ss r j)=p:=by funext r;simp[hno r]
   rw[e];exact h
  cases hx:ss[j]? with
  |none=>exact key b (no fun r ⟨x,hx',_⟩=>by rw[hx] at hx';cases hx')
  |some x =>
   simp only
   by_cases hk:x.kind=2
   · have hfin:∀r,lZ ss r j↔x.rule=r:=fun r=>⟨fun⟨y,hy,_,hr⟩=>by rw[hx] at hy;cases hy;exact hr,fun hr=>⟨x,hx,hk,hr⟩⟩
     by_cases hb:qt x b=true
     · rw[if_pos hb];refine key _ (.inr ⟨x.rule,rfl,.inr ((hfin _).2 rfl),fun i hi=>?_⟩);simp only[qt,decide_eq_true_eq] at hb
       rcases hi with hi|hi
       · rcases h with ⟨rfl,h1⟩|⟨n,rfl,h1,h2⟩
         · exact absurd hi (h1 i)
         · have:=h2 i hi;omega
       · rw[(hfin i).1 hi];exact Nat.le_refl _
     · rw[if_neg hb];refine key _ ?_;simp only[qt,decide_eq_true_eq] at hb
       rcases h with ⟨rfl,h1⟩|⟨n,rfl,h1,h2⟩
       · exact absurd ⟨hk,.inl (by decide)⟩ hb
       · refine .inr ⟨n,rfl,.inl h1,fun i hi=>?_⟩
         rcases hi with hi|hi
         · exact h2 i hi
         · have:=(hfin i).1 hi;omega
   · rw[if_neg (by simp[qt,hk])];exact key b (no fun r ⟨y,hy,hk2,_⟩=>by rw[hx] at hy;cases hy;exact hk hk2)
def jZ (ss:List aX) (st:Nat) (w:By):List Nat:=w.foldl (fun T c=>cw ss c T) (bX ss st)
theorem Ei {ss:List aX}(hg:Good ss) (hst:st<ss.length) (w:By):Flat ss (jZ ss st w):=by
 have h0:Flat ss (bX ss st):=by
  unfold bX;split
  · intro j hj;cases hj
  · exact mU hg (fun j hj=>by simp at hj;omega)
 unfold jZ;generalize bX ss st=T at h0
 induction w generalizing T with
 |nil=>exact h0
 |cons c w ih=>exact ih _ (tA hg c T)
theorem Gk {ss:List aX}(hf:kX ss fin) (hg:Good ss) (hst:st<ss.length) (w v:By):wB ss fin (jZ ss st w) v↔∃n,Acc ss fin n st (w++v):=by
 have h0:Flat ss (bX ss st)/\∀v,wB ss fin (bX ss st) v↔∃n,Acc ss fin n st v:=by
  unfold bX;rw[if_neg (by omega)];have ht:∀j∈[st],j<ss.length:=fun j hj=>by simp at hj;omega
  refine⟨mU hg ht,fun v=>?_⟩;rw[uX hf hg ht];simp[wB]
 unfold jZ
 have key:∀(w:By) (T:List Nat),Flat ss T->(wB ss fin (w.foldl (fun T c=>cw ss c T) T) v↔wB ss fin T (w++v)):=by
  intro w
  induction w with
  |nil=>intro T _;rfl
  |cons c w ih =>
   intro T hT;rw[List.foldl_cons,ih _ (tA hg c T),Ea hf hg hT];rfl
 rw[key w _ h0.1,h0.2]
theorem wz {ss:List aX}(hg:Good ss) (hst:st<ss.length) (w:By):nr (fun r=>∃n,Acc ss (lZ ss r) n st w) (aV ss (jZ ss st w)):=by
 unfold aV;rw[if_neg (by omega)];have h:=vC ss (jZ ss st w) (-1) (fun _=>False) (.inl ⟨rfl,fun _ h=>h⟩)
 have e:(fun r=>False\/∃j∈jZ ss st w,lZ ss r j)=(fun r=>∃n,Acc ss (lZ ss r) n st w):=by
  funext r
  have:=Gk (sU ss r) hg hst w [];rw[HZ (Ei hg hst w),List.append_nil] at this;simpa using this
 rw[e] at h;exact h
def eP (ss:List aX):Nat:=(ss.map fun x=>x.to.length+1).sum
theorem gj (a b:List aX):eP (a++b)=eP a+eP b:=by simp[eP]
theorem Ac:∀(ss:List aX) (i:Nat) (y x:aX),ss[i]? =some y->eP (ss.set i x)+y.to.length=eP ss+x.to.length
 | [],i,y,x,h=>by simp at h
 |z::r,0,y,x,h=>by simp at h;subst h;simp[eP];omega
 |z::r,i+1,y,x,h=>by have:=Ac r i y x (by simpa using h);simp[eP] at *;omega
theorem Gr:∀(ss:List aX) (seen:List Bool),rG ss seen<=eP ss
 | [],_=>by simp[rG]
 |x::r,[]=>by simp[rG]
 |x::r,b::s=>by
  have:=Gr r s;simp only[rG,eP,List.map_cons,List.sum_cons] at *;split<;>omega
end
mutual
theorem sS:∀(x:Nd) (ss:List aX) (to:Nat),eP (lay x ss to).1+1<=eP ss+4*nN x
 |.mk k s kids,ss,to=>by
  rw[lay];simp only[nN];split
  · rw[gj];simp[eP];omega
  · split
    · have:=uq kids ss to;omega
    · split
      · have:=uu kids ss to;have hl:=mK kids ss to;simp only[gj];simp[eP] at *;omega
      · split
        · have:=uo kids ss to;simp only[gj];simp[eP] at *;omega
        · split
          · have:=uo kids (ss++[⟨0,0,[],0⟩]) ss.length;have h2:=Ac (bR kids (ss++[⟨0,0,[],0⟩]) ss.length).1 ss.length ⟨0,0,[],0⟩ ⟨0,0,[(bR kids (ss++[⟨0,0,[],0⟩]) ss.length).2,to],0⟩ (by rw[oG kids _ _ _ (by simp)];simp);rw[gj] at this;simp[eP] at *;omega
          · simp;omega
theorem uq:∀(l:List Nd) (ss:List aX) (to:Nat),eP (bg l ss to).1<=eP ss+4*gr l
 | [],ss,to=>by simp[bg]
 |x::r,ss,to=>by
  rw[bg];have h1:=uq r ss to;have h2:=sS x (bg r ss to).1 (bg r ss to).2;simp only[gr];omega
theorem uu:∀(l:List Nd) (ss:List aX) (to:Nat),eP (aM l ss to).1+l.length<=eP ss+4*gr l
 | [],ss,to=>by simp[aM]
 |x::r,ss,to=>by
  rw[aM];have h1:=sS x ss to;have h2:=uu r (lay x ss to).1 to;simp only[gr,List.length_cons];omega
theorem uo:∀(l:List Nd) (ss:List aX) (to:Nat),eP (bR l ss to).1<=eP ss+4*gr l
 | [],ss,to=>by simp[bR]
 |x::r,ss,to=>by
  rw[bR];have h1:=sS x ss to;simp only[gr];omega
end
section
variable {fin:Nat->Prop}{n to i st:Nat}{w:By}{todo:List Nat}
theorem Good.append {a b:List aX}(ha:Good a) (hb:∀x∈b,∀j∈x.to,j<(a++b).length):Good (a++b):=fun x hx j hj=>by
 rcases List.mem_append.1 hx with h|h
 · have:=ha x h j hj;simp;omega
 · exact hb x h j hj
theorem Good.set {a:List aX}(ha:Good a){i:Nat}{y:aX}(hy:∀j∈y.to,j<a.length):Good (a.set i y):=fun x hx j hj=>by
 rw[List.length_set]
 rcases List.mem_or_eq_of_mem_set hx with h|rfl
 · exact ha x h j hj
 · exact hy j hj
end
mutual
theorem pW:∀(x:Nd) (ss:List aX) (to:Nat),Good ss->to<ss.length->Good (lay x ss to).1/\(lay x ss to).2<(lay x ss to).1.length
 |.mk k s kids,ss,to,hg,ht=>by
  rw[lay];split
  · exact⟨hg.append (by intro x hx j hj;simp at hx;subst hx;simp at hj;subst hj;simp;omega),by simp⟩
  · split
    · exact rK kids ss to hg ht
    · split
      · have h:=rN kids ss to hg ht;exact⟨h.1.append (by intro x hx j hj;simp at hx;subst hx;have:=h.2 j hj;simp;omega),by simp⟩
      · split
        · have h:=rJ kids ss to hg ht;have hl:=fW kids ss to;exact⟨h.1.append (by intro x hx j hj;simp at hx;subst hx;simp at hj;simp;rcases hj with rfl|rfl<;>omega),by simp⟩
        · split
          · have h:=rJ kids (ss++[⟨0,0,[],0⟩]) ss.length (hg.append (by intro x hx j hj;simp at hx;subst hx;cases hj)) (by simp);have hl:=fW kids (ss++[⟨0,0,[],0⟩]) ss.length;simp only[List.length_append,List.length_singleton] at hl;refine⟨h.1.set (by intro j hj;simp at hj;rcases hj with rfl|rfl;exact h.2;omega),?_⟩;simp only[List.length_set];split
            · exact h.2
            · omega
          · exact⟨hg,ht⟩
theorem rK:∀(l:List Nd) (ss:List aX) (to:Nat),Good ss->to<ss.length->Good (bg l ss to).1/\(bg l ss to).2<(bg l ss to).1.length
 | [],ss,to,hg,ht=>by rw[bg];exact⟨hg,ht⟩
 |x::r,ss,to,hg,ht=>by
  rw[bg];have h1:=rK r ss to hg ht;exact pW x _ _ h1.1 h1.2
theorem rN:∀(l:List Nd) (ss:List aX) (to:Nat),Good ss->to<ss.length->Good (aM l ss to).1/\∀j∈(aM l ss to).2,j<(aM l ss to).1.length
 | [],ss,to,hg,ht=>by rw[aM];exact⟨hg,fun j hj=>by cases hj⟩
 |x::r,ss,to,hg,ht=>by
  rw[aM];have h1:=pW x ss to hg ht;have hl:=fK x ss to;have h2:=rN r (lay x ss to).1 to h1.1 (by omega);have hl2:=eX r (lay x ss to).1 to;refine⟨h2.1,fun j hj=>?_⟩
  rcases List.mem_cons.1 hj with rfl|hj
  · simp only;omega
  · exact h2.2 j hj
theorem rJ:∀(l:List Nd) (ss:List aX) (to:Nat),Good ss->to<ss.length->Good (bR l ss to).1/\(bR l ss to).2<(bR l ss to).1.length
 | [],ss,to,hg,ht=>by rw[bR];exact⟨hg,ht⟩
 |x::r,ss,to,hg,ht=>by rw[bR];exact pW x ss to hg ht
end
section
variable {fin:Nat->Prop}{n to i st:Nat}{w:By}{todo:List Nat}
structure Nh (i:Nat) (rules:List By) (ss:List aX) (t:List Nat) (ss':List aX) (t':List Nat):Prop where
 pre:∀j,j<ss.length->ss'[j]? =ss[j]?
 len:ss.length<=ss'.length/\ss'.length<=ss.length+402*rules.length
 tot:eP ss'<=eP ss+1605*rules.length
 good:Good ss->(∀j∈t,j<ss.length)->Good ss'/\∀j∈t',j<ss'.length
 starts:∃t2,t'=t++t2/\t2.length=rules.length/\∀k s,rules[k]? =some s->(bz s).2=0/\∃a b,t2[k]? =some b/\ss.length<=a/\ss'[a]? =some ⟨2,0,[],i+k⟩/\∀F fin,Fu F ss' ss.length->kX F fin->Splits F fin b a (Io (bz s).1)
theorem tZ:∀(rules:List By) (i:Nat) (ss:List aX) (t:List Nat) (ss':List aX) (t':List Nat),kN i rules ss t= .inr (ss',t')->Nh i rules ss t ss' t'
 | [],i,ss,t,ss',t',h=>by
  rw[kN] at h;cases h;exact⟨fun _ _=>rfl,by simp,by simp,fun a b=>⟨a,b⟩,[],by simp,rfl,fun k s h=>by simp at h⟩
 |s::r,i,ss,t,ss',t',h=>by
  rw[kN] at h;split at h
  · cases h
  · rename_i he;have he:(bz s).2=0:=by simpa using he
    have hsm:=pK he;have ih:=tZ r _ _ _ _ _ h;have hpre:=lG (bz s).1 (ss++[⟨2,0,[],i⟩]) ss.length;have hlen:=fK (bz s).1 (ss++[⟨2,0,[],i⟩]) ss.length;have htot:=sS (bz s).1 (ss++[⟨2,0,[],i⟩]) ss.length;simp only[List.length_append,List.length_singleton,gj] at hpre hlen htot;have hL:eP [(⟨2,0,[],i⟩:aX)]=1:=by simp[eP]
    generalize hly:lay (bz s).1 (ss++[⟨2,0,[],i⟩]) ss.length=ly at *;obtain⟨t2,uC,htl,hst⟩:=ih.starts;refine⟨fun j hj=>?_,⟨?_,?_⟩,?_,fun hg ht=>?_,ly.2::t2,by simp[uC],by simp[htl],fun k s' hk=>?_⟩
    · rw[ih.pre j (by omega),hpre j (by omega),List.getElem?_append_left hj]
    · have:=ih.len.1;omega
    · have:=ih.len.2;simp only[List.length_cons];omega
    · have:=ih.tot;simp only[List.length_cons];omega
    · have hgl:=pW (bz s).1 (ss++[⟨2,0,[],i⟩]) ss.length (hg.append (by intro x hx j hj;simp at hx;subst hx;cases hj)) (by simp);rw[hly] at hgl
      exact ih.good hgl.1 (fun j hj=>by
       rcases List.mem_append.1 hj with h1|h1
       · have:=ht j h1;omega
       · have:j=ly.2:=by simpa using h1
         rw[this];exact hgl.2)
    · cases k with
      |zero =>
       simp at hk;subst hk;refine⟨he,ss.length,ly.2,rfl,Nat.le_refl _,?_,fun F fin hS hF=>?_⟩
       · rw[ih.pre _ (by omega),hpre _ (by omega)];simp
       · have:=lF hF (bz s).1 (ss++[⟨2,0,[],i⟩]) ss.length (fun j h1 h2=>by
          rw[hly] at h2 ⊢;simp only[List.length_append,List.length_singleton] at h1;rw[hS j (by omega) (by have:=ih.len.1;omega)];exact ih.pre j h2)
         rwa [hly] at this
      |succ k =>
       obtain⟨h0,a,b,hb,hla,ha,hsp⟩:=hst k s' (by simpa using hk);exact⟨h0,a,b,by simpa using hb,by omega,by rw[ha];simp;omega,fun F fin hS hF=>hsp F fin (fun j h1 h2=>hS j (by omega) h2) hF⟩
structure Made (rules:List By) (ss:List aX) (st:Nat):Prop where
 good:Good ss
 stl:st<ss.length
 len:ss.length<=30000
 tot:eP ss<=110000
 num:rules.length<=64
 lng:∀r w,(∃n,Acc ss (lZ ss r) n st w)↔∃s,rules[r]? =some s/\Io (bz s).1 w
theorem fU {rules:List By}{ss:List aX}(h:eG rules= .inr (ss,st)):Made rules ss st:=by
 unfold eG at h;split at h
 · cases h
 · rename_i hn;split at h
   · cases h
   · rename_i ss0 t hm;split at h
     · cases h
     · cases h;have k:=tZ _ _ _ _ _ _ hm;obtain⟨t2,uC,htl,hst⟩:=k.starts;have ht:t=t2:=by simpa using uC
       subst ht;have hl:=k.len.2;have htot:=k.tot;have hgd:=k.good (by intro x hx;cases hx) (by intro j hj;cases hj);simp only[List.length_nil] at hl;have h0:eP ([]:List aX)=0:=rfl;have hF:(ss0++[⟨0,0,t,0⟩])[ss0.length]? =some ⟨0,0,t,0⟩:=by simp
       have hS:Fu (ss0++[⟨0,0,t,0⟩]) ss0 ([]:List aX).length:=fun i _ h2=>List.getElem?_append_left h2
       refine⟨hgd.1.append (by intro x hx j hj;simp at hx;subst hx;have:=hgd.2 j hj;simp;omega),by simp,by simp;omega,?_,by omega,fun r w=>?_⟩
       · have hq:eP [(⟨0,0,t,0⟩:aX)]=t.length+1:=by simp[eP]
         rw[gj,hq];omega
       · constructor
         · rintro⟨n,hw⟩;obtain⟨m,q',_,hq,hw'⟩:=hw.fork (sU _ r) hF rfl;obtain⟨k',hk'⟩:=List.getElem?_of_mem hq;have hkl:k'<t.length:=(List.getElem?_eq_some_iff.1 hk').1;obtain⟨s,hs⟩:∃s,rules[k']? =some s:=⟨_,List.getElem?_eq_getElem (by omega)⟩
           obtain⟨_,a,b,hb,_,ha,hsp⟩:=hst k' s hs;rw[hk'] at hb;cases hb;obtain⟨u,v,m',rfl,hu,_,hv⟩:=(hsp _ _ hS (sU _ r)).1 _ _ hw';have ha':(ss0++[(⟨0,0,t,0⟩:aX)])[a]? =some ⟨2,0,[],0+k'⟩:=by rw[hS a (Nat.zero_le _) (List.getElem?_eq_some_iff.1 ha).1,ha]
           cases hv with
           |done hfin =>
            obtain⟨x,hx,_,hr⟩:=hfin;rw[ha'] at hx;cases hx;simp only[Nat.zero_add] at hr;subst hr;exact⟨s,hs,by rw[List.append_nil];exact hu⟩
           |eps hx hk _ _=>rw[ha'] at hx;cases hx;cases hk
           |eat hx hk _ _ _=>rw[ha'] at hx;cases hx;cases hk
         · rintro⟨s,hs,hw⟩;obtain⟨_,a,b,hb,_,ha,hsp⟩:=hst r s hs;have ha':(ss0++[(⟨0,0,t,0⟩:aX)])[a]? =some ⟨2,0,[],0+r⟩:=by rw[hS a (Nat.zero_le _) (List.getElem?_eq_some_iff.1 ha).1,ha]
           obtain⟨n,hn⟩:=(hsp _ _ hS (sU _ r)).2 w [] 0 hw (.done ⟨_,ha',rfl,by simp⟩);rw[List.append_nil] at hn;exact⟨n+1,.eps (q':=b) hF rfl (show b∈t from List.mem_of_getElem? hb) hn⟩
theorem xZ {f:Nat->Nat}:∀{a b:List Nat},a.Sublist b->(a.map f).sum<=(b.map f).sum
 |_,_,.slnil=>by simp
 |_,_,.cons _ h=>by have:=xZ (f:=f) h;simp;omega
 |_,_,.cons_cons _ h=>by have:=xZ (f:=f) h;simp;omega
theorem Dy:∀ss:List aX,(ss.map fun x=>x.to.length).sum<=eP ss
 | []=>by simp[eP]
 |x::r=>by have:=Dy r;simp[eP] at *;omega
theorem Er (ss:List aX):((List.range ss.length).map fun i=>match ss[i]? with|some x=>x.to.length|none=>0).sum<=eP ss:=by
 have:((List.range ss.length).map fun i=>match ss[i]? with|some x=>x.to.length|none=>0)=ss.map fun x=>x.to.length:=by
  apply List.ext_getElem
  · simp
  · intro i h1 h2;simp at h2;simp[h2]
 rw[this];exact Dy ss
theorem wI (ss:List aX) (c:UInt8):∀(l a:List Nat),(stepG ss c l a).length<=a.length+(l.map fun i=>match ss[i]? with|some x=>x.to.length|none=>0).sum
 | [],a=>by simp[stepG]
 |j::r,a=>by
  rw[stepG];refine Nat.le_trans (wI ss c r _) ?_;simp only[List.map_cons,List.sum_cons];cases ss[j]? with
  |none=>simp
  |some x=>simp only;split<;>simp<;>omega
theorem Eb {ss:List aX}(c:UInt8){now:List Nat}(h:now.Sublist (List.range ss.length)):(stepG ss c now []).length<=eP ss:=by
 have h1:=wI ss c now [];have h2:=xZ (f:=fun i=>match ss[i]? with|some x=>x.to.length|none=>0) h;have h3:=Er ss;simp only[List.length_nil] at h1;omega
def IsMatch (P:Nat->Nat->Prop) (n:Nat) (o:Int×Int):Prop :=
 (o=(0,-1)/\∀k r,k<=n->¬P k r)\/∃k r:Nat,o=((k:Int),(r:Int))/\k<=n/\P k r/\(∀k' r',k'<=n->P k' r'->k'<=k)/\∀r',P k r'->r<=r'
def mY (ac:Nat->Int):Nat->Nat->Int×Int->Int×Int
 | 0,k,b=>if 0<=ac k then ((k:Int),ac k) else b
 |n+1,k,b=>mY ac n (k+1) (if 0<=ac k then ((k:Int),ac k) else b)
def oX (P:Nat->Nat->Prop) (m:Nat) (o:Int×Int):Prop :=
 (o=(0,-1)/\∀k r,k<m->¬P k r)\/∃k r:Nat,o=((k:Int),(r:Int))/\k<m/\P k r/\(∀k' r',k'<m->P k' r'->k'<=k)/\∀r',P k r'->r<=r'
theorem oX.next {P:Nat->Nat->Prop}{m:Nat}{o:Int×Int}{a:Int}(h:oX P m o) (ha:nr (P m) a):oX P (m+1) (if 0<=a then ((m:Int),a) else o):=by
 rcases ha with ⟨rfl,h1⟩|⟨r,rfl,h1,h2⟩
 · rw[if_neg (by decide)]
   rcases h with ⟨rfl,h3⟩|⟨k,r,rfl,hk,hp,h3,h4⟩
   · exact .inl ⟨rfl,fun k r hk hp=>by
      by_cases e:k=m
      · subst e;exact h1 _ hp
      · exact h3 k r (by omega) hp⟩
   · exact .inr ⟨k,r,rfl,by omega,hp,fun k' r' hk' hp'=>by
      by_cases e:k'=m
      · subst e;exact absurd hp' (h1 _)
      · exact h3 k' r' (by omega) hp',h4⟩
 · rw[if_pos (by omega)];exact .inr ⟨m,r,rfl,by omega,h1,fun k' r' hk' _=>by omega,h2⟩
theorem vf {P:Nat->Nat->Prop}{ac:Nat->Int}:∀(n k:Nat) (b:Int×Int),oX P k b->(∀j,k<=j->j<=k+n->nr (P j) (ac j))->oX P (k+n+1) (mY ac n k b)
 | 0,k,b,h,ha=>by rw[mY];exact h.next (ha k (Nat.le_refl _) (by omega))
 |n+1,k,b,h,ha=>by
  rw[mY];have:=vf n (k+1) _ (h.next (ha k (Nat.le_refl _) (by omega))) (fun j h1 h2=>ha j (by omega) (by omega))
  rwa [show k+(n+1)+1=k+1+n+1 by omega]
theorem oX.match {P:Nat->Nat->Prop}{o:Int×Int}(h:oX P (n+1) o):IsMatch P n o:=by
 rcases h with ⟨rfl,h1⟩|⟨k,r,rfl,hk,hp,h1,h2⟩
 · exact .inl ⟨rfl,fun k r hk=>h1 k r (by omega)⟩
 · exact .inr ⟨k,r,rfl,by omega,hp,fun k' r' hk'=>h1 k' r' (by omega),h2⟩
theorem D9 (ss:List aX) (c:UInt8):cw ss c []=[]:=by simp[cw,stepG,closed]
theorem rE (ss:List aX) (st:Nat) (a b:By):jZ ss st (a++b)=b.foldl (fun T c=>cw ss c T) (jZ ss st a):=by simp[jZ,List.foldl_append]
theorem Dp (ss:List aX):∀w:By,w.foldl (fun T c=>cw ss c T) ([]:List Nat)=[]
 | []=>rfl
 |c::w=>by rw[List.foldl_cons,D9,Dp ss w]
theorem ve {ac:Nat->Int}:∀(n k:Nat) (b:Int×Int),(∀j,k<=j->j<=k+n->ac j<0)->mY ac n k b=b
 | 0,k,b,h=>by rw[mY,if_neg (by have:=h k (Nat.le_refl _) (by omega);omega)]
 |n+1,k,b,h=>by
  rw[mY,if_neg (by have:=h k (Nat.le_refl _) (by omega);omega)];exact ve n (k+1) b (fun j h1 h2=>h j (by omega) (by omega))
theorem AT {ss:List aX}:∀(l a:By) (b:Int×Int),jm ss l (jZ ss st a) a.length b=mY (fun k=>aV ss (jZ ss st ((a++l).take k))) l.length a.length b:=by
 have none_:∀(l a:By) (b:Int×Int),jZ ss st a=[]->jm ss l (jZ ss st a) a.length b=mY (fun k=>aV ss (jZ ss st ((a++l).take k))) l.length a.length b:=by
  intro l a b h;rw[tY (by rw[h];rfl),ve];intro j h1 h2;have:(a++l).take j=a++l.take (j-a.length):=by rw[List.take_append,List.take_of_length_le h1]
  rw[this,rE,h,Dp];unfold aV;split
  · decide
  · simp[qu]
 intro l
 induction l with
 |nil =>
  intro a b
  by_cases h:jZ ss st a=[]
  · exact none_ [] a b h
  · rw[jm,if_neg (by simpa using h),List.length_nil,mY];simp
 |cons c r ih =>
  intro a b
  by_cases h:jZ ss st a=[]
  · exact none_ (c::r) a b h
  · rw[jm,if_neg (by simpa using h)];simp only[List.length_cons,mY];have h1:=ih (a++[c]) (if 0<=aV ss (jZ ss st a) then ((a.length:Int),aV ss (jZ ss st a)) else b);rw[rE] at h1;simp only[List.foldl_cons,List.foldl_nil,List.length_append,List.length_singleton,List.append_assoc,List.singleton_append] at h1;rw[h1];have e:(a++c::r).take a.length=a:=by simp
    rw[e]
theorem AS {rules:List By}{ss:List aX}(k:Made rules ss st) (l:By):IsMatch (fun n r=>∃s,rules[r]? =some s/\Io (bz s).1 (l.take n)) l.length (dn ss st l):=by
 have hst:=k.stl;unfold dn;rw[if_neg (by omega)];have h:=AT (ss:=ss) (st:=st) l [] (0,-1);have e:jZ ss st []=bX ss st:=rfl;rw[e] at h;simp only[List.length_nil,List.nil_append] at h;rw[h]
 have:=vf (P:=fun n r=>∃s,rules[r]? =some s/\Io (bz s).1 (l.take n)) (ac:=fun k=>aV ss (jZ ss st (l.take k))) l.length 0 (0,-1) (.inl ⟨rfl,fun k r hk=>by omega⟩) (fun j _ _=>by
  have h1:=wz k.good k.stl (l.take j)
  have e:(fun r=>∃n,Acc ss (lZ ss r) n st (l.take j))=(fun r=>∃s,rules[r]? =some s/\Io (bz s).1 (l.take j)):=by
   funext r;exact propext (k.lng r _)
  rw[e] at h1;exact h1)
 rw[Nat.zero_add] at this;exact this.match
end
end Go.Proofs.YtdgckfkoihcmjaaGreatDoor
namespace Go.Proofs.YtdgckfkoihcmjaaGreatDoor
open Go Go.Lw
set_option maxRecDepth 20000
def Lm (h:aj) (p:Value) (rules:List By):Prop:=∃(O:Nat->Prop) (nb:Nat) (v:Value) (ss:List aX) (st:Nat),p= .pointer (some ⟨nb,0,none⟩)/\bM h O nb v ss st/\eG rules= .inr (ss,st)
def Kc (rules:List By):Int:=match eG rules with|.inl e=>e|.inr _=>0
def yG (rules:List By) (s:By) (a:Int):Int×Int:=match eG rules with|.inl _=>(0,-1)|.inr (ss,st)=>CA ss st s a
theorem EJ {h:aj}{lim:Nat}(hg:Sg h lim) (hlim:lim<=h.size){rv:Value}{rules:List By}(hr:aY nG h (fun _=>False) rv rules) (hrl:∀s∈rules,s.length<=1000000) :
    av Tryz.prog 25 #[rv] h (bq fun r h'=>(∃p,r= .tuple #[p,.int .i64 (Kc rules)]/\((∃e,eG rules= .inl e/\p= .pointer none)\/Lm h' p rules))/\aq h h') :=
  (CB hg hlim hr hrl).ret fun r h' k=>by
    obtain⟨k1,k2⟩:=k;refine⟨?_,k2⟩;unfold xL at k1;unfold Kc;cases hm:eG rules with
    |inl e=>rw[hm] at k1;exact⟨_,k1,.inl ⟨e,rfl,rfl⟩⟩
    |inr q =>
      obtain⟨ss,st⟩:=q;rw[hm] at k1;obtain⟨nb,v,h1,_,h3⟩:=k1;exact⟨_,h1,.inr ⟨_,nb,v,ss,st,rfl,h3,hm⟩⟩
theorem AW {rules:List By}{ss:List aX}{st:Nat}(k:Made rules ss st):ss.length<=1000000/\1+rG ss (List.replicate ss.length false)<=1000000/\∀c now,List.Sublist now (List.range ss.length)->(stepG ss c now []).length+rG ss (List.replicate ss.length false)<=1000000:=by
  have h1:=k.len;have h2:=k.tot;have h3:=Gr ss (List.replicate ss.length false);refine⟨by omega,by omega,fun c now hs=>?_⟩;have:=Eb c hs;omega
theorem lits {h:aj}(l:List By) (n:Nat) (hn:l.length=n) (hm:n<=maxLen):aY nG (h.push (.cells (l.map fun s=>Value.string (bs s)).toArray 9)) (fun _=>False) (.slice (some ⟨h.size,0,none⟩) n n) l :=
  cn.read (h1:=fun _=>rfl) (kW (fun s=>.string (bs s)) h 9 l n hn hm h.size (Nat.le_refl _) rfl) (fun _ _ k=>k)
end Go.Proofs.YtdgckfkoihcmjaaGreatDoor

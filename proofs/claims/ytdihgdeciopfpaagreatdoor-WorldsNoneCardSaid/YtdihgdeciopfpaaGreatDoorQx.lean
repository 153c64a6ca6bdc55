/- What the proof of the statement leans on (part 24). -/
import Derived.Lib.Split
import Derived.Test.YtdihgdeciopfpaaGreatDoorQw

namespace Go.Proofs.YtdihgdeciopfpaaGreatDoor
open Go Go.Lw
theorem lX {h:aj}(s:ByteArray) (c:Int):af Tryz.prog 73 #[.string s,.int .u8 c] h (bf fun r h'=>r= .int .i64 (Lib.indexByte s.data.toList c.toNat.toUInt8)/\h'=h) :=
  af.AJ fun w=>Tryz.strings_IndexByte s c w
theorem wrap_u8 {i:Int}(h:0<=i/\i<=255):IntKind.u8.wrap i=i:=by
  have h8:(2:Int) ^ 8=256:=rfl;simp only[IntKind.wrap,IntKind.bits,IntKind.signed,h8,Bool.false_and,Bool.false_eq_true,if_false];omega
end Go.Proofs.YtdihgdeciopfpaaGreatDoor
namespace Go.Proofs.YtdihgdeciopfpaaGreatDoor
open Go.Proofs.Tryz
open Go Go.Lw
set_option maxRecDepth 20000 set_option maxHeartbeats 4000000
section
variable {rb n m d lim:Nat}{h h':aj}{c a:UInt8}{l r:By}{x:Nd}{M:Nat->Prop}
def vk:Value:=.iface 358 (.agg #[])
def E0 (c:List PanicEntry):Prop:=c=[{ v:=vk,recovered:=false }]
def St (h:aj) (rb:Nat) (l:By):Prop:=aH h rb 361 [.string (bs l)]
abbrev Dq (rb:Nat):Value:=.pointer (some ⟨rb,0,none⟩)
abbrev only (rb:Nat):Nat->Prop:=fun b=>b=rb
def PR {α:Type}(rb:Nat) (h:aj) (p:Option (α×By)) (Φ:α->Value->aj->Prop):Ending->aj->Prop :=
 EV (fun v h'=>∃x r,p=some (x,r)/\Φ x v h'/\St h' rb r/\Ext (only rb) h h') (fun ch h'=>E0 ch/\p=none/\Ext (only rb) h h')
theorem PR.no {α:Type}{p:Option (α×By)}{Φ:α->Value->aj->Prop}{c:List PanicEntry}(hc:E0 c) (hp:p=none) (hx:Ext (only rb) h h'):PR rb h p Φ (.panicked c) h':=⟨hc,hp,hx⟩
theorem EV.no {Φ:Value->aj->Prop}{X:List PanicEntry->aj->Prop}{c:List PanicEntry}(k:X c h):EV Φ X (.panicked c) h:=k
theorem St.cell {h:aj}{rb:Nat}{l:By}(k:St h rb l):cellAt h ⟨rb,0,none⟩=some (.string (bs l)):=aH.cell k (i:=0) rfl
theorem St.lt {h:aj}{rb:Nat}{l:By}(k:St h rb l):rb<h.size:=aH.lt k
def gx:By->Option (UInt8×By)| []=>none|c::r=>some (c,r)
theorem iW (h:gx l=none):l=[]:=by cases l with|nil=>rfl|cons c r=>cases h
theorem fP (h:gx l=some (c,r)):l=c::r:=by cases l with|nil=>cases h|cons d t=>cases h;rfl
theorem vq (hs:St h rb l):af Tryz.prog 351 #[Dq rb] h (bf fun r h'=>r= .int .u8 ((l.head?.getD 0).toNat:Nat)/\h'=h):=by
 refine eV ?_;refine ax ?_;refine xp rfl (bJ rfl hs.cell) ?_;refine ax ?_;refine dM (fun he=>?_) (fun he=>?_)
 · have hl:l=[]:=jj he;subst hl;refine ax ?_;refine dS ?_;exact⟨_,rfl,rfl,rfl⟩
 · obtain⟨c,r,rfl⟩:=List.exists_cons_of_ne_nil (fun(e:l=[])=>he (by rw[e];rfl));refine ax ?_;refine xp rfl (bJ rfl hs.cell) ?_;refine xp rfl (Oj rfl rfl 0 rfl (mc rfl)) ?_;refine ax ?_;refine dS ?_;exact⟨_,rfl,rfl,rfl⟩
theorem fO (hs:St h rb l) (hl:l.length<=1000000):af Tryz.prog 352 #[Dq rb] h (PR rb h (gx l) fun c v _=>v= .int .u8 (c.toNat:Nat)):=by
 refine eV ?_;refine ax ?_;refine xp rfl (bJ rfl hs.cell) ?_;refine ax ?_;refine dM (fun he=>?_) (fun he=>?_)
 · have hl:l=[]:=jj he;subst hl;refine ax ?_;refine xp rfl (aE (H.gR ) rfl) ?_;refine ax ?_;refine dD rfl (cZ (Φ:=fun _ _=>False) rfl (PR.no rfl rfl (Ext.refl _ _))) ?_;rintro _ _ hpn;exact hpn.elim
 · obtain⟨c,r,rfl⟩:=List.exists_cons_of_ne_nil (fun(e:l=[])=>he (by rw[e];rfl));have hz:(bs (c::r)).size=r.length+1:=by rw[aR];rfl
   have hd:=lO (c::r) 1;simp only[List.length_cons] at hl;refine ax ?_;refine xp rfl (bJ rfl hs.cell) ?_;refine xp rfl (Oj rfl rfl 0 rfl (mc rfl)) ?_;refine ax ?_;refine xp rfl (bJ rfl hs.cell) ?_;refine xp rfl (ai.eZ underlying9 rfl rfl 1 rfl (by omega)) ?_;refine ax ?_;refine dD rfl (qY rfl rfl hs) ?_;rintro _ h1 ⟨rfl,hk,hx,hz1⟩;refine ax ?_;refine dS ?_;exact⟨c,r,rfl,rfl,by rw[hd] at hk;exact hk,hx⟩
theorem kZ (c:UInt8) (hs:St h rb l) (hl:l.length<=1000000):af Tryz.prog 287 #[Dq rb,.int .u8 (c.toNat:Nat)] h (bf fun v h' =>
 ((l.head? =some c/\v= .bool true/\St h' rb l.tail)\/(l.head? ≠some c/\v= .bool false/\St h' rb l))/\Ext (only rb) h h'):=by
 refine eV ?_;refine dc ?_;refine fE ?_;refine cG ?_;refine iF ?_
 iterate 2 refine dc ?_
 refine rV [(18,.bool (decide (l.head? ≠some c)))] rfl ?_ ?_
 · refine ax ?_;refine xp rfl (bJ rfl hs.cell) ?_;refine ax ?_;refine qV 10 (fun he=>?_) (fun he=>?_)
   · have hl:l=[]:=jj (of_decide_eq_true he);refine ax ?_;exact cY rfl ⟨aC rfl (by subst hl;simp),sb rfl⟩
   · obtain⟨d,r,rfl⟩:=List.exists_cons_of_ne_nil (fun(e:l=[])=>(of_decide_eq_false he) (by rw[e];rfl));refine ax ?_;refine xp rfl (bJ rfl hs.cell) ?_;refine xp rfl (Oj rfl rfl 0 rfl (mc rfl)) ?_;refine ax ?_;exact cY rfl ⟨aC rfl (by simp only[List.head?_cons,Option.some.injEq,ne_eq];exact OP d c),sb rfl⟩
 · refine dM (fun hn=>?_) (fun hn=>?_)
   · refine ax ?_;refine dS ?_;exact⟨_,rfl,.inr ⟨hn,rfl,hs⟩,Ext.refl _ _⟩
   · have hn:=Classical.not_not.1 hn;obtain⟨d,r,rfl⟩:=List.exists_cons_of_ne_nil (fun(e:l=[])=>by rw[e] at hn;cases hn);have hz:(bs (d::r)).size=r.length+1:=by rw[aR];rfl
     have hd:=lO (d::r) 1;simp only[List.length_cons] at hl;refine ax ?_;refine xp rfl (bJ rfl hs.cell) ?_;refine xp rfl (ai.eZ underlying9 rfl rfl 1 rfl (by omega)) ?_;refine ax ?_;refine dD rfl (qY rfl rfl hs) ?_;rintro _ h1 ⟨rfl,hk,hx,hz1⟩;refine ax ?_;refine dS ?_;exact⟨_,rfl,.inl ⟨hn,rfl,by rw[hd] at hk;exact hk⟩,hx⟩
theorem vw (c:UInt8) (hs:St h rb l) (hl:l.length<=1000000):af Tryz.prog 356 #[Dq rb,.int .u8 (c.toNat:Nat)] h (PR rb h (if l.head? =some c then some ((),l.tail) else none) fun _ _ _=>True):=by
 refine eV ?_;refine ax ?_;refine xo rfl (dz rfl (kZ c hs hl)) ?_;rintro _ h1 ⟨hor,hx⟩
 rcases hor with ⟨h1,rfl,h2⟩|⟨h1,rfl,h2⟩
 · refine ax ?_;refine qT rfl (by decide) ?_;refine ax ?_;refine M9 ?_;exact⟨(),_,if_pos h1,trivial,h2,hx⟩
 · refine ax ?_;refine tf rfl (by decide) ?_;refine ax ?_;refine xp rfl (aE (H.gR ) rfl) ?_;refine ax ?_;refine dD rfl (cZ (Φ:=fun _ _=>False) rfl (PR.no rfl (if_neg h1) hx)) ?_;rintro _ _ hpn;exact hpn.elim
theorem mH (x:UInt8):af Tryz.prog 73 #[.string ⟨#[40,41,91,93,124,42,43,63,46,92,45,94]⟩,.int .u8 (x.toNat:Nat)] h (bf fun r h'=>r= .int .i64 (Lib.indexByte fG x)/\h'=h) :=
 (lX _ _).ret fun _ _ ⟨ho,he⟩=>⟨by rw[ho];simp[fG],he⟩
theorem jw:∀x:UInt8,(0<=Lib.indexByte fG x)↔x∈fG:=by
 have h:∀n:Fin 256,(0<=Lib.indexByte fG (UInt8.ofNat n.val))↔(UInt8.ofNat n.val)∈fG:=by decide +kernel
 intro x;have:=h ⟨x.toNat,x.toNat_lt⟩;simpa using this
def Ba:By:=[48,49,50,51,52,53,54,55,56,57,97,98,99,100,101,102]
theorem A9 (x:UInt8):af Tryz.prog 73 #[.string ⟨#[48,49,50,51,52,53,54,55,56,57,97,98,99,100,101,102]⟩,.int .u8 (x.toNat:Nat)] h (bf fun r h'=>r= .int .i64 (Lib.indexByte Ba x)/\h'=h) :=
 (lX _ _).ret fun _ _ ⟨ho,he⟩=>⟨by rw[ho];simp[Ba],he⟩
theorem KK:∀n:Fin 256,IntKind.u8.wrap ((BitVec.ofInt IntKind.u8.bits (n.val:Int) |||BitVec.ofInt IntKind.u8.bits 32).toNat)=(((UInt8.ofNat n.val) ||| 32).toNat:Nat):=by decide +kernel
theorem low (x:UInt8):IntKind.u8.wrap ((BitVec.ofInt IntKind.u8.bits (x.toNat:Int) |||BitVec.ofInt IntKind.u8.bits 32).toNat)=((x ||| 32).toNat:Nat):=by
 have:=KK ⟨x.toNat,x.toNat_lt⟩;simpa using this
theorem Le:∀n:Fin 256,lF (UInt8.ofNat n.val)=if Lib.indexByte Ba ((UInt8.ofNat n.val) ||| 32)<0\/n.val<48 then none else some (Lib.indexByte Ba ((UInt8.ofNat n.val) ||| 32)).toNat:=by decide +kernel
theorem S4 (x:UInt8):lF x=if Lib.indexByte Ba (x ||| 32)<0\/x.toNat<48 then none else some (Lib.indexByte Ba (x ||| 32)).toNat:=by
 have:=Le ⟨x.toNat,x.toNat_lt⟩;simpa using this
theorem G1 {x:UInt8}(h:lF x=some n):n<16:=by
 unfold lF at h;split at h
 · cases h;omega
 · split at h
   · cases h;omega
   · split at h
     · cases h;omega
     · cases h
theorem sS (x:UInt8):af Tryz.prog 365 #[.int .u8 (x.toNat:Nat)] h (EV (fun v h'=>∃n:Nat,lF x=some n/\n<16/\v= .int .u8 n/\h'=h) (fun ch h'=>E0 ch/\lF x=none/\h'=h)):=by
 have hd:=S4 x;refine eV ?_;refine dc ?_;refine fE ?_;refine cG ?_;refine iF ?_;refine dc ?_;refine fE ?_;refine cG ?_;refine xp rfl (ai.Bi rfl rfl) ?_;refine xo rfl (dz rfl ((low x▸A9 (x ||| 32)))) ?_;rintro _ _ ⟨rfl,rfl⟩;refine cG ?_;refine iF ?_
 iterate 2 refine dc ?_
 refine rV [(12,.bool (decide (Lib.indexByte Ba (x ||| 32)<0\/x.toNat<48)))] rfl ?_ ?_
 · refine ax ?_;refine qV 9 (fun hg=>?_) (fun hg=>?_)
   · refine ax ?_;exact cY rfl ⟨aC rfl (by have:=of_decide_eq_true hg;simp[this]),sb rfl⟩
   · refine ax ?_;exact cY rfl ⟨aC rfl (by have:=of_decide_eq_false hg;simp only[decide_eq_decide];omega),sb rfl⟩
 · refine dM (fun hn=>?_) (fun hn=>?_)
   · rw[if_pos hn] at hd;refine ax ?_;refine xp rfl (aE (H.gR ) rfl) ?_;refine ax ?_;refine dD rfl (cZ (Φ:=fun _ _=>False) rfl (EV.no ⟨rfl,hd,rfl⟩)) ?_;rintro _ _ hpn;exact hpn.elim
   · rw[if_neg hn] at hd;have h16:=G1 hd;refine ax ?_;refine dS ?_;refine⟨_,hd,h16,?_,rfl⟩
     show Value.int .u8 _=_
     congr 1
     have:IntKind.u8.wrap (Lib.indexByte Ba (x ||| 32))=Lib.indexByte Ba (x ||| 32):=wrap_u8 (by omega);rw[this];omega
theorem Jk:∀m n:Fin 16,IntKind.u8.wrap ((BitVec.ofInt IntKind.u8.bits (IntKind.u8.wrap ((m.val:Int)*2 ^ min (4:Int).toNat IntKind.u8.bits)) |||BitVec.ofInt IntKind.u8.bits (n.val:Int)).toNat)=((UInt8.ofNat (m.val*16+n.val)).toNat:Nat):=by decide +kernel
theorem R6 (hm:m<16) (hn:n<16):IntKind.u8.wrap ((BitVec.ofInt IntKind.u8.bits (IntKind.u8.wrap ((m:Int)*2 ^ min (4:Int).toNat IntKind.u8.bits)) |||BitVec.ofInt IntKind.u8.bits (n:Int)).toNat)=((UInt8.ofNat (m*16+n)).toNat:Nat):=Jk ⟨m,hm⟩ ⟨n,hn⟩
theorem NP {x:UInt8}(t:By) (h:lF x=none):qx (120::x::t)=none:=by
 unfold qx;cases t with
 |nil=>rfl
 |cons y t=>simp[h]
theorem ox (hs:St h rb l) (hl:l.length<=1000000):af Tryz.prog 359 #[Dq rb] h (PR rb h (qx l) fun c v _=>v= .int .u8 (c.toNat:Nat)):=by
 refine eV ?_;refine ax ?_;refine xo rfl (xL rfl (fO hs hl) ((fun _ _ ⟨hc,hp,hx⟩=>PR.no hc (by rw[iW hp];rfl) hx))) ?_;rintro _ h1 ⟨c,r,hp,rfl,hs1,hx1⟩;refine ax ?_;obtain rfl:=fP hp;simp only[List.length_cons] at hl;refine dM (fun e1=>?_) (fun e1=>?_)
 · have e1:c=110:=(cQ rfl).1 e1;refine ax ?_;refine dS ?_;exact⟨10,r,by unfold qx;simp[e1],rfl,hs1,hx1⟩
 · have e1:¬c=110:=fun e=>e1 ((cQ rfl).2 e)
   refine ax ?_;refine dM (fun e2=>?_) (fun e2=>?_)
   · have e2:c=116:=(cQ rfl).1 e2;refine ax ?_;refine dS ?_;exact⟨9,r,by unfold qx;simp[e2],rfl,hs1,hx1⟩
   · have e2:¬c=116:=fun e=>e2 ((cQ rfl).2 e)
     refine ax ?_;refine dM (fun e3=>?_) (fun e3=>?_)
     · have e3:c=114:=(cQ rfl).1 e3;refine ax ?_;refine dS ?_;exact⟨13,r,by unfold qx;simp[e3],rfl,hs1,hx1⟩
     · have e3:¬c=114:=fun e=>e3 ((cQ rfl).2 e)
       refine ax ?_;refine dM (fun e4=>?_) (fun e4=>?_)
       · have e4:c=120:=(cQ rfl).1 e4;subst e4;refine ax ?_;refine xo rfl (xL rfl (fO hs1 (by omega)) ((fun _ _ ⟨hc,hp,hx⟩=>PR.no hc (by rw[iW hp];rfl) (hx1.trans hx)))) ?_;rintro _ h2 ⟨x,r2,hp2,rfl,hs2,hx2⟩;refine xo rfl (xL rfl (sS x) ((fun _ h' ⟨hc,hq,hh⟩=>PR.no hc (by obtain rfl:=fP hp2;exact NP _ hq) (by subst hh;exact hx1.trans hx2)))) ?_;rintro _ _ ⟨m,hm,hm16,rfl,rfl⟩;refine cG ?_;refine iF ?_;refine dc ?_;refine fE ?_;refine cG ?_;refine xp rfl (F2 rfl rfl (by omega)) ?_;refine ax ?_;obtain rfl:=fP hp2;simp only[List.length_cons] at hl;refine xo rfl (xL rfl (fO hs2 (by omega)) ((fun _ _ ⟨hc,hp,hx⟩=>PR.no hc (by rw[iW hp];rfl) ((hx1.trans hx2).trans hx)))) ?_;rintro _ h3 ⟨y,r3,hp3,rfl,hs3,hx3⟩;refine xo rfl (xL rfl (sS y) ((fun _ h' ⟨hc,hq,hh⟩=>PR.no hc (by obtain rfl:=fP hp3;unfold qx;simp[hm,hq]) (by subst hh;exact(hx1.trans hx2).trans hx3)))) ?_;rintro _ _ ⟨n,hn,hn16,rfl,rfl⟩;refine xp rfl (ai.Bi rfl rfl) ?_;refine ax ?_;obtain rfl:=fP hp3;refine dS ?_;exact⟨UInt8.ofNat (m*16+n),r3,by unfold qx;simp[hm,hn],by show Value.int _ _=_;rw[R6 hm16 hn16],hs3,(hx1.trans hx2).trans hx3⟩
       · have e4:¬c=120:=fun e=>e4 ((cQ rfl).2 e)
         refine ax ?_;refine xo rfl (dz rfl (mH c)) ?_;rintro _ _ ⟨rfl,rfl⟩;refine ax ?_;refine dM (fun e5=>?_) (fun e5=>?_)
         · have e5:=(jw c).1 e5;refine ax ?_;refine dS ?_;exact⟨c,r,by unfold qx;simp[e1,e2,e3,e4,e5],rfl,hs1,hx1⟩
         · have e5:¬c∈fG:=fun e=>e5 ((jw c).2 e)
           refine ax ?_;refine xp rfl (aE (H.gR ) rfl) ?_;refine ax ?_;refine dD rfl (cZ (Φ:=fun _ _=>False) rfl (PR.no rfl (by unfold qx;simp[e1,e2,e3,e4,e5]) hx1)) ?_;rintro _ _ hpn;exact hpn.elim
theorem qo (hs:St h rb l) (hl:l.length<=1000000):af Tryz.prog 364 #[Dq rb] h (PR rb h (oO l) fun c v _=>v= .int .u8 (c.toNat:Nat)):=by
 refine eV ?_;refine ax ?_;refine xo rfl (xL rfl (fO hs hl) ((fun _ _ ⟨hc,hp,hx⟩=>PR.no hc (by rw[iW hp];rfl) hx))) ?_;rintro _ h1 ⟨c,r,hp,rfl,hs1,hx1⟩;refine ax ?_;obtain rfl:=fP hp;simp only[List.length_cons] at hl;refine dM (fun e1=>?_) (fun e1=>?_)
 · have e1:c=92:=(cQ rfl).1 e1;refine ax ?_;refine xo rfl (xL rfl (ox hs1 (by omega)) ((fun _ _ ⟨hc,hp,hx⟩=>PR.no hc (by unfold oO;simp[e1,hp]) (hx1.trans hx)))) ?_;rintro _ h2 ⟨d,r2,hp2,rfl,hs2,hx2⟩;refine ax ?_;refine dS ?_;exact⟨d,r2,by unfold oO;simp[e1,hp2],rfl,hs2,hx1.trans hx2⟩
 · have e1:¬c=92:=fun e=>e1 ((cQ rfl).2 e)
   refine ax ?_;refine xo rfl (dz rfl (mH c)) ?_;rintro _ _ ⟨rfl,rfl⟩;refine ax ?_;refine dM (fun e5=>?_) (fun e5=>?_)
   · have e5:=(jw c).1 e5;refine ax ?_;refine xp rfl (aE (H.gR ) rfl) ?_;refine ax ?_;refine dD rfl (cZ (Φ:=fun _ _=>False) rfl (PR.no rfl (by unfold oO;simp[e1,e5]) hx1)) ?_;rintro _ _ hpn;exact hpn.elim
   · have e5:¬c∈fG:=fun e=>e5 ((jw c).2 e)
     refine ax ?_;refine dS ?_;exact⟨c,r,by unfold oO;simp[e1,e5],rfl,hs1,hx1⟩
theorem IW (k s:Nat) (v:Value) (i:Nat) (hi:i<256):(dI k s v).set (1+i / 64*1) (.int .u64 ((Dw s (i / 64) ||| 2 ^ (i%64):Nat):Int))=dI k (s |||(1 <<< i)) v:=by
 have h4:i / 64<4:=by omega
 have hw:=HP s i;have hs:∀q,q≠i / 64->eF (s |||(1 <<< i)) q=eF s q:=fun q hq=>by unfold eF;rw[HQ s i q hq]
 have he:eF (s |||(1 <<< i)) (i / 64)= .int .u64 ((Dw s (i / 64) ||| 2 ^ (i%64):Nat):Int):=by unfold eF;rw[hw]
 rw[<-he];generalize i / 64=q at *;unfold dI
 match q,h4 with
 | 0,_=>rw[hs 1 (by decide),hs 2 (by decide),hs 3 (by decide)];rfl
 | 1,_=>rw[hs 0 (by decide),hs 2 (by decide),hs 3 (by decide)];rfl
 | 2,_=>rw[hs 0 (by decide),hs 1 (by decide),hs 3 (by decide)];rfl
 | 3,_=>rw[hs 0 (by decide),hs 1 (by decide),hs 2 (by decide)];rfl
theorem IV (k s:Nat) (v:Value) (q:Nat) (hq:q<4):(dI k s v)[1+q*1]? =some (eF s q):=by
 match q,hq with
 | 0,_=>rfl
 | 1,_=>rfl
 | 2,_=>rfl
 | 3,_=>rfl
theorem Nw {w i:Nat}(hw:w<18446744073709551616):IntKind.u64.wrap ((BitVec.ofInt IntKind.u64.bits (w:Int) |||BitVec.ofInt IntKind.u64.bits (IntKind.u64.wrap (1*2 ^ min (((i:Int)).tmod 64).toNat IntKind.u64.bits))).toNat:Int)=((w ||| 2 ^ (i%64):Nat):Int):=by
 have h1:((i:Int)).tmod 64=((i%64:Nat):Int):=by rw[Int.tmod_eq_emod_of_nonneg (by omega)];omega
 have hb:i%64<64:=Nat.mod_lt _ (by decide);have h2:2 ^ (i%64)<2 ^ 64:=Nat.pow_lt_pow_right (by decide) hb;rw[h1,O7,Rz hw h2]
theorem DS (s i n:Nat) (h:0<n):yX s i n=yX (s |||(1 <<< i)) (i+1) (n-1):=by
 cases n with
 |zero=>omega
 |succ n=>rfl
theorem gL {nb k s:Nat}{v:Value}(hk:aH h nb 291 (dI k s v)) (a b:UInt8):af Tryz.prog 358 #[.pointer (some ⟨nb,1,none⟩),.int .u8 (a.toNat:Nat),.int .u8 (b.toNat:Nat)] h (bf fun _ h' =>
 aH h' nb 291 (dI k (n7 s a b) v)/\Ext (only nb) h h'):=by
 have ha:=a.toNat_lt;have hb:=b.toNat_lt;refine eV ?_;refine dc ?_;refine fE ?_;refine cG ?_;refine xp rfl (OI rfl (wrap_i64 ⟨by omega,by omega⟩)) ?_;refine ax ?_;refine qS (σ:=Nat×Nat) (fun q=>[(6,.int .i64 (q.1:Nat))]) (fun q h'=>aH h' nb 291 (dI k q.2 v)/\Ext (only nb) h h'/\q.1<=256/\yX q.2 q.1 (b.toNat+1-q.1)=n7 s a b) (fun q=>b.toNat+1-q.1) ((a.toNat,s)) ⟨hk,Ext.refl _ _,by show a.toNat<=256;omega,rfl⟩ rfl ?_;rintro⟨i,s'⟩ h1 ⟨hk1,hx1,hi,hsp⟩ ih
 try dsimp only
 dsimp only at hk1 hi hsp
 iterate 2 refine dc ?_
 refine fE ?_
 iterate 2 refine cG ?_
 refine xp rfl (OI rfl (wrap_i64 ⟨by omega,by omega⟩)) ?_;refine ax ?_;refine dM (fun hle=>?_) (fun hle=>?_)
 · have hi255:i<=b.toNat:=by omega
   rw[DS _ _ _ (by omega)] at hsp;have hq:i / 64<4:=by omega
   have hdiv:IntKind.i64.wrap (((i:Int)).tdiv 64)=((i / 64:Nat):Int):=by
    rw[Int.tdiv_eq_ediv_of_nonneg (by omega),wrap_i64 ⟨by omega,by omega⟩];omega
   have hw:=Dv s' (i / 64);have hset:=IW k s' v i (by omega);have hk1':aH h1 nb 291 [.int .i64 k,eF s' 0,eF s' 1,eF s' 2,eF s' 3,v]:=hk1;refine ax ?_;refine Sq 13 12 ?_;refine cS 0 ?_;refine cS 1 ?_;refine eO 2 rfl (fun h' e=>nQ rfl rfl (by decide)) ?_;refine cS 3 ?_;refine eO 4 rfl (fun h' e=>Dt rfl rfl (i / 64) hdiv hq) ?_;refine eO 5 rfl (fun h' e=>bJ rfl (e.old (hk1.cell (IV k s' v _ hq)))) ?_;refine cS 6 ?_;refine eO 7 rfl (fun h' e=>qO rfl rfl (by decide)) ?_;refine eO 8 rfl (fun h' e=>F2 rfl rfl (by rw[Int.tmod_eq_emod_of_nonneg (by omega)];omega)) ?_;refine eO 9 rfl (fun h' e=>ai.Bi rfl rfl) ?_;refine LM 10 ?_;refine eO 11 rfl (fun h' e=>Dt rfl rfl (i / 64) hdiv hq) ?_;refine zS 12 rfl (qY rfl rfl hk1') ?_;rintro _ h2 ⟨rfl,hk2,hx2,hz2⟩;refine⟨nofun,?_⟩;refine xM ?_;refine ax ?_;rw[Nw hw,show [.int .i64 (k:Int),eF s' 0,eF s' 1,eF s' 2,eF s' 3,v]=dI k s' v from rfl,hset] at hk2;exact ih (i+1,s' |||(1 <<< i)) ⟨hk2,hx1.trans hx2,by show i+1<=256;omega,by show yX _ (i+1) (b.toNat+1-(i+1))=_;rw[<-hsp];rfl⟩
 · have h0:b.toNat+1-i=0:=by omega
   rw[h0] at hsp;refine ax ?_;refine M9 ?_;exact⟨_,rfl,by rw[<-hsp];exact hk1,hx1⟩
theorem G2 (s:Nat) (b:UInt8):af Tryz.prog 244 #[.agg (wz s).toArray,.int .u8 (b.toNat:Nat)] h (bf fun r h'=>r= .bool (s.testBit b.toNat)/\aq h h'):=by
 have hb:=b.toNat_lt;have hq:b.toNat / 64<4:=by omega
 have hdiv:IntKind.u8.wrap (((b.toNat:Int)).tdiv 64)=((b.toNat / 64:Nat):Int):=by
  rw[Int.tdiv_eq_ediv_of_nonneg (by omega),wrap_u8 (by omega)];omega
 have hmod:((b.toNat:Int)).tmod 64=((b.toNat%64:Nat):Int):=by rw[Int.tmod_eq_emod_of_nonneg (by omega)];omega
 have hm64:b.toNat%64<64:=Nat.mod_lt _ (by decide)
 have hword:∀q,q<4->(wz s)[0+q*1]? =some (eF s q):=fun q hq=>by
  match q,hq with
  | 0,_=>rfl
  | 1,_=>rfl
  | 2,_=>rfl
  | 3,_=>rfl
 refine eV ?_;refine ax ?_;refine xo rfl (Bu) ?_;rintro _ h1 ⟨rfl,hk,he,hz⟩;refine cG ?_;refine iF ?_;refine dc ?_;refine fE ?_;refine cG ?_;refine xp rfl (nQ rfl rfl (by decide)) ?_;have hk:aH h1 h.size 288 (wz s):=hk;refine xp rfl (Dt rfl rfl (b.toNat / 64) hdiv hq) ?_;refine xp rfl (bJ rfl (hk.cell (hword _ hq))) ?_;refine cG ?_;refine xp rfl (qO rfl rfl (by decide)) ?_;refine xp rfl (F1 rfl rfl (by rw[hmod];omega)) ?_;refine xp rfl (ai.C7 rfl rfl) ?_;refine ax ?_;refine dS ?_;refine⟨_,rfl,?_,he⟩;rw[hmod,O6 _ _ hm64,Sd (Nat.lt_of_le_of_lt (Nat.shiftRight_le _ _) (Dv s _)),Ko];cases s.testBit b.toNat<;>rfl
theorem ju.only {h0:aj}{g:Nat}(e:Ext M h0 h) (x:Ext (fun b=>b=g) h h') (hg:h0.size<=g):Ext M h0 h' :=
 ⟨Nat.le_trans e.size x.size,fun b hb hm=>by rw[x.block b (Nat.lt_of_lt_of_le hb e.size) (by omega)];exact e.block b hb hm⟩
theorem ju.ak {h0:aj}(e:Ext M h0 h) (x:aq h h'):Ext M h0 h':=e.trans (aq.of x)
theorem uQ:∀(n m acc:Nat) (s:By),s.length<n->s.length<m->lU n acc s=lU m acc s
 | 0,_,_,_,h,_=>by omega
 |_,0,_,_,_,h=>by omega
 |n+1,m+1,acc,s,hn,hm=>by
  rw[lU,lU];cases hf:eS s with
  |none=>rfl
  |some p =>
   obtain⟨⟨a,b⟩,r⟩:=p;have hlen:=mS hf;simp only;split
   · rfl
   · exact uQ n m _ _ (by omega) (by omega)
def oz (first:Bool) (acc:Nat) (l:By):Option (Nat×By):=if first=false/\l.head? =some 93 then some (acc,l.tail) else lU (l.length+1) acc l
theorem pg {first:Bool}{acc:Nat}(h:¬(first=false/\l.head? =some 93)) (hf:eS l=none):oz first acc l=none:=by
 unfold oz;rw[if_neg h,lU,hf]
theorem wE {first:Bool}{acc:Nat}{b:UInt8}(h:¬(first=false/\l.head? =some 93)) (hf:eS l=some ((a,b),r)):oz first acc l=oz false (n7 acc a b) r:=by
 have hlen:=mS hf;unfold oz;rw[if_neg h,lU,hf];simp only[true_and];split
 · simp
 · rename_i hne
   rw[if_neg (fun e=>by
    cases r with
    |nil=>cases e
    |cons c t=>simp at e;subst e;exact hne t rfl)]
   exact uQ _ _ _ _ (by omega) (by omega)
theorem Qn (h:oO l=none):eS l=none:=by unfold eS;rw[h]
theorem Qm (h:oO l=some (a,r)) (hr:r.head? ≠some 45):eS l=some ((a,a),r):=by
 unfold eS;rw[h];simp only;split
 · exact absurd rfl hr
 · rfl
theorem Ql (h:oO l=some (a,r)) (hr:r.head? =some 45) (hb:oO r.tail=none):eS l=none:=by
 unfold eS;rw[h];cases r with
 |nil=>cases hr
 |cons c t=>simp at hr;subst hr;simp at hb;simp[hb]
theorem Qk {r':By}{b:UInt8}(h:oO l=some (a,r)) (hr:r.head? =some 45) (hb:oO r.tail=some (b,r')):eS l=if b.toNat<a.toNat then none else some ((a,b),r'):=by
 unfold eS;rw[h];cases r with
 |nil=>cases hr
 |cons c t=>simp at hr;subst hr;simp at hb;simp[hb]
theorem yE (l:By):ie l=(oz true 0 (if l.head? =some 94 then l.tail else l)).map fun p=>(.mk 1 (if l.head? =some 94 then mO p.1 else p.1) [],p.2):=by
 unfold ie oz;split
 · simp
 · rename_i hne
   have h1:l.head? ≠some 94:=fun e=>by
    cases l with
    |nil=>cases e
    |cons c t=>simp at e;subst e;exact hne t rfl
   simp[h1]
theorem Kn (s q:Nat) (hq:q<4):Dw (mO s) q=18446744073709551615 ^^^ Dw s q:=by
 apply Nat.eq_of_testBit_eq
 intro i;rw[kW,Nat.testBit_xor,kW];unfold mO;rw[Nat.testBit_xor,show JX=2 ^ 256-1 from rfl,Nat.testBit_two_pow_sub_one,show (18446744073709551615:Nat)=2 ^ 64-1 from rfl,Nat.testBit_two_pow_sub_one]
 by_cases hi:i<64
 · have:64*q+i<256:=by omega
   simp[hi,this]
 · simp[hi]
theorem OL {x:Nat}(hx:x<18446744073709551616):IntKind.u64.wrap ((BitVec.ofInt IntKind.u64.bits (if IntKind.u64.signed then -1 else IntKind.u64.max) ^^^ BitVec.ofInt IntKind.u64.bits (x:Int)).toNat:Int)=((18446744073709551615 ^^^ x:Nat):Int):=by
 have e:(BitVec.ofInt IntKind.u64.bits (if IntKind.u64.signed then -1 else IntKind.u64.max) ^^^ BitVec.ofInt IntKind.u64.bits (x:Int)).toNat=18446744073709551615 ^^^ x:=by
  rw[BitVec.toNat_xor]
  have h1:(BitVec.ofInt IntKind.u64.bits (x:Int)).toNat=x:=by
   show (BitVec.ofInt 64 (x:Int)).toNat=x
   simp only[BitVec.toNat_ofInt];omega
  rw[h1];rfl
 rw[e];have:18446744073709551615 ^^^ x<2 ^ 64:=Nat.xor_lt_two_pow (by decide) hx;exact jU ⟨by omega,by omega⟩
def Cq (s q i:Nat):Value:=if i<q then eF (mO s) i else eF s i
def NJ (s q:Nat):List Value:=[.int .i64 1,Cq s q 0,Cq s q 1,Cq s q 2,Cq s q 3,.slice none 0 0]
theorem IU (s q:Nat) (hq:q<4):(NJ s q)[1+q*1]? =some (eF s q):=by
 match q,hq with
 | 0,_=>rfl
 | 1,_=>rfl
 | 2,_=>rfl
 | 3,_=>rfl
theorem KH (s q:Nat) (hq:q<4):(NJ s q).set (1+q*1) (.int .u64 ((18446744073709551615 ^^^ Dw s q:Nat):Int))=NJ s (q+1):=by
 rw[<-Kn s q hq]
 match q,hq with
 | 0,_=>rfl
 | 1,_=>rfl
 | 2,_=>rfl
 | 3,_=>rfl
abbrev FJ (n:Nat):Nat->Prop:=fun b=>b<n
def EX (n:Nat) (x:Nd) (v:Value) (h':aj):Prop:=∃w,v= .agg (dI x.kind x.set w).toArray/\bO h' (FJ n) (dI x.kind x.set w) x
theorem fu (h:aj) (O:Nat->Prop) (k s:Nat):bO h O (dI k s (.slice none 0 0)) (.mk k s []):=.of k s (bB.nil _ _ _)
theorem yD (hs:St h rb l) (hl:l.length<=1000000):af Tryz.prog 357 #[Dq rb] h (PR rb h (ie l) (EX h.size)):=by
 have hlt:=hs.lt;have hbr:=yE l;refine eV ?_;refine ax ?_;refine xo rfl (pI) ?_;rintro _ h1 ⟨rfl,hkr,he1,hz1⟩;refine ax ?_;refine xp rfl (aE (H.FM _) rfl) ?_;refine xo rfl (pI) ?_;rintro _ h2 ⟨rfl,hk2,he2,hz2⟩;refine dD rfl (iV rfl rfl hk2) ?_;rintro _ h3 ⟨rfl,hk3,hx3,hz3⟩;have hk3:aH h3 h1.size 291 (dI 1 0 (.slice none 0 0)):=hk3;have hkr:aH h1 h.size 291 (dI 0 0 (.slice none 0 0)):=hkr;have e3:aq h h3:=aq.only (he1.trans he2) hx3 (by omega);have hkr3:aH h3 h.size 291 (dI 0 0 (.slice none 0 0)):=(hkr.ak he2).ext hx3 (by show ¬_=_;omega);have hs3:St h3 rb l:=aH.ak hs e3;refine ax ?_;refine xo rfl (dz rfl (kZ 94 hs3 hl)) ?_;rintro _ h4 ⟨hor,hx4⟩
 obtain⟨nt,l1,rfl,hnt,hl1,hs4⟩:∃(nt:Bool) (l1:By),_=Value.bool nt/\nt=decide (l.head? =some 94)/\l1=(if l.head? =some 94 then l.tail else l)/\St h4 rb l1:=by
  rcases hor with ⟨a1,a2,a3⟩|⟨a1,a2,a3⟩
  · exact⟨true,_,a2,by simp[a1],by rw[if_pos a1],a3⟩
  · exact⟨false,_,a2,by simp[a1],by rw[if_neg a1],a3⟩
 rw[<-hl1] at hbr;have hl1l:l1.length<=1000000:=by rw[hl1];split;(have:l.tail.length<=l.length:=by simp);omega;exact hl
 have hkr4:=hkr3.ext hx4 (by show ¬_=_;omega);have hk4:=hk3.ext hx4 (by show ¬_=_;omega);have e4:Ext (only rb) h h4:=(aq.of e3).trans hx4;have hz4:=hx4.size;generalize htg:oz true 0 l1=tgt at hbr;refine ax ?_;refine qS (σ:=Bool×Nat×By) (fun q=>[(5,.bool q.1)]) (fun q h'=>St h' rb q.2.2/\aH h' h1.size 291 (dI 1 q.2.1 (.slice none 0 0))/\aH h' h.size 291 (dI 0 0 (.slice none 0 0))/\Ext (only rb) h h'/\q.2.2.length<=1000000/\oz q.1 q.2.1 q.2.2=tgt) (fun q=>q.2.2.length) ((true,0,l1)) ⟨hs4,hk4,hkr4,e4,hl1l,htg⟩ rfl ?_;rintro⟨first,acc,m⟩ h5 ⟨hs5,hk5,hkr5,e5,hm,hcon⟩ ih
 try dsimp only
 dsimp only at hs5 hk5 hm hcon
 iterate 2 refine dc ?_
 refine rV [(17,.bool (decide (¬(first=false/\m.head? =some 93))))] rfl ?_ ?_
 · refine ax ?_;refine qV 13 (fun hf=>?_) (fun hf=>?_)
   · refine ax ?_;exact cY rfl ⟨aC rfl (by simp[hf]),sb rfl⟩
   · refine ax ?_;refine xo rfl (dz rfl (vq hs5)) ?_;rintro _ _ ⟨rfl,rfl⟩;refine ax ?_;exact cY rfl ⟨aC rfl (by cases m with|nil=>simp|cons c t=>simp only[hf,List.head?_cons,Option.getD_some,Option.some.injEq,true_and];exact decide_eq_decide.2 (not_congr (cQ rfl))),sb rfl⟩
 · refine dM (fun hgo=>?_) (fun hgo=>?_)
   · refine ax ?_;refine xo rfl (xL rfl (qo hs5 hm) ((fun _ _ ⟨hc,hp,hx⟩=>PR.no hc (by rw[hbr,<-hcon,pg hgo (Qn hp)];rfl) (e5.trans hx)))) ?_;rintro _ h6 ⟨a,r,ha,rfl,hs6,hx6⟩;have hrl:=qp ha;have hk6:=hk5.ext hx6 (by show ¬_=_;omega);have hkr6:=hkr5.ext hx6 (by show ¬_=_;omega);have e6:=e5.trans hx6;refine ax ?_;refine xo rfl (dz rfl (kZ 45 hs6 (by omega))) ?_;rintro _ h7 ⟨hor7,hx7⟩;have hk7:=hk6.ext hx7 (by show ¬_=_;omega);have hkr7:=hkr6.ext hx7 (by show ¬_=_;omega);have e7:=e6.trans hx7
     rcases hor7 with ⟨a1,rfl,hs7⟩|⟨a1,rfl,hs7⟩
     · have htl:r.tail.length<=r.length:=by simp
       refine ax ?_;refine tf rfl (by decide) ?_;refine ax ?_;refine xo rfl (xL rfl (qo hs7 (by omega)) ((fun _ _ ⟨hc,hp,hx⟩=>PR.no hc (by rw[hbr,<-hcon,pg hgo (Ql ha a1 hp)];rfl) (e7.trans hx)))) ?_;rintro _ h8 ⟨b,r8,hb,rfl,hs8,hx8⟩;have hbl:=qp hb;have hk8:=hk7.ext hx8 (by show ¬_=_;omega);have hkr8:=hkr7.ext hx8 (by show ¬_=_;omega);have e8:=e7.trans hx8;have hf4:=Qk ha a1 hb;refine ax ?_;refine dM (fun hlow=>?_) (fun hlow=>?_)
       · rw[if_pos (by omega)] at hf4;refine ax ?_;refine xp rfl (aE (H.gR ) rfl) ?_;refine ax ?_;refine dD rfl (cZ (Φ:=fun _ _=>False) rfl (PR.no rfl (by rw[hbr,<-hcon,pg hgo hf4];rfl) e8)) ?_;rintro _ _ hpn;exact hpn.elim
       · rw[if_neg (by omega)] at hf4;refine ax ?_;refine xo rfl (dz rfl (gL hk8 a b)) ?_;rintro _ h9 ⟨hk9,hx9⟩;refine ax ?_;have hsp:=wE (acc:=acc) hgo hf4;exact ih (false,n7 acc a b,r8) ⟨aH.ext hs8 hx9 (by show ¬_=_;omega),hk9,hkr8.ext hx9 (by show ¬_=_;omega),ju.only e8 hx9 (by omega),by show r8.length<=_;omega,by rw[<-hcon,hsp]⟩
     · have hf2:=Qm ha a1;refine ax ?_;refine qT rfl (by decide) ?_;refine ax ?_;refine qT rfl (by simp) ?_;refine ax ?_;refine xo rfl (dz rfl (gL hk7 a a)) ?_;rintro _ h9 ⟨hk9,hx9⟩;refine ax ?_;have hsp:=wE (acc:=acc) hgo hf2;exact ih (false,n7 acc a a,r) ⟨aH.ext hs7 hx9 (by show ¬_=_;omega),hk9,hkr7.ext hx9 (by show ¬_=_;omega),ju.only e7 hx9 (by omega),by show r.length<=_;omega,by rw[<-hcon,hsp]⟩
   · have hgo:=Classical.not_not.1 hgo;have htgt:tgt=some (acc,m.tail):=by rw[<-hcon];unfold oz;rw[if_pos hgo]
     refine ax ?_;refine xo rfl (xL rfl (vw 93 hs5 hm) ((fun _ _ ⟨hc,hp,hx⟩=>absurd hp (by rw[if_pos hgo.2];simp)))) ?_;rintro _ h6 ⟨_,r,hp,_,hs6,hx6⟩;refine ax ?_;rw[if_pos hgo.2] at hp;cases hp;have hk6:=hk5.ext hx6 (by show ¬_=_;omega);have hkr6:=hkr5.ext hx6 (by show ¬_=_;omega);have e6:=e5.trans hx6;have hk6:aH h6 h1.size 291 (NJ acc 0):=hk6;refine qS (σ:=Nat) (fun q=>[(36,.int .i64 (q:Nat))]) (fun q h'=>q<=4/\St h' rb m.tail/\aH h' h1.size 291 (NJ acc (if nt then q else 0))/\aH h' h.size 291 (dI 0 0 (.slice none 0 0))/\Ext (only rb) h h') (fun q=>4-q) (0) ⟨by omega,hs6,by cases nt<;>exact hk6,hkr6,e6⟩ rfl ?_;rintro q h7 ⟨hq,hs7,hk7,hkr7,e7⟩ ih;refine ax ?_;refine dM (fun hq4=>?_) (fun hq4=>?_)
     · have hq4':q<4:=by omega
       refine ax ?_;refine E4 (fun hb=>?_) (fun hb=>?_)
       · rw[if_pos hb] at hk7;have hk7':aH h7 h1.size 291 [.int .i64 1,Cq acc q 0,Cq acc q 1,Cq acc q 2,Cq acc q 3,.slice none 0 0]:=hk7;refine fE ?_
         iterate 3 refine cG ?_
         refine xp rfl (Dt rfl rfl q rfl hq4') ?_;refine xp rfl (bJ rfl (hk7.cell (IU acc q hq4'))) ?_;refine xp rfl (ai.Qz rfl) ?_;refine cG ?_;refine xp rfl (Dt rfl rfl q rfl hq4') ?_;refine dD rfl (qY rfl rfl hk7') ?_;rintro _ h8 ⟨rfl,hk8,hx8,hz8⟩;refine ax ?_;have hk8:aH h8 h1.size 291 (NJ acc (q+1)):=by rw[<-KH acc q hq4',<-OL (Dv acc q)];exact hk8
         exact ih (q+1) ⟨by omega,aH.ext hs7 hx8 (by show ¬_=_;omega),by rw[if_pos hb];exact hk8,hkr7.ext hx8 (by show ¬_=_;omega),ju.only e7 hx8 (by omega)⟩
       · rw[if_neg (by rw[hb];decide)] at hk7;refine ax ?_;exact ih (q+1) ⟨by omega,hs7,by rw[if_neg (by rw[hb];decide)];exact hk7,hkr7,e7⟩
     · obtain rfl:q=4:=by omega
       have hfin:NJ acc (if nt then 4 else 0)=dI 1 (if l.head? =some 94 then mO acc else acc) (.slice none 0 0):=by
        subst hnt
        by_cases hd:l.head? =some 94<;>simp[hd]<;>rfl
       rw[hfin] at hk7;have hbr2:ie l=some (.mk 1 (if l.head? =some 94 then mO acc else acc) [],m.tail):=by rw[hbr,htgt];rfl
       generalize (if l.head? =some 94 then mO acc else acc)=fs at hk7 hbr2;refine ax ?_;refine xp rfl (jT rfl hk7.row) ?_;refine dD rfl (iV rfl rfl hkr7 (bO.one (fu h7 (only rb) 1 fs))) ?_;rintro _ h8 ⟨rfl,hk8,hx8,hz8⟩;refine ax ?_;have hk8:aH h8 h.size 291 (dI 1 fs (.slice none 0 0)):=hk8;refine qZ (pH rfl hk8.row qW) ?_;exact⟨_,m.tail,hbr2,⟨_,rfl,fu _ _ _ _⟩,aH.ext hs7 hx8 (by show ¬_=_;omega),ju.only e7 hx8 (Nat.le_refl _)⟩
theorem bO.low {cs:List Value}(k:bO h (FJ m) cs x) (hn:n<=m) (e:Ext M h h') (hM:∀b,b<h.size->M b->b<m):bO h' (FJ n) cs x :=
 k.mv (Mv.cU e fun b hb ho=>⟨fun hm=>ho (hM b hb hm),fun k=>ho (Nat.lt_of_lt_of_le k hn)⟩)
theorem IK {cs ds:List Value}(h:cs.length=ds.length):over cs 0 ds=ds:=by
 unfold over;rw[List.drop_of_length_le (by omega)];simp
theorem qv {O:Nat->Prop}{v:Value}{xs:List Nd}(kind:Nat) (hv:bB sM h O v xs):af Tryz.prog 288 #[.int .i64 (kind:Nat),v] h (bf fun r h'=>(∃w,r= .agg (dI (b6 kind xs).kind (b6 kind xs).set w).toArray/\bO h' O (dI (b6 kind xs).kind (b6 kind xs).set w) (b6 kind xs))/\aq h h'):=by
 obtain⟨oa,n,c,rfl,hsl⟩:=hv.open;have hn:=hsl.len;refine eV ?_;refine ax ?_;refine xo rfl (pI) ?_;rintro _ h1 ⟨rfl,hk,he,hz⟩;refine ax ?_;have hk:aH h1 h.size 291 (dI 0 0 (.slice none 0 0)):=hk;have hsl1:=hsl.mv (Mv.ak he);have hv1:=hv.ak he;refine dM (fun e0=>?_) (fun e0=>?_)
 · obtain rfl:n=0:=by omega
   have hx:xs=[]:=List.eq_nil_of_length_eq_zero hn;subst hx;refine ax ?_;refine xp rfl (aE (H.EO ) rfl) ?_;refine dD rfl (iV rfl rfl hk) ?_;rintro _ h2 ⟨rfl,hk2,hx2,hz2⟩;refine ax ?_;have hk2:aH h2 h.size 291 (dI 0 0 (.slice none 0 0)):=hk2;refine qZ (pH rfl hk2.row qW) ?_;exact⟨_,rfl,⟨_,rfl,fu _ _ 0 0⟩,aq.only he hx2 (Nat.le_refl _)⟩
 · refine ax ?_;refine dM (fun e1=>?_) (fun e1=>?_)
   · obtain rfl:n=1:=by omega
     obtain⟨x,rfl⟩:=List.length_eq_one_iff.1 hn;obtain⟨b,o,cs,ha,ho,hr,hR⟩:=hsl.get 0 x rfl;have hr:=he.rowAt (fun k=>k) hr;obtain⟨w,rfl,hw⟩:=bO.open hR;refine dc ?_;refine fE ?_;refine cG ?_;refine xp rfl (fN rfl rfl 0 rfl ha (by decide)) ?_;refine xp rfl (jT rfl hr) ?_;refine dD rfl (iV rfl rfl hk (sM.one hR)) ?_;rintro _ h2 ⟨rfl,hk2,hx2,hz2⟩;refine ax ?_;have hk2:aH h2 h.size 291 (dI x.kind x.set w):=hk2;refine qZ (pH rfl hk2.row qW) ?_;exact⟨_,rfl,⟨w,rfl,bO.ak hR (aq.only he hx2 (Nat.le_refl _))⟩,aq.only he hx2 (Nat.le_refl _)⟩
   · refine ax ?_;refine xp rfl (aE (H.rM _ _ _ _) rfl) ?_;refine dD rfl (iV rfl rfl hk) ?_;rintro _ h2 ⟨rfl,hk2,hx2,hz2⟩;refine ax ?_;have hk2:aH h2 h.size 291 (dI kind 0 (.slice oa n c)):=hk2;refine qZ (pH rfl hk2.row qW) ?_
     have hj:b6 kind xs= .mk kind 0 xs:=by
      unfold b6;split
      · simp at hn;omega
      · simp at hn;omega
      · rfl
     rw[hj];exact⟨_,rfl,⟨.slice oa n c,rfl,bO.of kind 0 (hv.ak (aq.only he hx2 (Nat.le_refl _)))⟩,aq.only he hx2 (Nat.le_refl _)⟩
def Sg (h:aj) (lim:Nat):Prop:=∃m,12<lim/\m<lim/\cellAt h ⟨12,0,none⟩=some (.map (some m)) /\
 ∃l:List (Int×Int),fy (Value.int .u8) (Value.int .i64) h m l/\∀c:UInt8,((kO (c.toNat:Int) l).map (Value.int .i64)).getD (Value.int .i64 0)=Value.int .i64 (de c:Nat)
theorem Sg.ext {h h':aj}{lim:Nat}(k:Sg h lim){M:Nat->Prop}(e:Ext M h h') (hM:∀b,M b->lim<=b):Sg h' lim:=by
 obtain⟨m,h1,h2,h3,l,h4,h5⟩:=k;exact⟨m,h1,h2,e.cell (fun k=>absurd (hM _ k) (by show ¬lim<=12;omega)) h3,l,h4.ext e (fun k=>by have:=hM _ k;omega),h5⟩
def xb (d lim:Nat):Prop:=∀(h:aj) (rb:Nat) (l:By),Sg h lim->lim<=rb->St h rb l->l.length<d->l.length<=1000000 ->
 af Tryz.prog 239 #[Dq rb] h (PR rb h (dP d l) (EX h.size))
theorem EP (ih:xb d lim) (hg:Sg h lim) (hrb:lim<=rb) (hs:St h rb l) (hd:l.length<=d) (hl:l.length<=1000000):af Tryz.prog 350 #[Dq rb] h (PR rb h (fm (dP d) l) (EX h.size)):=by
 have hlt:=hs.lt;refine eV ?_;refine ax ?_;refine xo rfl (pI) ?_;rintro _ h1 ⟨rfl,hkr,he1,hz1⟩;refine ax ?_;refine xp rfl (aE (H.FM _) rfl) ?_;refine xo rfl (pI) ?_;rintro _ h2 ⟨rfl,hk2,he2,hz2⟩;refine dD rfl (iV rfl rfl hk2) ?_;rintro _ h3 ⟨rfl,hk3,hx3,hz3⟩;have hk3:aH h3 h1.size 291 (dI 1 0 (.slice none 0 0)):=hk3;have hkr:aH h1 h.size 291 (dI 0 0 (.slice none 0 0)):=hkr;have e3:aq h h3:=aq.only (he1.trans he2) hx3 (by omega);have hkr3:aH h3 h.size 291 (dI 0 0 (.slice none 0 0)):=(hkr.ak he2).ext hx3 (by show ¬_=_;omega);have hs3:St h3 rb l:=aH.ak hs e3;refine ax ?_;refine xo rfl (xL rfl (fO hs3 hl) ((fun _ _ ⟨hc,hp,hx⟩=>PR.no hc (by rw[iW hp];rfl) ((aq.of e3).trans hx)))) ?_;rintro _ h4 ⟨c,r,hp,rfl,hs4,hx4⟩;obtain rfl:=fP hp;simp only[List.length_cons] at hl hd;have hkr4:=hkr3.ext hx4 (by show ¬_=_;omega);have hk4:=hk3.ext hx4 (by show ¬_=_;omega);have e4:Ext (only rb) h h4:=(aq.of e3).trans hx4;have hz4:=hx4.size;have hg4:Sg h4 lim:=hg.ext e4 (fun b (hb:b=rb)=>by omega);refine ax ?_
 have fin:∀(x:Nd) (w:Value) (m:By) (h':aj) (ρ':Env),Sub [(0,Dq rb),(2,.pointer (some ⟨h.size,0,none⟩)),(3,.pointer (some ⟨h1.size,0,none⟩))] ρ'->aH h' h1.size 291 (dI x.kind x.set w)->aH h' h.size 291 (dI 0 0 (.slice none 0 0))->St h' rb m->bO h' (FJ (h.size+1)) (dI x.kind x.set w) x->Ext (only rb) h h'->fm (dP d) (c::r)=some (x,m)->G Tryz.prog 350 f350 [.code [1,1,1]] ρ' h' (PR rb h (fm (dP d) (c::r)) (EX h.size)):=by
  rintro x w m hh ρ' hsub hkx hkrr hst hnd hee hat;refine G.sub (ρ':=[(0,Dq rb),(2,.pointer (some ⟨h.size,0,none⟩)),(3,.pointer (some ⟨h1.size,0,none⟩))]) hsub ?_;refine ax ?_;refine xp rfl (jT rfl hkx.row) ?_;refine dD rfl (iV rfl rfl hkrr (bO.one hnd)) ?_;rintro _ h9 ⟨rfl,hk9,hx9,hz9⟩;refine ax ?_;have hk9:aH h9 h.size 291 (dI x.kind x.set w):=hk9;refine qZ (pH rfl hk9.row qW) ?_;exact⟨x,m,hat,⟨w,rfl,bO.low hnd (Nat.le_succ _) hx9 (fun b _ (hb:b=h.size)=>by omega)⟩,aH.ext hst hx9 (by show ¬_=_;omega),ju.only hee hx9 (Nat.le_refl _)⟩
 refine dM (fun c1=>?_) (fun c1=>?_)
 · have c1:c=40:=(cQ rfl).1 c1;subst c1;refine ax ?_;refine xo rfl (xL rfl (ih h4 rb r hg4 hrb hs4 (by omega) (by omega)) ((fun _ _ ⟨hc,hp,hx⟩=>PR.no hc (by unfold fm;simp[hp]) (e4.trans hx)))) ?_;rintro _ h5 ⟨x,r5,hp5,⟨w,rfl,hnd5⟩,hs5,hx5⟩;have hk5:=hk4.ext hx5 (by show ¬_=_;omega);have hkr5:=hkr4.ext hx5 (by show ¬_=_;omega);have hr5:=j9 d hp5;refine dD rfl (iV rfl rfl hk5 (bO.one hnd5)) ?_;rintro _ h6 ⟨rfl,hk6,hx6,hz6⟩;refine ax ?_;have hk6:aH h6 h1.size 291 (dI x.kind x.set w):=hk6;have hs6:St h6 rb r5:=aH.ext hs5 hx6 (by show ¬_=_;omega);have hnd6:bO h6 (FJ (h.size+1)) (dI x.kind x.set w) x:=bO.low hnd5 (by omega) hx6 (fun b _ (hb:b=h1.size)=>by omega);have e6:=ju.only (e4.trans hx5) hx6 (by omega);refine xo rfl (xL rfl (vw 41 hs6 (by omega)) ((fun _ _ ⟨hc,hp,hx⟩=>PR.no hc (by unfold fm;simp only[if_true,hp5];split;rename_i t ht;cases ht;simp at hp;rfl) (e6.trans hx)))) ?_;rintro _ h7 ⟨_,r7,hp7,_,hs7,hx7⟩;refine iF ?_;refine dc ?_
   have hcl:r5=41::r7:=by
    split at hp7
    · rename_i hh;cases hp7;cases r5 with|nil=>cases hh|cons a b=>simp at hh;subst hh;rfl
    · cases hp7
   subst hcl;exact fin x w r7 _ _ (by exact sb rfl) (hk6.ext hx7 (by show ¬_=_;omega)) ((hkr5.ext hx6 (by show ¬_=_;omega)).ext hx7 (by show ¬_=_;omega)) hs7 (bO.low hnd6 (Nat.le_refl _) hx7 (fun b _ (hb:b=rb)=>by omega)) (e6.trans hx7) (by unfold fm;simp[hp5])
 · have c1:¬c=40:=fun e=>c1 ((cQ rfl).2 e)
   refine ax ?_;refine dM (fun c2=>?_) (fun c2=>?_)
   · have c2:c=91:=(cQ rfl).1 c2;refine ax ?_;refine xo rfl (xL rfl (yD hs4 (by omega)) ((fun _ _ ⟨hc,hp,hx⟩=>PR.no hc (by unfold fm;simp[c2,hp]) (e4.trans hx)))) ?_;rintro _ h5 ⟨x,r5,hp5,⟨w,rfl,hnd5⟩,hs5,hx5⟩;have hk5:=hk4.ext hx5 (by show ¬_=_;omega);have hkr5:=hkr4.ext hx5 (by show ¬_=_;omega);refine dD rfl (iV rfl rfl hk5 (bO.one hnd5)) ?_;rintro _ h6 ⟨rfl,hk6,hx6,hz6⟩;refine iF ?_;refine dc ?_;have hk6:aH h6 h1.size 291 (dI x.kind x.set w):=hk6;exact fin x w r5 _ _ (by exact sb rfl) hk6 (hkr5.ext hx6 (by show ¬_=_;omega)) (aH.ext hs5 hx6 (by show ¬_=_;omega)) (bO.low hnd5 (by omega) hx6 (fun b _ (hb:b=h1.size)=>by omega)) (ju.only (e4.trans hx5) hx6 (by omega)) (by unfold fm;simp[c2,hp5])
   · have c2:¬c=91:=fun e=>c2 ((cQ rfl).2 e)
     refine ax ?_;refine dM (fun c3=>?_) (fun c3=>?_)
     · have c3:c=46:=(cQ rfl).1 c3;refine ax ?_;refine xo rfl (dz rfl (gL hk4 0 9)) ?_;rintro _ h5 ⟨hk5,hx5⟩;refine ax ?_;refine xo rfl (dz rfl (gL hk5 11 255)) ?_;rintro _ h6 ⟨hk6,hx6⟩;refine iF ?_;refine dc ?_;have hx56:=hx5.trans hx6;exact fin MD (.slice none 0 0) r _ _ (by exact sb rfl) hk6 (hkr4.ext hx56 (by show ¬_=_;omega)) (aH.ext hs4 hx56 (by show ¬_=_;omega)) (fu _ _ _ _) (ju.only e4 hx56 (by omega)) (by unfold fm;simp[c3])
     · have c3:¬c=46:=fun e=>c3 ((cQ rfl).2 e)
       refine ax ?_;refine dM (fun c4=>?_) (fun c4=>?_)
       · have c4:c=92:=(cQ rfl).1 c4;refine ax ?_;refine xo rfl (xL rfl (ox hs4 (by omega)) ((fun _ _ ⟨hc,hp,hx⟩=>PR.no hc (by unfold fm;simp[c4,hp]) (e4.trans hx)))) ?_;rintro _ h5 ⟨b,r5,hp5,rfl,hs5,hx5⟩;have hk5:=hk4.ext hx5 (by show ¬_=_;omega);have hkr5:=hkr4.ext hx5 (by show ¬_=_;omega);refine ax ?_;refine xo rfl (dz rfl (gL hk5 b b)) ?_;rintro _ h6 ⟨hk6,hx6⟩;refine iF ?_;refine dc ?_;exact fin (Bg b) (.slice none 0 0) r5 _ _ (by exact sb rfl) hk6 (hkr5.ext hx6 (by show ¬_=_;omega)) (aH.ext hs5 hx6 (by show ¬_=_;omega)) (fu _ _ _ _) (ju.only (e4.trans hx5) hx6 (by omega)) (by unfold fm;simp[c4,hp5])
       · have c4:¬c=92:=fun e=>c4 ((cQ rfl).2 e)
         refine ax ?_;refine dM (fun d41=>?_) (fun d41=>?_)
         · have d41:c=41:=(cQ rfl).1 d41;refine ax ?_;refine tf rfl (by rw[d41];decide) ?_;refine ax ?_;refine xp rfl (aE (H.gR ) rfl) ?_;refine ax ?_;refine dD rfl (cZ (Φ:=fun _ _=>False) rfl (PR.no rfl (by unfold fm;simp[d41]) e4)) ?_;rintro _ _ hpn;exact hpn.elim
         · have d41:¬c=41:=fun e=>d41 ((cQ rfl).2 e)
           refine ax ?_;refine dM (fun d93=>?_) (fun d93=>?_)
           · have d93:c=93:=(cQ rfl).1 d93;refine ax ?_;refine tf rfl (by rw[d93];decide) ?_;refine ax ?_;refine xp rfl (aE (H.gR ) rfl) ?_;refine ax ?_;refine dD rfl (cZ (Φ:=fun _ _=>False) rfl (PR.no rfl (by unfold fm;simp[d93]) e4)) ?_;rintro _ _ hpn;exact hpn.elim
           · have d93:¬c=93:=fun e=>d93 ((cQ rfl).2 e)
             refine ax ?_;refine dM (fun d124=>?_) (fun d124=>?_)
             · have d124:c=124:=(cQ rfl).1 d124;refine ax ?_;refine tf rfl (by rw[d124];decide) ?_;refine ax ?_;refine xp rfl (aE (H.gR ) rfl) ?_;refine ax ?_;refine dD rfl (cZ (Φ:=fun _ _=>False) rfl (PR.no rfl (by unfold fm;simp[d124]) e4)) ?_;rintro _ _ hpn;exact hpn.elim
             · have d124:¬c=124:=fun e=>d124 ((cQ rfl).2 e)
               refine ax ?_;refine dM (fun d42=>?_) (fun d42=>?_)
               · have d42:c=42:=(cQ rfl).1 d42;refine ax ?_;refine tf rfl (by rw[d42];decide) ?_;refine ax ?_;refine xp rfl (aE (H.gR ) rfl) ?_;refine ax ?_;refine dD rfl (cZ (Φ:=fun _ _=>False) rfl (PR.no rfl (by unfold fm;simp[d42]) e4)) ?_;rintro _ _ hpn;exact hpn.elim
               · have d42:¬c=42:=fun e=>d42 ((cQ rfl).2 e)
                 refine ax ?_;refine dM (fun d43=>?_) (fun d43=>?_)
                 · have d43:c=43:=(cQ rfl).1 d43;refine ax ?_;refine tf rfl (by rw[d43];decide) ?_;refine ax ?_;refine xp rfl (aE (H.gR ) rfl) ?_;refine ax ?_;refine dD rfl (cZ (Φ:=fun _ _=>False) rfl (PR.no rfl (by unfold fm;simp[d43]) e4)) ?_;rintro _ _ hpn;exact hpn.elim
                 · have d43:¬c=43:=fun e=>d43 ((cQ rfl).2 e)
                   refine ax ?_;refine dM (fun d63=>?_) (fun d63=>?_)
                   · have d63:c=63:=(cQ rfl).1 d63;refine ax ?_;refine xp rfl (aE (H.gR ) rfl) ?_;refine ax ?_;refine dD rfl (cZ (Φ:=fun _ _=>False) rfl (PR.no rfl (by unfold fm;simp[d63]) e4)) ?_;rintro _ _ hpn;exact hpn.elim
                   · have d63:¬c=63:=fun e=>d63 ((cQ rfl).2 e)
                     refine ax ?_;refine xo rfl (dz rfl (gL hk4 c c)) ?_;rintro _ h6 ⟨hk6,hx6⟩;refine iF ?_;refine dc ?_;exact fin (Bg c) (.slice none 0 0) r _ _ (by exact sb rfl) hk6 (hkr4.ext hx6 (by show ¬_=_;omega)) (aH.ext hs4 hx6 (by show ¬_=_;omega)) (fu _ _ _ _) (ju.only e4 hx6 (by omega)) (by unfold fm;simp[c1,c2,c3,c4,d41,d93,d124,d42,d43,d63])
theorem Ar {ρ:Env}{dst:Option Nat}{ty:TypeId}{pos:String}{after:Array Edge}{guard:Option (Nat×Bool)}{x y:Operand}{l:List (Int×Int)}
 (hx:aU ρ x=some (.map (some m))) (hy:aU ρ y=some (.int .u8 (c.toNat:Nat))) (hm:fy (Value.int .u8) (Value.int .i64) h m l) (hv:∀c:UInt8,((kO (c.toNat:Int) l).map (Value.int .i64)).getD (Value.int .i64 0)=Value.int .i64 (de c:Nat)) :
 ai Tryz.prog ⟨dst,.lookup 429 x y false,ty,pos,after,guard⟩ ρ h (.int .i64 (de c:Nat)):=by
 have:=ai.lookup (P:=Tryz.prog) (ρ:=ρ) (h:=h) (dst:=dst) (ty:=ty) (pos:=pos) (after:=after) (guard:=guard) (jo.int .u8) underlying429 underlying5 (z:=.int .i64 0) (et:=3) (by kernel_rfl) hx hy rfl hm
 rwa [hv c] at this
theorem BZ (h:0<de c):eK x (c::r)=eK (.mk (de c) 0 [x]) r:=by
 rw[eK,if_neg (by omega)]
theorem BY {m:By}(h:de (m.head?.getD 0)=0):eK x m=(x,m):=by
 cases m with
 |nil=>rfl
 |cons c r=>rw[eK,if_pos (by simpa using h)]
theorem Cc (ih:xb d lim) (hg:Sg h lim) (hrb:lim<=rb) (hs:St h rb l) (hd:l.length<=d) (hl:l.length<=1000000):af Tryz.prog 333 #[Dq rb] h (PR rb h (fS (dP d) l) (EX h.size)):=by
 have hlt:=hs.lt;refine eV ?_;refine ax ?_;refine xo rfl (pI) ?_;rintro _ h1 ⟨rfl,hkr,he1,hz1⟩;refine ax ?_;refine xo rfl (xL rfl (EP ih (hg.ext he1 (fun _ k=>k.elim)) hrb (aH.ak hs he1) hd hl) ((fun _ _ ⟨hc,hp,hx⟩=>PR.no hc (by unfold fS;rw[hp];rfl) ((aq.of he1).trans hx)))) ?_;rintro _ h2 ⟨x0,m0,hp0,⟨w0,rfl,hnd2⟩,hs2,hx2⟩;refine xo rfl (pI) ?_;rintro _ h3 ⟨rfl,hk3,he3,hz3⟩;refine dD rfl (iV rfl rfl hk3 (bO.one hnd2)) ?_;rintro _ h4 ⟨rfl,hk4,hx4,hz4⟩;have hz2:=hx2.size;have hkr:aH h1 h.size 291 (dI 0 0 (.slice none 0 0)):=hkr;have hk4:aH h4 h2.size 291 (dI x0.kind x0.set w0):=hk4;have e2:Ext (only rb) h h2:=(aq.of he1).trans hx2;have hkr2:=hkr.ext hx2 (by show ¬_=_;omega);have e24:aq h2 h4:=aq.only he3 hx4 (Nat.le_refl _);have hnd4:bO h4 (fun b=>b<h.size+1\/b=h2.size) (dI x0.kind x0.set w0) x0:=hnd2.mv (Mv.cU e24 fun b hb hn=>⟨fun k=>k,fun k=>by have:¬b<h1.size:=hn;omega⟩);have hm0:=zH (fun h=>j9 d h) hp0;have hpc:fS (dP d) l=some (eK x0 m0):=by unfold fS;rw[hp0];rfl
 generalize htg:eK x0 m0=tgt at hpc;generalize hnb:h2.size=nb at hk4 hnd4 hs2;have hnb1:h.size+1<=nb:=by omega
 refine ax ?_;refine OJ (σ:=Nd×Value×By) (fun q=>[(0,Dq rb),(2,.pointer (some ⟨h.size,0,none⟩)),(3,.pointer (some ⟨nb,0,none⟩))]) (fun q h'=>St h' rb q.2.2/\aH h' nb 291 (dI q.1.kind q.1.set q.2.1)/\aH h' h.size 291 (dI 0 0 (.slice none 0 0))/\Ext (only rb) h h'/\bO h' (fun b=>b<h.size+1\/b=nb) (dI q.1.kind q.1.set q.2.1) q.1/\q.2.2.length<=1000000/\eK q.1 q.2.2=tgt) (fun q=>q.2.2.length) ((x0,w0,m0)) ⟨aH.ak hs2 e24,hk4,hkr2.ak e24,ju.ak e2 e24,hnd4,by show m0.length<=_;omega,htg⟩ ?_;rintro⟨x,w,m⟩ h5 ⟨hs5,hk5,hkr5,e5,hnd5,hm,hsg⟩ ih
 try dsimp only
 dsimp only at hs5 hk5 hnd5 hm hsg;have hg5:Sg h5 lim:=hg.ext e5 (fun b (hb:b=rb)=>by omega);obtain⟨mp,hm1,hm2,hcell,lm,hmap,hval⟩:=hg5;refine ax ?_;refine SO ?_;refine rU rfl (bJ rfl hcell) ?_;refine ax ?_;refine SG (vq hs5) ?_;refine rU rfl (Ar rfl rfl hmap hval) ?_;refine ax ?_;refine dM (fun hgo=>?_) (fun hgo=>?_)
 · have hgo:0<de (m.head?.getD 0):=by omega
   obtain⟨c,r,rfl⟩:=List.exists_cons_of_ne_nil (fun(e:m=[])=>by rw[e] at hgo;revert hgo;decide);have hgo:0<de c:=hgo;rw[BZ hgo] at hsg;simp only[List.length_cons] at hm;have hlt5:=hk5.lt;have hltr:=hkr5.lt
   have hn1:¬((⟨12,0,none⟩:Addr).block=rb\/Array.size h5<=(⟨12,0,none⟩:Addr).block):=by
    show ¬(12=rb\/Array.size h5<=12);omega
   have hn2:¬(nb=rb\/Array.size h5<=nb):=by omega
   have hn3:¬(mp=rb\/Array.size h5<=mp):=by omega
   have hO5:¬(h5.size<h.size+1\/h5.size=nb):=by have:=hkr5.lt;omega
   refine ax ?_;refine Bt 8 (fun b=>b=rb\/Array.size h5<=b) (fun i=>Nat.blt i 7) ?_;refine eO 0 rfl (fun h' e=>bJ rfl (e.cell hn1 hcell)) ?_;refine cS 1 ?_;refine eO 4 rfl (fun h' e=>jT rfl (e.rowAt hn2 hk5.row)) ?_;refine SQ 2 5 rfl rfl (xL rfl (fO hs5 (by simp only[List.length_cons];omega)) ((fun _ _ ⟨_,hp,_⟩=>by cases hp))) (LL) ?_ ?_
   · rintro _ h6 ⟨_,_,hp6,rfl,hs6,hx6⟩;refine⟨fun _=>hx6.mono (fun _ _ k=>.inl k),?_⟩;cases hp6;have hmap6:=hmap.ext hx6 (by show ¬_=_;omega);have hz6:=hx6.size;have hk6:=hk5.ext hx6 (by show ¬_=_;omega);have hnd6:bO h6 (fun b=>b<h.size+1\/b=nb) (dI x.kind x.set w) x:=hnd5.mv (Mv.cU hx6 fun b hb hn=>⟨fun(k:b=rb)=>hn (.inl (by omega)),hn⟩);refine eO 3 rfl (fun h' e=>Ar rfl rfl (hmap6.ext e hn3) hval) ?_;refine nG 5 rfl (LL) ?_;rintro _ _ ⟨rfl,rfl⟩;refine⟨fun _=>by first|exact Ext.push _ _ _|assumption,?_⟩;refine eO 6 rfl (fun h' e=>aE (H.rM _ _ _ _) rfl) ?_;have hsl:=bB.lW (e:=sM) (t:=291) hnd6 (show ¬(h6.size<h.size+1\/h6.size=nb) by omega);have ep:=Ext.push (fun _=>False) h6 (.cells (dI x.kind x.set w).toArray 291);have hk7:=hk6.ak ep;have hs7:St _ rb r:=aH.ak hs6 ep;have hkr7:=(hkr5.ext hx6 (by show ¬_=_;omega)).ak ep;have e7:=ju.ak (e5.trans hx6) ep;refine zS 7 rfl (iV rfl rfl hk7 (bO.one (bO.of (de c) 0 hsl))) ?_;rintro _ h8 ⟨rfl,hk8,hx8,hz8⟩;refine⟨nofun,?_⟩;refine xM ?_;refine ax ?_;have hk8:aH h8 nb 291 (dI (de c) 0 (.slice (some ⟨h6.size,0,none⟩) 1 1)):=hk8;exact ih (.mk (de c) 0 [x],.slice (some ⟨h6.size,0,none⟩) 1 1,r) ⟨aH.ext hs7 hx8 (by show ¬_=_;omega),hk8,hkr7.ext hx8 (by show ¬_=_;omega),ju.only e7 hx8 (by omega),(bO.of (de c) 0 hsl).mv (Mv.cU hx8 fun b hb hn=>⟨fun(k:b=nb)=>hn (.inr k),hn⟩),by show r.length<=_;omega,hsg⟩ (by show r.length<(c::r).length;simp)
   · rintro _ _ ⟨rfl,rfl⟩;refine⟨fun _=>by first|exact Ext.push _ _ _|assumption,?_⟩;have hsl:=bB.lW (e:=sM) (t:=291) hnd5 hO5;have ep:=Ext.push (fun _=>False) h5 (.cells (dI x.kind x.set w).toArray 291);refine nG 2 rfl (xL rfl (fO (aH.ak hs5 ep) (by simp only[List.length_cons];omega)) ((fun _ _ ⟨_,hp,_⟩=>by cases hp))) ?_;rintro _ h6 ⟨_,_,hp6,rfl,hs6,hx6⟩;refine⟨fun _=>hx6.mono (fun _ _ k=>.inl k),?_⟩;cases hp6;have hmap6:=(hmap.ext ep (fun k=>k)).ext hx6 (by show ¬_=_;omega);have hz6:=hx6.size;have hzp:(h5.push (.cells (dI x.kind x.set w).toArray 291)).size=h5.size+1:=by simp
     have hk6:=(hk5.ak ep).ext hx6 (by show ¬_=_;omega);have hkr6:=(hkr5.ak ep).ext hx6 (by show ¬_=_;omega);have hn4:¬(mp=rb\/Array.size h5<=mp):=hn3;refine eO 3 rfl (fun h' e=>Ar rfl rfl (hmap6.ext e hn4) hval) ?_;refine eO 6 rfl (fun h' e=>aE (H.rM _ _ _ _) rfl) ?_;have hsl6:bB sM h6 (fun b=>b<h.size+1\/b=nb) (.slice (some ⟨h5.size,0,none⟩) 1 1) [x]:=hsl.mv (Mv.cU hx6 fun b hb hn=>⟨fun(k:b=rb)=>hn (.inl (by omega)),hn⟩);refine zS 7 rfl (iV rfl rfl hk6 (bO.one (bO.of (de c) 0 hsl6))) ?_;rintro _ h8 ⟨rfl,hk8,hx8,hz8⟩;refine⟨nofun,?_⟩;refine xM ?_;refine ax ?_;have hk8:aH h8 nb 291 (dI (de c) 0 (.slice (some ⟨h5.size,0,none⟩) 1 1)):=hk8;exact ih (.mk (de c) 0 [x],.slice (some ⟨h5.size,0,none⟩) 1 1,r) ⟨aH.ext hs6 hx8 (by show ¬_=_;omega),hk8,hkr6.ext hx8 (by show ¬_=_;omega),ju.only ((ju.ak e5 ep).trans hx6) hx8 (by omega),(bO.of (de c) 0 hsl6).mv (Mv.cU hx8 fun b hb hn=>⟨fun(k:b=nb)=>hn (.inr k),hn⟩),by show r.length<=_;omega,hsg⟩ (by show r.length<(c::r).length;simp)
 · rw[BY (by omega)] at hsg;refine ax ?_;refine xp rfl (jT rfl hk5.row) ?_;refine dD rfl (iV rfl rfl hkr5 (bO.one hnd5)) ?_;rintro _ h6 ⟨rfl,hk6,hx6,hz6⟩;refine ax ?_;have hk6:aH h6 h.size 291 (dI x.kind x.set w):=hk6;refine qZ (pH rfl hk6.row qW) ?_;exact⟨x,m,by rw[hpc,<-hsg],⟨w,rfl,hnd5.mv (Mv.cU hx6 fun b hb hn=>⟨fun(k:b=h.size)=>hn (.inl (by omega)),fun(k:b<h.size)=>hn (.inl (by omega))⟩)⟩,aH.ext hs5 hx6 (by show ¬_=_;omega),ju.only e5 hx6 (Nat.le_refl _)⟩
theorem zf (ih:xb d lim) (hg:Sg h lim) (hrb:lim<=rb) (hs:St h rb l) (hd:l.length<=d) (hl:l.length<=1000000):af Tryz.prog 286 #[Dq rb] h (PR rb h (Aw (dP d) l) (EX h.size)):=by
 have hlt:=hs.lt;have hrl:∀{s x r},dP d s=some (x,r)->r.length<=s.length:=fun h=>j9 d h
 refine eV ?_;refine ax ?_;refine xo rfl (pI) ?_;rintro _ h1 ⟨rfl,hkr,he1,hz1⟩;refine ax ?_;have hkr:aH h1 h.size 291 (dI 0 0 (.slice none 0 0)):=hkr;generalize htg:mL (dP d) (l.length+1) l=tgt;have hrow:Aw (dP d) l=tgt.map fun p=>(b6 2 p.1,p.2):=by unfold Aw;rw[htg]
 have htg0:tgt.map (fun p=>(([]:List Nd)++p.1,p.2))=tgt:=by cases tgt<;>rfl
 refine qS (σ:=List Nd×Value×By) (fun q=>[(3,q.2.1)]) (fun q h'=>St h' rb q.2.2/\fB sM (FJ h1.size) h' h1.size 291 q.2.1 q.1/\aH h' h.size 291 (dI 0 0 (.slice none 0 0))/\Ext (only rb) h h'/\q.2.2.length+q.1.length<=l.length/\(mL (dP d) (q.2.2.length+1) q.2.2).map (fun p=>(q.1++p.1,p.2))=tgt) (fun q=>q.2.2.length) (([],.slice none 0 0,l)) ⟨aH.ak hs he1,fB.nil _ _ _ _ _,hkr,aq.of he1,by show l.length+0<=_;omega,by rw[htg];exact htg0⟩ rfl ?_;rintro⟨acc,v,m⟩ h5 ⟨hs5,hv5,hkr5,e5,hm,hcon⟩ ih'
 try dsimp only
 dsimp only at hs5 hv5 hm hcon
 iterate 2 refine dc ?_
 refine rV [(24,.bool (!jH m))] rfl ?_ ?_
 · refine ax ?_;refine xp rfl (bJ rfl hs5.cell) ?_;refine ax ?_;refine qV 9 (fun he=>?_) (fun he=>?_)
   · have hne:¬bs m=⟨#[]⟩:=of_decide_eq_true he;obtain⟨c,r,rfl⟩:=List.exists_cons_of_ne_nil (fun(e:m=[])=>hne (by rw[e];rfl));refine ax ?_;refine xp rfl (bJ rfl hs5.cell) ?_;refine xp rfl (Oj rfl rfl 0 rfl (mc rfl)) ?_;refine ax ?_;refine qV 17 (fun h124=>?_) (fun h124=>?_)
     · have h124:¬c=124:=fun e=>(of_decide_eq_true h124) ((cQ rfl).2 e)
       refine ax ?_;refine xp rfl (bJ rfl hs5.cell) ?_;refine xp rfl (Oj rfl rfl 0 rfl (mc rfl)) ?_;refine ax ?_;exact cY rfl ⟨aC rfl (by simp only[jH];rw[show (c ==124)=false by simpa using h124,Bool.false_or,show (c ==41)=decide (c=41) by rw[Bool.eq_iff_iff];simp,<-decide_not];exact decide_eq_decide.2 (not_congr (cQ rfl))),sb rfl⟩
     · have h124:c=124:=(cQ rfl).1 (Classical.not_not.1 (of_decide_eq_false h124));refine ax ?_;exact cY rfl ⟨aC rfl (by simp[jH,h124]),sb rfl⟩
   · have hne:bs m=⟨#[]⟩:=Classical.not_not.1 (of_decide_eq_false he);obtain rfl:m=[]:=jj hne;refine ax ?_;exact cY rfl ⟨aC rfl (by rfl),sb rfl⟩
 · obtain⟨css,hc1,hc2,hc3⟩:=id hv5;have hlt5:=hkr5.lt;have hz5:=e5.size;refine E4 (fun hgo=>?_) (fun hgo=>?_)
   · have hend:jH m=false:=by simpa using hgo
     have hcon':tgt=(match fS (dP d) m with|none=>none|some (x,r)=>((mL (dP d) (r.length+1) r).map fun p=>(x::p.1,p.2)).map (fun p=>(acc++p.1,p.2))):=by
      rw[<-hcon,mL,if_neg (by rw[hend];decide)];cases hp:fS (dP d) m with
      |none=>rfl
      |some q =>
       obtain⟨x,r⟩:=q;have:=fR hrl hp;simp only;rw[zh hrl m.length (r.length+1) r (by omega) (by omega)]
     refine ax ?_;refine xo rfl (xL rfl (Cc ih (hg.ext e5 (fun b (hb:b=rb)=>by omega)) hrb hs5 (by omega) (by omega)) ((fun _ _ ⟨hc,hp,hx⟩=>PR.no hc (by rw[hrow,hcon',hp];rfl) (e5.trans hx)))) ?_;rintro _ h6 ⟨x,r,hp,⟨w,rfl,hnd6⟩,hs6,hx6⟩;have hr6:=fR hrl hp;have hz6:=hx6.size;have hown:∀b,v.ownBlock=some b->h1.size<=b/\b<h5.size:=fun b hb=>hc2.lt hb
     have hc26:=hc2.ext hx6 (fun b hb (k:b=rb)=>by have:=hown b hb;omega);have hc36:∀(i:Nat) (cs:List Value) (x:Nd),css[i]? =some cs->acc[i]? =some x->sM.R h6 (fun b=>cj v.ownBlock b\/b<h1.size) cs x:=fun i cs x h1' h2'=>sM.mv (hc3 i cs x h1' h2') (Mv.cU hx6 fun b hb hn=>⟨fun(k:b=rb)=>hn (.inr (by show b<_;omega)),hn⟩)
     have hnd6':sM.R h6 (fun b=>cj v.ownBlock b\/b<h1.size) (dI x.kind x.set w) x:=bO.mv hnd6 ⟨Nat.le_refl _,fun b hb hn=>⟨rfl,fun k=>by
      have hn:¬b<h5.size:=hn
      rcases k with k|k
      · have:=hown b k.symm;omega
      · omega⟩⟩
     refine xo rfl (LL) ?_;rintro _ _ ⟨rfl,rfl⟩;refine xo rfl (aB.dZ underlying289 H.JB rfl rfl (hc26) rfl rfl (bO.one hnd6) (by omega) (by decide) (by omega)) ?_;rintro v7 h7 ⟨ho7,hx7,-,hv7⟩;refine ax ?_;have hrb7:¬cj v.ownBlock rb:=fun k=>by have:=hown rb k.symm;omega
     have hr7:¬cj v.ownBlock h.size:=fun k=>by have:=hown _ k.symm;omega
     have e7:Ext (only rb) h h7:=⟨by have:=hx7.size;omega,fun b hb hn=>by rw[hx7.block b (by omega) (fun k=>by have:=hown b k.symm;omega)];exact(e5.trans hx6).block b hb hn⟩
     rw[hp] at hcon';exact ih' (acc++[x],v7,r) ⟨aH.ext hs6 hx7 hrb7,fB.mN hc1 hc36 ho7 hx7 hv7 hnd6',(hkr5.ext hx6 (by show ¬_=_;omega)).ext hx7 hr7,e7,by show r.length+(acc++[x]).length<=_;rw[List.length_append,List.length_singleton];omega,by rw[hcon'];simp only[Option.map_map];congr 1;funext p;simp⟩
   · have hend:jH m=true:=by simpa using hgo
     rw[mL,if_pos hend] at hcon;have hsl:bB sM h5 (FJ h1.size) v acc:=hv5.read (fun b hb (k:b<h1.size)=>by omega) (fun b _ k=>k);refine ax ?_;refine xo rfl (dz rfl (qv 2 hsl)) ?_;rintro _ h6 ⟨⟨w,rfl,hnd6⟩,he6⟩;refine dD rfl (iV rfl rfl ((hkr5.ak he6)) (bO.one hnd6)) ?_;rintro _ h7 ⟨rfl,hk7,hx7,hz7⟩;refine ax ?_;have hk7:aH h7 h.size 291 (dI (b6 2 acc).kind (b6 2 acc).set w):=hk7;have hz6:=he6.size;refine qZ (pH rfl hk7.row qW) ?_;exact⟨b6 2 acc,m,by rw[hrow,<-hcon];simp,⟨w,rfl,bO.low hnd6 (by omega) hx7 (fun b _ (hb:b=h.size)=>by omega)⟩,aH.ext (aH.ak hs5 he6) hx7 (by show ¬_=_;omega),ju.only (ju.ak e5 he6) hx7 (Nat.le_refl _)⟩
theorem Gu (ih:xb d lim) (hg:Sg h lim) (hrb:lim<=rb) (hs:St h rb l) (hd:l.length<=d) (hl:l.length<=1000000):af Tryz.prog 239 #[Dq rb] h (PR rb h (dP (d+1) l) (EX h.size)):=by
 have hlt:=hs.lt;have hrl:∀{s x r},dP d s=some (x,r)->r.length<=s.length:=fun h=>j9 d h
 have hrows:dP (d+1) l=match Aw (dP d) l with|none=>none|some (x,r)=>sV (dP d) [x] r:=u9 hrl [] l
 refine eV ?_;refine ax ?_;refine xo rfl (pI) ?_;rintro _ h1 ⟨rfl,hkr,he1,hz1⟩;refine ax ?_;refine xo rfl (xL rfl (zf ih (hg.ext he1 (fun _ k=>k.elim)) hrb (aH.ak hs he1) hd hl) ((fun _ _ ⟨hc,hp,hx⟩=>PR.no hc (by rw[hrows,hp]) ((aq.of he1).trans hx)))) ?_;rintro _ h2 ⟨x0,m0,hp0,⟨w0,rfl,hnd2⟩,hs2,hx2⟩;have hkr:aH h1 h.size 291 (dI 0 0 (.slice none 0 0)):=hkr;have hz2:=hx2.size;have hm0:=B1 hrl hp0;have ep:=Ext.push (fun _=>False) h2 (.cells (dI x0.kind x0.set w0).toArray 291);have hv0:fB sM (FJ h1.size) (h2.push (.cells (dI x0.kind x0.set w0).toArray 291)) h1.size 291 (.slice (some ⟨h2.size,0,none⟩) 1 1) [x0]:=fB.lW (e:=sM) hnd2 hz2;have hs3:St _ rb m0:=aH.ak hs2 ep;have hkr3:=(hkr.ext hx2 (by show ¬_=_;omega)).ak ep;have e3:=ju.ak ((aq.of he1).trans hx2) ep;rw[hp0] at hrows;simp only at hrows;generalize htg:sV (dP d) [x0] m0=tgt at hrows;refine xo rfl (LL) ?_;rintro _ _ ⟨rfl,rfl⟩;refine ax ?_;refine OJ (σ:=List Nd×Value×By) (fun q=>[(0,Dq rb),(2,.pointer (some ⟨h.size,0,none⟩)),(3,q.2.1)]) (fun q h'=>St h' rb q.2.2/\fB sM (FJ h1.size) h' h1.size 291 q.2.1 q.1/\aH h' h.size 291 (dI 0 0 (.slice none 0 0))/\Ext (only rb) h h'/\(q.2.2.length<=l.length/\q.2.2.length+q.1.length<=l.length+1)/\sV (dP d) q.1 q.2.2=tgt) (fun q=>q.2.2.length) (([x0],.slice (some ⟨h2.size,0,none⟩) 1 1,m0)) ⟨hs3,hv0,hkr3,e3,⟨by show m0.length<=_;omega,by show m0.length+1<=_;omega⟩,htg⟩ ?_;rintro⟨acc,v,m⟩ h5 ⟨hs5,hv5,hkr5,e5,⟨hml,hm⟩,hcon⟩ ih'
 try dsimp only
 dsimp only at hs5 hv5 hml hm hcon;refine ax ?_;refine xo rfl (dz rfl (kZ 124 hs5 (by omega))) ?_;rintro _ h6 ⟨hor,hx6⟩;refine ax ?_;have hlt5:=hkr5.lt;have hz5:=e5.size;have hz6:=hx6.size;have hkr6:=hkr5.ext hx6 (by show ¬_=_;omega);have e6:=e5.trans hx6;have hv6:fB sM (FJ h1.size) h6 h1.size 291 v acc:=hv5.mv (hx6.mono fun b _ (k:b=rb)=>(by omega:b<h1.size)) (fun b hb (k:b<h1.size)=>by omega) (fun b _ k=>k);obtain⟨css,hc1,hc2,hc3⟩:=id hv6
 rcases hor with ⟨a1,rfl,hs6⟩|⟨a1,rfl,hs6⟩
 · obtain⟨c,t,rfl⟩:=List.exists_cons_of_ne_nil (fun(e:m=[])=>by rw[e] at a1;cases a1);have hs6:St h6 rb t:=hs6;simp only[List.length_cons] at hm hml
   have hcon':tgt=match Aw (dP d) t with|none=>none|some (x,r)=>sV (dP d) (acc++[x]) r:=by
    have hG:=u9 (rows:=dP d) hrl acc t;rw[<-hcon];refine Eq.trans ?_ hG;unfold sV;rw[if_pos a1];rfl
   refine tf rfl (by decide) ?_;refine ax ?_;refine xo rfl (xL rfl (zf ih (hg.ext e6 (fun b (hb:b=rb)=>by omega)) hrb hs6 (by omega) (by omega)) ((fun _ _ ⟨hc,hp,hx⟩=>PR.no hc (by rw[hrows,hcon',hp]) (e6.trans hx)))) ?_;rintro _ h7 ⟨x,r,hp,⟨w,rfl,hnd7⟩,hs7,hx7⟩;have hr7:=B1 hrl hp;have hz7:=hx7.size;have hown:∀b,v.ownBlock=some b->h1.size<=b/\b<h6.size:=fun b hb=>hc2.lt hb
   have hc27:=hc2.ext hx7 (fun b hb (k:b=rb)=>by have:=hown b hb;omega);have hc37:∀(i:Nat) (cs:List Value) (x:Nd),css[i]? =some cs->acc[i]? =some x->sM.R h7 (fun b=>cj v.ownBlock b\/b<h1.size) cs x:=fun i cs x h1' h2'=>sM.mv (hc3 i cs x h1' h2') (Mv.cU hx7 fun b hb hn=>⟨fun(k:b=rb)=>hn (.inr (by show b<_;omega)),hn⟩)
   have hnd7':sM.R h7 (fun b=>cj v.ownBlock b\/b<h1.size) (dI x.kind x.set w) x:=bO.mv hnd7 ⟨Nat.le_refl _,fun b hb hn=>⟨rfl,fun k=>by
    have hn:¬b<h6.size:=hn
    rcases k with k|k
    · have:=hown b k.symm;omega
    · omega⟩⟩
   refine xo rfl (LL) ?_;rintro _ _ ⟨rfl,rfl⟩;refine xo rfl (aB.dZ underlying289 H.JB rfl rfl (hc27) rfl rfl (bO.one hnd7) (by omega) (by decide) (by omega)) ?_;rintro v8 h8 ⟨ho8,hx8,-,hv8⟩;refine ax ?_;have hrb8:¬cj v.ownBlock rb:=fun k=>by have:=hown rb k.symm;omega
   have hr8:¬cj v.ownBlock h.size:=fun k=>by have:=hown _ k.symm;omega
   have e8:Ext (only rb) h h8:=⟨by have:=hx8.size;omega,fun b hb hn=>by rw[hx8.block b (by omega) (fun k=>by have:=hown b k.symm;omega)];exact(e6.trans hx7).block b hb hn⟩
   rw[hp] at hcon';exact ih' (acc++[x],v8,r) ⟨aH.ext hs7 hx8 hrb8,fB.mN hc1 hc37 ho8 hx8 hv8 hnd7',(hkr6.ext hx7 (by show ¬_=_;omega)).ext hx8 hr8,e8,⟨by show r.length<=_;omega,by show r.length+(acc++[x]).length<=_;rw[List.length_append,List.length_singleton];omega⟩,hcon'.symm⟩ (by show r.length<(c::t).length;simp only[List.length_cons];omega)
 · refine qT rfl (by decide) ?_;have hsl:bB sM h6 (FJ h1.size) v acc:=hv6.read (fun b hb (k:b<h1.size)=>by omega) (fun b _ k=>k);have hfin:tgt=some (b6 3 acc,m):=by rw[<-hcon];unfold sV;rw[if_neg a1]
   refine ax ?_;refine xo rfl (dz rfl (qv 3 hsl)) ?_;rintro _ h7 ⟨⟨w,rfl,hnd7⟩,he7⟩;refine dD rfl (iV rfl rfl ((hkr6.ak he7)) (bO.one hnd7)) ?_;rintro _ h8 ⟨rfl,hk8,hx8,hz8⟩;refine ax ?_;have hk8:aH h8 h.size 291 (dI (b6 3 acc).kind (b6 3 acc).set w):=hk8;have hz7:=he7.size;refine qZ (pH rfl hk8.row qW) ?_;exact⟨b6 3 acc,m,by rw[hrows,hfin],⟨w,rfl,bO.low hnd7 (by omega) hx8 (fun b _ (hb:b=h.size)=>by omega)⟩,aH.ext (aH.ak hs6 he7) hx8 (by show ¬_=_;omega),ju.only (ju.ak e6 he7) hx8 (Nat.le_refl _)⟩
theorem Fl (lim:Nat):∀d,xb d lim
 | 0=>fun _ _ l _ _ _ h _=>absurd h (Nat.not_lt_zero _)
 |d+1=>fun _ _ _ hg hrb hs hd hl=>Gu (Fl lim d) hg hrb hs (by omega) hl
end
end Go.Proofs.YtdihgdeciopfpaaGreatDoor
namespace Go.Proofs.YtdihgdeciopfpaaGreatDoor
open Go.Proofs.Tryz
open Go Go.Lw Go.RowKit
set_option maxRecDepth 20000 set_option maxHeartbeats 4000000
section
variable {h:aj}{nb eb:Nat}
abbrev yN:List Value:=dI 0 0 (.slice none 0 0)
theorem EH {cs:List Value}{v0:Value}(hcs:cs.length=6) (hk:aH h nb 291 cs) (he:aH h eb 38 [v0]) (hne:nb≠eb) (B w:World) (ha:At B h w) :
 CallsD Tryz.prog 238 #[.pointer (some ⟨nb,0,none⟩),.pointer (some ⟨eb,0,none⟩)] (.panicking [{ v:=vk,recovered:=false }]) w fun e u' w' =>
  (∃r,e= .returned r)/\u'= .panicking [{ v:=vk,recovered:=true }]/\∃h',At B h' w'/\aH h' nb 291 yN/\aH h' eb 38 [.int .i64 10]/\Ext (fun b=>b=nb\/b=eb) h h':=by
 refine nj (v:=vk) (vs:=[.pointer (some ⟨nb,0,none⟩),.pointer (some ⟨eb,0,none⟩)]) (u':=.panicking [{ v:=vk,recovered:=true }]) func238 rfl rfl rfl rfl rfl rfl rfl rfl rfl rfl (fun c₀ cs hu=>.inl (by simp[recoverD,hu])) (fun a hf=>?_);refine wp_seq (wp_region ?_);refine(show RW Tryz.prog Tryz.f238.ntmps _ 0 _ h (fun ρ' h'=>h'=h/\Sub [(5,.bool true),(2,vk),(0,.pointer (some ⟨nb,0,none⟩)),(1,.pointer (some ⟨eb,0,none⟩))] ρ') (fun _ _=>False) from ?_) B a w hf ha _ ?_ (fun _ _ _ _ _ _ k=>k.elim)
 · refine RW.an rfl rfl rfl rfl (aD rfl) ?_;refine RW.an rfl rfl rfl rfl (ai.Cp underlying20 rfl (.inr ⟨_,_,rfl⟩)) ?_;exact RW.done rfl ⟨rfl,rfl,rfl,rfl,rfl,trivial⟩
 rintro ρ' h' a1 w1 hf1 ha1 ⟨rfl,hsub⟩;have hf1:=hf1.sub hsub;refine wp_cond_true (hf1.eval (x:=.tmp 5) rfl) ?_;refine wp_seq (wp_region ?_);refine(show RW Tryz.prog Tryz.f238.ntmps _ 0 _ h' (fun ρ' g=>g=h'/\Sub [(0,.pointer (some ⟨nb,0,none⟩)),(1,.pointer (some ⟨eb,0,none⟩))] ρ') (fun _ _=>False) from ?_) B a1 w1 hf1 ha1 _ ?_ (fun _ _ _ _ _ _ k=>k.elim)
 · refine RW.an rfl rfl rfl rfl (aD rfl) ?_;refine RW.an rfl rfl rfl rfl (ai.yj underlying358 rfl) ?_;exact RW.done rfl ⟨rfl,rfl,rfl,trivial⟩
 rintro ρ'' h'' a2 w2 hf2 ha2 ⟨rfl,hsub2⟩;have hf2:=hf2.sub hsub2;refine wp_region ?_;refine(show RW Tryz.prog Tryz.f238.ntmps _ 0 _ h'' (fun _ g=>aH g nb 291 yN/\aH g eb 38 [.int .i64 10]/\Ext (fun b=>b=nb\/b=eb) h'' g) (fun _ _=>False) from ?_) B a2 w2 hf2 ha2 _ ?_ (fun _ _ _ _ _ _ k=>k.elim)
 · refine RW.an rfl rfl rfl rfl (aE (H.EO ) rfl) ?_;refine RW.dQ rfl rfl rfl (aB.aG H.mC rfl rfl hk rfl (by rw[hcs];decide) (by first|decide|simp[Value.oneCell'])) ?_;rintro _ h3 ⟨rfl,hk3,hx3,hz3⟩
   have hk3:aH h3 nb 291 yN:=by
    rw[IK (by rw[hcs];rfl)] at hk3;exact hk3
   refine RW.dQ rfl rfl rfl (aB.aS H.Ng rfl rfl (he.ext hx3 (fun e=>hne e.symm)) (by simp) rfl) ?_;rintro _ h4 ⟨rfl,hk4,hx4,hz4⟩;exact RW.done rfl ⟨hk3.ext hx4 (fun e=>hne e),hk4,(hx3.mono fun _ _ k=>.inl k).trans (hx4.mono fun _ _ k=>.inr k)⟩
 rintro _ h5 a5 w5 hf5 ha5 ⟨hq1,hq2,hq3⟩;exact⟨hf5.nd,_,gm hf5 ha5 .nil,⟨_,rfl⟩,rfl,h5,ha5,hq1,hq2,hq3⟩
theorem EI (B w:World) (ha:At B h w) :
 CallsD Tryz.prog 238 #[.pointer (some ⟨nb,0,none⟩),.pointer (some ⟨eb,0,none⟩)] .returning w fun e u' w'=>(∃r,e= .returned r)/\u'= .returning/\At B h w':=by
 refine nj (v:=.nilIface) (vs:=[.pointer (some ⟨nb,0,none⟩),.pointer (some ⟨eb,0,none⟩)]) (u':=.returning) func238 rfl rfl rfl rfl rfl rfl rfl rfl rfl rfl (fun c₀ cs hu=>.inr ⟨by simp[recoverD,hu],rfl,rfl⟩) (fun a hf=>?_);refine wp_seq (wp_region ?_);refine(show RW Tryz.prog Tryz.f238.ntmps _ 0 _ h (fun ρ' h'=>h'=h/\Sub [(5,.bool false)] ρ') (fun _ _=>False) from ?_) B a w hf ha _ ?_ (fun _ _ _ _ _ _ k=>k.elim)
 · refine RW.an rfl rfl rfl rfl (aD rfl) ?_;refine RW.an rfl rfl rfl rfl (ai.Cp underlying20 rfl (.inl rfl)) ?_;exact RW.done rfl ⟨rfl,rfl,trivial⟩
 rintro ρ' h' a1 w1 hf1 ha1 ⟨rfl,hsub⟩;have hf1:=hf1.sub hsub;refine wp_cond_false (hf1.eval (x:=.tmp 5) rfl) (wp_skip ?_);exact⟨hf1.nd,_,gm hf1 ha1 .nil,⟨_,rfl⟩,rfl,ha1⟩
theorem vJ {cs:List Value}{v0:Value}{ρ:Env}{R:Ending->aj->Prop}(h2:ρ.at 2=some (.pointer (some ⟨nb,0,none⟩))) (h3:ρ.at 3=some (.pointer (some ⟨eb,0,none⟩))) (hcs:cs.length=6) (hk:aH h nb 291 cs) (he:aH h eb 38 [v0]) (hne:nb≠eb)
 (hR:∀h',Ext (fun b=>b=nb\/b=eb) h h'->R (.returned (.tuple #[.agg yN.toArray,.int .i64 10])) h') :
 nR Tryz.prog f185 [{ target:=.fn (.func 238) #[.pointer (some ⟨nb,0,none⟩),.pointer (some ⟨eb,0,none⟩)],args:= #[] }] (.panicking [{ v:=vk,recovered:=false }]) ρ h R:=by
 intro B a w hf ha;refine leaves_cons (f:=238) (args:= #[.pointer (some ⟨nb,0,none⟩),.pointer (some ⟨eb,0,none⟩)]) (by simp) (oe func238 rfl (by decide +kernel)) ?_;refine(EH hcs hk he hne B w ha).mono ?_;rintro e u' w' ⟨⟨r,rfl⟩,rfl,h',ha',hk',he',hx'⟩;refine⟨_,gm hf.zero ha' (.cons (bT.ja H.zK H.mC h2 hk'.row rfl) (.cons (bT.cell H.N7 h3 (he'.cell (i:=0) rfl)) .nil)),h',ha',hR h' hx'⟩
theorem Ej {x:Nd}{w0:Value}{e0:Int}{ρ:Env}{R:Ending->aj->Prop}(h2:ρ.at 2=some (.pointer (some ⟨nb,0,none⟩))) (h3:ρ.at 3=some (.pointer (some ⟨eb,0,none⟩))) (hk:aH h nb 291 (dI x.kind x.set w0)) (he:aH h eb 38 [.int .i64 e0])
 (hR:R (.returned (.tuple #[.agg (dI x.kind x.set w0).toArray,.int .i64 e0])) h) :
 nR Tryz.prog f185 [{ target:=.fn (.func 238) #[.pointer (some ⟨nb,0,none⟩),.pointer (some ⟨eb,0,none⟩)],args:= #[] }] .returning ρ h R:=by
 intro B a w hf ha;refine leaves_cons (f:=238) (args:= #[.pointer (some ⟨nb,0,none⟩),.pointer (some ⟨eb,0,none⟩)]) (by simp) (oe func238 rfl (by decide +kernel)) ?_;refine(EI B w ha).mono ?_;rintro e u' w' ⟨⟨r,rfl⟩,rfl,ha'⟩;refine⟨_,gm hf.zero ha' (.cons (bT.ja H.zK H.mC h2 hk.row rfl) (.cons (bT.cell H.N7 h3 (he.cell (i:=0) rfl)) .nil)),h,ha',hR⟩
def Oa (h h':aj) (s:By) (r:Value):Prop:=∃w,r= .tuple #[.agg (dI (bN s).1.kind (bN s).1.set w).toArray,.int .i64 (bN s).2]/\bO h' (FJ h.size) (dI (bN s).1.kind (bN s).1.set w) (bN s).1
theorem Cf {lim:Nat}(hg:Sg h lim) (hlim:lim<=h.size) (s:By) (hs:s.length<=1000000):af Tryz.prog 185 #[.string (bs s)] h (bf fun r h'=>Oa h h' s r/\aq h h'):=by
 have hsz:=aR s;refine eV ?_;refine ax ?_;refine xo rfl (pI) ?_;rintro _ h1 ⟨rfl,hk1,he1,hz1⟩;refine xo rfl (pI) ?_;rintro _ h2 ⟨rfl,hk2,he2,hz2⟩;refine ax ?_;have hk1:aH h1 h.size 291 yN:=hk1;have hk2:aH h2 h1.size 38 [.int .i64 0]:=hk2;have hk12:=hk1.ak he2;have e2:=he1.trans he2;refine dM (fun hbig=>?_) (fun hbig=>?_)
 · have hE:bN s=(nN,3):=by unfold bN;rw[if_pos (by omega)]
   refine ax ?_;refine xp rfl (aE (H.EO ) rfl) ?_;refine dD rfl (iV rfl rfl hk12) ?_;rintro _ h3 ⟨rfl,hk3,hx3,hz3⟩;refine dD rfl (qY rfl rfl ((hk2.ext hx3 (by show ¬_=_;omega)))) ?_;rintro _ h4 ⟨rfl,hk4,hx4,hz4⟩;refine ax ?_;have hk3:aH h3 h.size 291 yN:=hk3;have hk4:aH h4 h1.size 38 [.int .i64 3]:=hk4;refine qZ (pH rfl ((hk3.ext hx4 (by show ¬_=_;omega)).row) (SD rfl (hk4.cell (i:=0) rfl) qW)) ?_;refine⟨_,rfl,⟨.slice none 0 0,by rw[hE];rfl,by rw[hE];exact fu _ _ 0 0⟩,aq.only (aq.only e2 hx3 (Nat.le_refl _)) hx4 (by omega)⟩
 · iterate 2 refine dc ?_
   refine G.NX (caps:=[.pointer (some ⟨h.size,0,none⟩),.pointer (some ⟨h1.size,0,none⟩)]) func185 rfl rfl rfl rfl rfl rfl rfl rfl rfl rfl rfl ?_;have hE:bN s=match jJ s with|some x=>(x,0)|none=>(nN,10):=by unfold bN;rw[if_neg (by omega)];rfl
   refine iy rfl ?_;refine GD.cA func185 rfl ?_;refine gE.an rfl rfl rfl rfl (aD rfl) ?_;refine gE.an rfl rfl rfl rfl (aE (H.Lh _) rfl) ?_;refine gE.xJ rfl rfl rfl rfl (aB.cx rfl) ?_;rintro _ h3 ⟨rfl,hk3,he3,hz3⟩;refine gE.an rfl rfl rfl rfl (ai.assign rfl) ?_;refine gE.done rfl ?_;refine GD.sub (ρ':=[(0,_),(2,_),(3,_),(4,_),(7,_)]) ⟨rfl,rfl,rfl,rfl,rfl,trivial⟩ ?_;refine iy rfl ?_;refine GD.cA func185 rfl ?_;refine gE.an rfl rfl rfl rfl (aD rfl) ?_;have hk3:aH h3 h2.size 361 [.string (bs s)]:=hk3;have hg3:Sg h3 lim:=hg.ext (e2.trans he3) (fun _ k=>k.elim);have hrows:=Fl lim (s.length+1) h3 h2.size s hg3 (by omega) hk3 (Nat.lt_succ_self _) hs;have hk13:=hk12.ak he3;have hk23:=hk2.ak he3;have e3:=e2.trans he3;refine gE.xJ rfl rfl rfl rfl (au (vs:=[_]) func239 rfl H.Pz rfl (af.OQ (hrows) ((fun _ h' ⟨hc,hp,hx⟩=>by rw[hc];exact vJ rfl rfl rfl (hk13.ext hx (by show ¬_=_;omega)) (hk23.ext hx (by show ¬_=_;omega)) (by omega) (fun h'' hx2=>⟨_,rfl,⟨.slice none 0 0,by rw[hE];unfold jJ;rw[hp];rfl,by rw[hE];unfold jJ;rw[hp];exact fu _ _ 0 0⟩,⟨by have:=hx.size;have:=hx2.size;have:=e3.size;omega,fun b hb _=>by rw[hx2.block b (by have:=hx.size;omega) (by omega),hx.block b (by omega) (by show ¬_=_;omega)];exact e3.block b hb (fun k=>k)⟩⟩))))) ?_;rintro _ h4 ⟨x,r,hp,⟨w,rfl,hnd⟩,hs4,hx4⟩;have hz4:=hx4.size;have hk14:=hk13.ext hx4 (by show ¬_=_;omega);have hk24:=hk23.ext hx4 (by show ¬_=_;omega);have e4:aq h h4:=aq.only e3 hx4 (by omega);refine gE.dQ rfl rfl rfl (aB.aG H.mC rfl rfl hk14 (by first|rfl|(simp;done)|(simp;omega)) (by first|decide|exact of_decide_eq_true rfl|(simp;done)|(simp;omega)) (bO.one hnd)) ?_;rintro _ h5 ⟨rfl,hk5,hx5,hz5⟩;refine gE.done rfl ?_;refine GD.sub (ρ':=[(0,_),(2,_),(3,_),(4,_),(7,_)]) ⟨rfl,rfl,rfl,rfl,rfl,trivial⟩ ?_;refine iy rfl ?_;refine iy rfl ?_;refine GD.cA func185 rfl ?_;refine gE.an rfl rfl rfl rfl (aD rfl) ?_;refine gE.an rfl rfl rfl rfl (aV rfl) ?_;refine gE.an rfl rfl rfl rfl (aa (off:=0) underlying361 rfl rfl H.js rfl) ?_;have hk5:aH h5 h.size 291 (dI x.kind x.set w):=hk5;have hk25:=hk24.ext hx5 (by show ¬_=_;omega);have hs5:St h5 h2.size r:=aH.ext hs4 hx5 (by show ¬_=_;omega);have hnd5:bO h5 (FJ h3.size) (dI x.kind x.set w) x:=bO.low hnd (Nat.le_refl _) hx5 (fun b _ (hb:b=h.size)=>by omega);have e5:=aq.only e4 hx5 (Nat.le_refl _);refine gE.an rfl rfl rfl rfl (ah H.jQ rfl hs5.cell) ?_;refine gE.an rfl rfl rfl rfl (ai.vu rfl rfl) ?_;refine gE.done rfl ?_;refine GD.sub (ρ':=[(0,_),(2,_),(3,_),(4,_),(7,_),(19,_)]) ⟨rfl,rfl,rfl,rfl,rfl,rfl,trivial⟩ ?_;refine Og rfl rfl (fun hr=>?_) (fun hr=>?_)
   · have hr:r≠[]:=fun e=>hr (by rw[e];rfl)
     have hpn:jJ s=none:=by
      unfold jJ;rw[hp];cases r with
      |nil=>exact absurd rfl hr
      |cons c t=>rfl
     refine GD.cA func185 rfl ?_;refine gE.an rfl rfl rfl rfl (aE (H.gR ) rfl) ?_;refine gE.an rfl rfl rfl rfl (gG H.ME rfl) ?_;refine gE.dQ rfl rfl rfl (cZ (Φ:=fun _ _=>False) rfl (vJ rfl rfl rfl hk5 hk25 (by omega) (fun h'' hx2=>⟨_,rfl,⟨.slice none 0 0,by rw[hE,hpn];rfl,by rw[hE,hpn];exact fu _ _ 0 0⟩,⟨by have:=hx2.size;have:=e5.size;omega,fun b hb _=>by rw[hx2.block b (by have:=e5.size;omega) (by omega)];exact e5.block b hb (fun k=>k)⟩⟩))) ?_;rintro _ _ hpn;exact hpn.elim
   · obtain rfl:r=[]:=jj (Classical.not_not.1 hr);have hpn:jJ s=some x:=by unfold jJ;rw[hp]
     refine F5 rfl ?_;refine iy rfl ?_;refine GD.cA func185 rfl ?_;refine gE.an rfl rfl rfl rfl (ai.aF H.zK H.mC rfl hk5.row (by first|rfl|(simp;done)|(simp;omega))) ?_;refine gE.dQ rfl rfl rfl (aB.aG H.mC rfl rfl hk5 (by first|rfl|(simp;done)|(simp;omega)) (by first|decide|exact of_decide_eq_true rfl|(simp;done)|(simp;omega)) (bO.one hnd5)) ?_;rintro _ h6 ⟨rfl,hk6,hx6,hz6⟩;refine gE.dQ rfl rfl rfl (aB.aS H.Ng rfl rfl (hk25.ext hx6 (by show ¬_=_;omega)) (by first|decide|exact of_decide_eq_true rfl|(simp;done)|(simp;omega)) rfl) ?_;rintro _ h7 ⟨rfl,hk7,hx7,hz7⟩;refine gE.done rfl ?_;refine GD.sub (ρ':=[(0,_),(2,_),(3,_),(4,_),(7,_),(19,_)]) ⟨rfl,rfl,rfl,rfl,rfl,rfl,trivial⟩ ?_;have hk6:aH h6 h.size 291 (dI x.kind x.set w):=hk6;have hk7:aH h7 h1.size 38 [.int .i64 0]:=hk7;have hk17:=hk6.ext hx7 (by show ¬_=_;omega);have e7:=aq.only (aq.only e5 hx6 (Nat.le_refl _)) hx7 (by omega);have hnd7:bO h7 (FJ h.size) (dI x.kind x.set w) x:=bO.low (bO.low hnd5 (Nat.le_refl _) hx6 (fun b _ (hb:b=h.size)=>by omega)) (by omega) hx7 (fun b _ (hb:b=h1.size)=>by omega);refine GD.ret func185 rfl ?_;exact Ej rfl rfl hk17 hk7 ⟨_,rfl,⟨w,by rw[hE,hpn],by rw[hE,hpn];exact hnd7⟩,e7⟩
end
end Go.Proofs.YtdihgdeciopfpaaGreatDoor
namespace Go.Proofs.YtdihgdeciopfpaaGreatDoor
open Go.Proofs.Tryz
open Go Go.Lw
set_option maxRecDepth 20000 set_option maxHeartbeats 4000000
section
variable {h:aj}{O:Nat->Prop}{v:Value}{nb st:Nat}{ss:List bC}
def dA (n:Nat):Value:=.int .i64 (n:Nat)
def ia:gH Nat:=.flat dA fun _=>rfl
def Gm (k s:Nat) (v:Value) (r:Nat):List Value:=[.int .i64 (k:Nat),eF s 0,eF s 1,eF s 2,eF s 3,v,.int .i64 (r:Nat)]
def J3 (h:aj) (O:Nat->Prop) (cs:List Value) (x:bC):Prop:=∃v,cs=Gm x.kind x.set v x.rule/\bB ia h O v x.to
theorem bB.Mu {α:Type}{e:gH α}{xs:List α}(k:bB e h O v xs):v.oneCell'=true:=by
 obtain⟨oa,n,c,rfl,_⟩:=k;rfl
def G8:gH bC:=⟨7,by decide,J3,fun h=>by obtain⟨v,rfl,_⟩:=h;rfl,fun h=>by
 obtain⟨v,rfl,hv⟩:=h;intro u hu;simp[Gm,eF] at hu
 rcases hu with rfl|rfl|rfl|rfl|rfl|rfl|rfl<;>first|rfl|exact bB.Mu hv,fun h m=>by
 obtain⟨v,hc,hv⟩:=h;exact⟨v,hc,hv.mv m⟩⟩
structure bV (h:aj) (O:Nat->Prop) (nb:Nat) (v:Value) (ss:List bC) (st:Nat):Prop where
 blk:aH h nb 287 [v,.int .i64 (st:Nat)]
 row:fB G8 (fun b=>b=nb\/O b) h (nb+1) 297 v ss
abbrev eD (nb:Nat) (v:Value):Nat->Prop:=fun b=>b=nb\/cj v.ownBlock b
theorem bV.own (k:bV h O nb v ss st):∀b,v.ownBlock=some b->nb<b/\b<h.size:=fun b hb=>by
 obtain⟨css,_,h2,_⟩:=k.row;have:=h2.lt hb;omega
theorem bV.ext {M:Nat->Prop}{O O':Nat->Prop}{h h':aj}{nb:Nat}{v:Value}{ss:List bC}{st:Nat}(k:bV h O nb v ss st) (e:Ext M h h') (hnb:¬M nb) (hown:∀b,v.ownBlock=some b->¬M b) (hM:∀b,b<h.size->M b->O b) (hO:∀b,b<h.size->O' b->O b):bV h' O' nb v ss st :=
 ⟨k.blk.ext e hnb,k.row.Fv e hown (fun b hb hm=>.inr (hM b hb hm)) (fun b hb k=>k.imp id (hO b hb))⟩
theorem bV.ak {O':Nat->Prop}{h':aj}(k:bV h O nb v ss st) (e:aq h h') (hO:∀b,b<h.size->O' b->O b):bV h' O' nb v ss st:=k.ext e (fun k=>k) (fun _ _ k=>k) (fun _ _ k=>k.elim) hO
theorem HB {w:Value}{x:bC}(hn:bV h O nb v ss st) (_hO:∀b,O b->b<h.size) (hx:J3 h (fun b=>eD nb v b\/O b) (Gm x.kind x.set w x.rule) x) (hl:ss.length<=1000000) :
 af Tryz.prog 187 #[.pointer (some ⟨nb,0,none⟩),.agg (Gm x.kind x.set w x.rule).toArray] h (bf fun r h'=>∃v',r= .int .i64 (ss.length:Nat)/\bV h' O nb v' (ss++[x]) st/\Ext (eD nb v) h h'/\(∀b,v'.ownBlock=some b->v.ownBlock=some b\/h.size<=b)):=by
 have hw1:∀u∈Gm x.kind x.set w x.rule,u.oneCell'=true:=G8.one hx;refine eV ?_;refine ax ?_;refine xo rfl (Bu) ?_;rintro _ h1 ⟨rfl,hk1,he1,hz1⟩;have hk1:aH h1 h.size 297 (Gm x.kind x.set w x.rule):=hk1;have hn1:=hn.ak (O':=O) he1 (fun _ _ k=>k);obtain⟨css,hc1,hc2,hc3⟩:=id hn1.row;have hown:=hn1.own;have hnlt:=hn1.blk.lt;have hnz:=hn.blk.lt;have hnM:¬(cj v.ownBlock nb\/Array.size h1<=nb):=by rintro(k|k);(have:=hown nb k.symm;omega);omega
 have hkM:¬(cj v.ownBlock h.size\/Array.size h1<=h.size):=by rintro(k|k);(have:=hn.own _ k.symm;omega);omega
 refine ax ?_;refine Bt 11 (fun b=>cj v.ownBlock b\/Array.size h1<=b) (fun i=>Nat.blt i 10) ?_;refine cS 0 ?_;refine cS 1 ?_;refine cS 2 ?_;refine cS 3 ?_;refine eO 4 rfl (fun h' e=>bJ rfl (e.cell hnM (hn1.blk.cell (i:=0) rfl))) ?_;refine eO 5 rfl (fun h' e=>jT rfl (e.rowAt hkM hk1.row)) ?_;refine nG 6 rfl (LL) ?_;rintro _ _ ⟨rfl,rfl⟩;refine⟨fun _=>by first|exact Ext.push _ _ _|assumption,?_⟩;refine nG 7 rfl (aB.dZ underlying285 H.Mz rfl rfl (hc2) rfl rfl (hw1) (by omega) (by decide) (by omega)) ?_;rintro v2 h2 ⟨ho2,hx2,hx2',hv2⟩;refine⟨fun _=>hx2'.mono (fun _ _ k=>.inl k),?_⟩;obtain⟨oa2,c2,rfl,_⟩:=ho2.open;refine LM 8 ?_;refine cS 9 ?_;refine zS 10 rfl (qY rfl rfl ((hn1.blk.ext hx2 (fun k=>by have:=hown nb k.symm;omega)))) ?_;rintro _ h3 ⟨rfl,hk3,hx3,hz3⟩;refine⟨nofun,?_⟩;refine xM ?_;refine ax ?_;have hxs:G8.R h1 (fun b=>cj v.ownBlock b\/b=nb\/O b) (Gm x.kind x.set w x.rule) x:=G8.mv hx ⟨he1.size,fun b hb hn=>⟨he1.block b hb (fun k=>k),fun k=>hn (by rcases k with k|k|k;(exact .inl (.inr k));(exact .inl (.inl k));exact .inr k)⟩⟩;have hrow2:fB G8 (fun b=>b=nb\/O b) h2 (nb+1) 297 (.slice oa2 (ss.length+1) c2) (ss++[x]):=fB.mN hc1 hc3 ho2 hx2 hv2 hxs;have hrow3:fB G8 (fun b=>b=nb\/O b) h3 (nb+1) 297 (.slice oa2 (ss.length+1) c2) (ss++[x]):=hrow2.Fv hx3 (fun b hb (k:b=nb)=>by have:=hv2 b hb;rcases this with k'|k';(have:=hown b k';omega);omega) (fun b _ k=>.inl k) (fun b _ k=>k);have hk3:aH h3 nb 287 [.slice oa2 (ss.length+1) c2,.int .i64 (st:Nat)]:=hk3;refine xp rfl (bJ rfl (hk3.cell (i:=0) rfl)) ?_;refine ax ?_;refine dS ?_;refine⟨_,rfl,_,?_,⟨hk3,hrow3⟩,⟨by have:=he1.size;have:=hx2.size;omega,fun b hb hn=>by rw[hx3.block b (by have:=hx2.size;omega) (fun k=>hn (.inl k)),hx2.block b (by omega) (fun k=>hn (.inr k)),he1.block b hb (fun k=>k)]⟩,fun b hb=>?_⟩
 · show Value.int _ _=_
   congr 1;omega
 · rcases hv2 b hb with k|k
   · exact .inl k
   · exact .inr (by omega)
theorem tC {l cap:Nat}{oa:Option Addr}{n c:Nat}{J:Nat->aj->Prop}(hn:n<=1000000)
 (hread:∀j h,J j h->cellAt h ⟨cap,0,none⟩=some (.slice oa n c)) (hy:∀j h,J (j+1) h->j<n->∃(b o k s:Nat) (w:Value),oa=some ⟨b,o,none⟩/\Lw.rowAt h b (o+j*6) (dI k s w) /\
  eC Tryz.prog l #[.int .i64 (j:Nat),.agg (dI k s w).toArray] h (bf fun r h'=>r= .bool true/\J j h')) (h0:J n h) :
 af Tryz.prog 289 #[.func (.yield l) #[] #[],.pointer (some ⟨cap,0,none⟩)] h (bf fun _ h'=>J 0 h'):=by
 refine eV ?_;refine ax ?_;refine xp rfl (bJ rfl (hread _ _ h0)) ?_;refine ax ?_;refine qS (σ:=Nat) (fun j=>[(3,.int .i64 ((j:Int)-1))]) (fun j h'=>J j h'/\j<=n) (fun j=>j) (n) ⟨h0,Nat.le_refl _⟩ rfl ?_;rintro j h1 ⟨hJ,hj⟩ ih;refine ax ?_;refine dM (fun hge=>?_) (fun hge=>?_)
 · obtain⟨i,rfl⟩:∃i,j=i+1:=⟨j-1,by omega⟩
   obtain⟨b,o,k,s,w,ha,hrow,hyy⟩:=hy i h1 hJ (by omega);have hji:((i+1:Nat):Int)-1=((i:Nat):Int):=by omega
   rw[hji];refine aI rfl ?_;refine av rfl ?_;refine G.block rfl rfl ?_;refine av rfl ?_;refine G.Ix func289 rfl ?_;refine bS.an rfl rfl rfl rfl rfl (aD rfl) ?_;refine bS.an rfl rfl rfl rfl rfl (aD rfl) ?_;refine bS.an rfl rfl rfl rfl rfl (ah H.MU rfl (hread _ _ hJ)) ?_;refine bS.an rfl rfl rfl rfl rfl (aD rfl) ?_;refine bS.an rfl rfl rfl rfl rfl (ai.aN underlying289 H.mC rfl rfl i rfl ha (by omega)) ?_;refine bS.an rfl rfl rfl rfl rfl (ai.aF H.zK H.mC rfl hrow (by first|rfl|(simp;done)|(simp;omega))) ?_;refine bS.yield (vs:=[_,_]) rfl rfl rfl rfl rfl rfl rfl (hyy) ?_;rintro _ h2 ⟨rfl,hJ2⟩;refine bS.an rfl rfl rfl rfl rfl (ai.D8 rfl) ?_;refine bS.done rfl ?_;refine qT rfl (by decide) ?_;refine ax ?_;exact ih i ⟨hJ2,by omega⟩
 · obtain rfl:j=0:=by omega
   refine ax ?_;refine M9 ?_;exact⟨_,rfl,hJ⟩
theorem wO (v:Value) (hv:v.oneCell'=true):af Tryz.prog 240 #[v] h (bf fun r h'=>r= .func (.func 289) #[] #[.pointer (some ⟨h.size,0,none⟩)]/\h'=h.push (.cells #[v] 289)):=by
 have hcells:v.cells= #[v]:=by cases v<;>simp[Value.oneCell'] at hv<;>rfl
 refine eV ?_;refine ax ?_;refine xo rfl (aB.box rfl) ?_;rintro _ _ ⟨rfl,rfl⟩;refine ax ?_;refine xp rfl (ai.makeFunc (vs:=[_]) rfl) ?_;refine ax ?_;refine dS ?_;exact⟨_,rfl,rfl,by rw[hcells]⟩
end
end Go.Proofs.YtdihgdeciopfpaaGreatDoor
namespace Go.Proofs.YtdihgdeciopfpaaGreatDoor
open Go Go.Lw
set_option maxRecDepth 20000
section
variable {O:Nat->Prop}{nb:Nat}{h h':aj}{v:Value}
structure Nx (O:Nat->Prop) (nb:Nat) (h:aj) (v:Value) (h':aj) (v':Value):Prop where
  ext:Ext (fun b=>eD nb v b\/O b) h h'
  own:∀b,v'.ownBlock=some b->v.ownBlock=some b\/h.size<=b
theorem Nx.refl {O:Nat->Prop}{nb:Nat}{h:aj}{v:Value}:Nx O nb h v h v:=⟨Ext.refl _ _,fun _ k=>.inl k⟩
theorem Nx.Oo (e:aq h h'):Nx O nb h v h' v:=⟨e.mono fun _ _ k=>k.elim,fun _ k=>.inl k⟩
theorem Nx.mono {O O':Nat->Prop}{nb:Nat}{h h':aj}{v v':Value}(k:Nx O nb h v h' v') (hO:∀b,b<h.size->O b->O' b):Nx O' nb h v h' v':=⟨k.ext.mono fun b hb k=>k.imp id (hO b hb),k.own⟩
theorem Nx.trans {O':Nat->Prop}{h1 h2:aj}{v1 v2:Value}(k:Nx O nb h v h1 v1) (k':Nx O' nb h1 v1 h2 v2) (hO:∀b,b<h.size->O' b->O b):Nx O nb h v h2 v2:=by
  refine⟨⟨Nat.le_trans k.ext.size k'.ext.size,fun b hb hn=>?_⟩,fun b hb=>?_⟩
  · rw[k'.ext.block b (Nat.lt_of_lt_of_le hb k.ext.size) ?_,k.ext.block b hb hn];rintro((k1|k1)|k1)
    · exact hn (.inl (.inl k1))
    · rcases k.own b k1.symm with k2|k2
      · exact hn (.inl (.inr k2.symm))
      · omega
    · exact hn (.inr (hO b hb k1))
  · have:=k.ext.size
    rcases k'.own b hb with k2|k2
    · exact k.own b k2
    · exact .inr (by omega)
theorem Nx.mv {v':Value}(k:Nx O nb h v h' v'):Mv (fun b=>eD nb v b\/O b) (fun b=>eD nb v' b\/O b) h h' :=
  ⟨k.ext.size,fun b hb hn=>⟨k.ext.block b hb hn,by
    rintro((k1|k1)|k1)
    · exact hn (.inl (.inl k1))
    · rcases k.own b k1.symm with k2|k2
      · exact hn (.inl (.inr k2.symm))
      · omega
    · exact hn (.inr k1)⟩⟩
theorem Nx.Oq {v':Value}(k:Nx (fun _=>False) nb h v h' v'):Mv (eD nb v) (eD nb v') h h' :=
  ⟨k.ext.size,fun b hb hn=>⟨k.ext.block b hb (fun k=>k.elim hn id),fun k1=>by
    rcases k1 with k1|k1
    · exact hn (.inl k1)
    · rcases k.own b k1.symm with k2|k2
      · exact hn (.inr k2.symm)
      · omega⟩⟩
def Ly (O:Nat->Prop) (nb:Nat) (h:aj) (v:Value) (st:Nat) (out:List bC×Nat) (r:Value) (h':aj):Prop:=∃v',r= .int .i64 (out.2:Nat)/\bV h' O nb v' out.1 st/\Nx (fun _=>False) nb h v h' v'
def J6 (n:Nat):Prop:=∀{x:Nd}{h:aj}{O:Nat->Prop}{nb:Nat}{v w:Value}{ss:List bC}{st to:Nat},nS x<=n->bV h O nb v ss st->(∀b,O b->b<h.size)->bO h (eD nb v) (dI x.kind x.set w) x->uz x=true->ss.length+nS x<=1000000 ->
  af Tryz.prog 186 #[.pointer (some ⟨nb,0,none⟩),.agg (dI x.kind x.set w).toArray,.int .i64 (to:Nat)] h (bf (Ly O nb h v st (lay x ss to)))
theorem Bp {w:Value}{ss:List bC}{st:Nat}{x:bC}(hn:bV h O nb v ss st) (hO:∀b,O b->b<h.size) (hx:J3 h (fun b=>eD nb v b\/O b) (Gm x.kind x.set w x.rule) x) (hl:ss.length<=1000000) :
    af Tryz.prog 187 #[.pointer (some ⟨nb,0,none⟩),.agg (Gm x.kind x.set w x.rule).toArray] h (bf (Ly O nb h v st (ss++[x],ss.length))) :=
  (HB hn hO hx hl).mono fun e h' r=>by
    obtain⟨u,he,v',hu,hn',hx',ho⟩:=r;exact⟨u,he,v',hu,hn',hx'.mono fun _ _ k=>.inl k,ho⟩
theorem My (i:Nat):eF 0 i= .int .u64 0:=by simp[eF,Dw]
theorem nw {w:Value}{ss:List bC}{st:Nat}{to:List Nat}(hn:bV h O nb v ss st) (hO:∀b,O b->b<h.size) (hx:bB ia h (fun b=>eD nb v b\/O b) w to) (hl:ss.length<=1000000) :
    af Tryz.prog 187 #[.pointer (some ⟨nb,0,none⟩),.agg #[.int .i64 0,.int .u64 0,.int .u64 0,.int .u64 0,.int .u64 0,w,.int .i64 0]] h (bf (Ly O nb h v st (ss++[⟨0,0,to,0⟩],ss.length))):=by
  have h1:=Bp (x:=⟨0,0,to,0⟩) hn hO ⟨w,rfl,hx⟩ hl;simp only[Gm,My] at h1;exact h1
theorem SV (t:TypeId) (a:Nat) (ho:¬O h.size):bB ia (h.push (.cells #[.int .i64 (a:Nat)] t)) O (.slice (some ⟨h.size,0,none⟩) 1 1) [a]:=bB.lW (e:=ia) (cs:=[dA a]) rfl ho
theorem Ro (t:TypeId) (a b:Nat) (ho:¬O h.size):bB ia (h.push (.cells #[.int .i64 (a:Nat),.int .i64 (b:Nat)] t)) O (.slice (some ⟨h.size,0,none⟩) 2 2) [a,b] :=
  ⟨_,2,2,rfl,rfl,Nat.le_refl _,by simp[maxLen],fun i x hx=>by
    refine⟨h.size,0,[dA x],rfl,ho,?_,rfl⟩;have hr:=cP h [.int .i64 (a:Nat),.int .i64 (b:Nat)] t;intro j u hj;have h0:j=0:=by have:=(List.getElem?_eq_some_iff.1 hj).1;simp at this;omega
    subst h0;simp only[List.getElem?_cons_zero,Option.some.injEq] at hj;subst hj
    match i with
    | 0=>simp at hx;subst hx;exact hr 0 _ rfl
    | 1=>simp at hx;subst hx;exact hr 1 _ rfl
    |i+2=>simp at hx⟩
theorem sH:∀(l:List Nd) (x:Nd) (ss:List bC) (to:Nat),aW (l++[x]) ss to=((lay x (aW l ss to).1 to).1,(aW l ss to).2++[(lay x (aW l ss to).1 to).2])
  | [],x,ss,to=>by simp[aW]
  |y::l,x,ss,to=>by
    rw[List.cons_append,aW,sH l x,aW];simp
theorem sG {l:List Nd}{i:Nat}{x:Nd}(hx:l[i]? =some x) (ss:List bC) (to:Nat):aW (l.take (i+1)) ss to=((lay x (aW (l.take i) ss to).1 to).1,(aW (l.take i) ss to).2++[(lay x (aW (l.take i) ss to).1 to).2]):=by
  rw[List.take_add_one,hx,Option.toList_some,sH]
def LC (nb b5 cap d:Nat) (r0:Loop) (hL:aj) (v sl:Value) (O:Nat->Prop) (kids:List Nd) (ss:List bC) (st to j:Nat) (g:aj):Prop :=
  ∃v',cD g (d+1) r0/\g[d]? =some (.deferred (some []))/\aH g cap 289 [sl]/\bV g (fun b=>O b\/(b5<=b/\b<hL.size)) nb v' (bA (kids.drop j) ss to).1 st /\
    aH g b5 3 [.int .i64 ((bA (kids.drop j) ss to).2:Nat)]/\Nx (fun b=>b5<=b/\b<hL.size) nb hL v g v'
end
end Go.Proofs.YtdihgdeciopfpaaGreatDoor
namespace Go.Proofs.YtdihgdeciopfpaaGreatDoor
open Go.Proofs.Tryz
open Go Go.Lw
set_option maxRecDepth 20000 set_option maxHeartbeats 4000000
section
variable {h:aj}
theorem kk {k j:Nat}(h:¬((k:Nat):Int)=(j:Nat)):¬k=j:=fun e=>h (by rw[e])
theorem Jd {n:Nat}(ih:J6 n):J6 (n+1):=by
 intro x h O nb v w ss st to hsz hn hO hx hw hl;obtain⟨k,s,kids⟩:=x;simp only[nS] at hsz hl;have hown:=hn.own;have hnb:=hn.blk.lt;obtain⟨w',hw',hkids⟩:=hx.open;have hww:w=w':=by simpa [dI] using hw'
 subst hww
 show af _ _ #[_,.agg (dI k s w).toArray,_] h _
 replace hkids:bB sM h (eD nb v) w kids:=hkids;obtain⟨oa,kn,kc,rfl,hsl⟩:=hkids.open;refine eV ?_;refine ax ?_;refine xo rfl (Bu) ?_;rintro _ h1 ⟨rfl,q3,e1,z1⟩;refine xo rfl (Bu) ?_;rintro _ h2 ⟨rfl,q4,e2,z2⟩;refine xo rfl (Bu) ?_;rintro _ h3 ⟨rfl,q5,e3,z3⟩;have q3:aH h1 h.size 223 [.pointer (some ⟨nb,0,none⟩)]:=q3;have q4:aH h2 h1.size 291 (dI k s (.slice oa kn kc)):=q4;have q5:aH h3 h2.size 3 [.int .i64 (to:Nat)]:=q5;have q3:=(q3.ak e2).ak e3;have q4:=q4.ak e3;have e03:aq h h3:=(e1.trans e2).trans e3;have hn3:bV h3 O nb v ss st:=hn.ak e03 (fun _ _ k=>k);have hO3:∀b,O b->b<h3.size:=fun b hb=>by have:=hO b hb;have:=e03.size;omega
 have nx3:Nx (fun _=>False) nb h v h3 v:=Nx.Oo e03;have hsl3:bB sM h3 (eD nb v) (.slice oa kn kc) kids:=hkids.mv nx3.Oq
 have hnew3:∀b,h3.size<=b->¬(eD nb v b\/O b):=by
  have hz:=e03.size;rintro b hb ((k1|k1)|k1)
  · omega
  · have:=hown b k1.symm;omega
  · have:=hO b k1;omega
 have hnM:∀b,h.size<=b->¬(eD nb v b\/False):=by
  rintro b hb ((k1|k1)|k1)
  · omega
  · have:=hown b k1.symm;omega
  · exact k1
 have hkn:kids.length=kn:=hsl.len;have hwl:uB kids=true:=by simp only[uz,Bool.and_eq_true] at hw;exact hw.2
 have hklen:=Fa kids;refine ax ?_;refine xp rfl (bJ rfl (q4.cell (i:=0) rfl)) ?_;refine ax ?_;refine dM (fun h1k=>?_) (fun h1k=>?_)
 · obtain rfl:k=1:=by omega
   have hlay:lay (.mk 1 s kids) ss to=(ss++[⟨1,s,[to],0⟩],ss.length):=by rw[lay];simp
   rw[hlay];refine ax ?_;refine xp rfl (bJ rfl (q3.cell (i:=0) rfl)) ?_;refine ax ?_;refine xp rfl (jT rfl (q4.part 1 (ds:=[eF s 0,eF s 1,eF s 2,eF s 3]) (by intro j v hv;match j with| 0=>exact hv| 1=>exact hv| 2=>exact hv| 3=>exact hv|j+4=>simp at hv))) ?_;refine xp rfl (bJ rfl (q5.cell (i:=0) rfl)) ?_;refine xo rfl (xI [_]) ?_;rintro _ _ ⟨rfl,rfl⟩;refine xp rfl (aE (H.C8 _ _ _ _ _ _ _ _) rfl) ?_;refine xo rfl (dz rfl (Bp (O:=O) (x:=⟨1,s,[to],0⟩) (hn3.ak (Ext.push _ _ _) (fun _ _ k=>k)) (fun b hb=>by have:=hO3 b hb;simp;omega) ⟨_,rfl,SV _ to (hnew3 _ (Nat.le_refl _))⟩ (by omega))) ?_;rintro _ h5 ⟨v',rfl,hn5,nx5⟩;refine ax ?_;refine dS ?_;exact⟨_,rfl,v',rfl,hn5,(nx3.trans (Nx.Oo (Ext.push _ _ _)) (fun _ _ k=>k)).trans nx5 (fun _ _ k=>k)⟩
 · have h1k':¬k=1:=kk h1k;refine ax ?_;refine dM (fun h2k=>?_) (fun h2k=>?_)
   · obtain rfl:k=2:=by omega
     have hlay:lay (.mk 2 s kids) ss to=bA kids ss to:=by rw[lay];simp
     rw[hlay];have hz0:=e03.size;refine ax ?_;refine xp rfl (bJ rfl (q4.cell (i:=5) rfl)) ?_;refine xo rfl (dz rfl (wO (.slice oa kn kc) rfl)) ?_;rintro _ h4 ⟨rfl,hh4⟩;have e4:aq h3 h4:=by rw[hh4];exact Ext.push _ _ _
     have q6:aH h4 h3.size 289 [.slice oa kn kc]:=by rw[hh4];exact qR _ _ _
     have z4:h4.size=h3.size+1:=by rw[hh4];simp
     clear hh4;refine ax ?_;refine G.rangeFunc rfl rfl func289 rfl (by decide +kernel) ?_;intro fid tmps hfits;obtain⟨r0,hr0⟩:∃r0,r0=eP fid tmps #[30,31] (L2 (Lw.sub (ay f186) [0,1,0,0,1,1,1,0,1,0,1])) (L1 (Lw.sub (ay f186) [0,1,0,0,1,1,1,0,1,0,1])) h4.size:=⟨_,rfl⟩
     obtain⟨hL,hhL⟩:∃hL,hL=(h4.push (.deferred (some []))).push (.loop r0):=⟨_,rfl⟩
     suffices hmain:af Tryz.prog 289 #[.func (.yield (h4.size+1)) #[] #[],.pointer (some ⟨h3.size,0,none⟩)] hL _ by rw[hhL,hr0] at hmain;exact hmain
     have hst:r0.state= .ready:=by rw[hr0];rfl
     have hpn:r0.pending=none:=by rw[hr0];rfl
     have hps:r0.params= #[30,31]:=by rw[hr0];rfl
     have htm:r0.tmps=tmps:=by rw[hr0];rfl
     have eL:aq h4 hL:=by rw[hhL];exact(Ext.push _ _ _).trans (Ext.push _ _ _)
     have hLz:hL.size=h4.size+2:=by rw[hhL];simp
     have hloop0:cD hL (h4.size+1) r0:=by
      have hz:h4.size+1=(h4.push (.deferred (some []))).size:=by simp
      rw[cD,hhL,hz];exact Array.getElem?_push_size
     have hdef0:hL[h4.size]? =some (.deferred (some [])):=by
      rw[hhL,(Ext.push (fun _=>False) (h4.push (.deferred (some []))) _).block h4.size (by simp) (fun k=>k)];exact Array.getElem?_push_size
     clear hhL;have e0L:aq h hL:=(e03.trans e4).trans eL;have q3L:=(q3.ak e4).ak eL;have q5L:=(q5.ak e4).ak eL;have q6L:=q6.ak eL;have hnL:bV hL (fun b=>O b\/(h2.size<=b/\b<hL.size)) nb v ss st:=hn.ak e0L (fun b hb k=>k.elim id (fun k=>by omega));have hkL:bB sM hL (fun b=>eD nb v b\/(h2.size<=b/\b<hL.size)) (.slice oa kn kc) kids:=hkids.mv ⟨e0L.size,fun b hb hn=>⟨e0L.block b hb (fun k=>k),fun k=>k.elim hn (fun k=>by omega)⟩⟩;have hdropn:kids.drop kn=[]:=List.drop_of_length_le (by omega);have hJ0:LC nb h2.size h3.size h4.size r0 hL v (.slice oa kn kc) O kids ss st to kn hL:=⟨v,hloop0,hdef0,q6L,by rw[hdropn,bA];exact hnL,by rw[hdropn,bA];exact q5L,Nx.refl⟩
     have hvM:∀{v':Value}{g:aj},Nx (fun b=>h2.size<=b/\b<hL.size) nb hL v g v'->∀b,h.size<=b->b<hL.size->¬eD nb v' b:=by
      rintro v' g nx b hb hb' (k1|k1)
      · omega
      · rcases nx.own b k1.symm with k2|k2
        · have:=hown b k2;omega
        · omega
     refine suff (p:=∀j g,LC nb h2.size h3.size h4.size r0 hL v (.slice oa kn kc) O kids ss st to (j+1) g->j<kn->∃(b o k s:Nat) (w:Value),oa=some ⟨b,o,none⟩/\Lw.rowAt g b (o+j*6) (dI k s w)/\eC Tryz.prog (h4.size+1) #[.int .i64 (j:Nat),.agg (dI k s w).toArray] g (bf fun r h'=>r= .bool true/\LC nb h2.size h3.size h4.size r0 hL v (.slice oa kn kc) O kids ss st to j h')) ?_ fun hy=>?_
     · intro j g ⟨v',hlp,hdf,hcap,hng,hb5,nxg⟩ hj;obtain⟨x,hx⟩:∃x,kids[j]? =some x:=⟨_,List.getElem?_eq_getElem (by omega)⟩
       have hkg:=hkL.mv nxg.mv;obtain⟨oa',n',c',hv',_,_,_,hget⟩:=id hkg;cases hv';obtain⟨b,o,cs,ha,hob,hrow,hnd⟩:=hget j x hx;obtain⟨w2,rfl,-⟩:=hnd.open;refine⟨b,o,x.kind,x.set,w2,ha,hrow,?_⟩;have hcatd:=CI hx ss to;have hszx:=H7 hx;have hbl:=jf (kids.drop (j+1)) ss to;have hfit:=CR (p1:=30) (p2:=31) (v1:=.int .i64 (j:Nat)) (v2:=.agg (dI x.kind x.set w2).toArray) hfits rfl rfl;rw[<-hps,<-htm] at hfit;have hvg:=hvM nxg;have hzg:=nxg.ext.size;have q3g:=q3L.ext nxg.ext (fun k=>k.elim (hvM Nx.refl (v':=v) (g:=hL) _ (Nat.le_refl _) (by omega)) (fun k=>by omega));refine eC.of hlp hst (by rw[hps];rfl) hfit ((congrArg Loop.assign hr0).trans rfl) ((congrArg Loop.body hr0).trans rfl) ?_;refine bS.xJ rfl rfl rfl rfl rfl (aB.aQ H.LH) ?_;rintro _ g1 ⟨rfl,k8,e1',zz1⟩;refine bS.dQ rfl rfl rfl rfl (aB.aG H.mC rfl rfl k8 (by first|rfl|(simp;done)|(simp;omega)) (by first|decide|exact of_decide_eq_true rfl|(simp;done)|(simp;omega)) (bO.one hnd)) ?_;rintro _ g2 ⟨rfl,k8',e2',zz2⟩;refine bS.done rfl ?_;have e12:aq g g2:=e1'.only e2' (Nat.le_refl _);have k8':aH g2 g.size 291 (dI x.kind x.set w2):=k8';refine⟨(e12.block _ hlp.lt (fun k=>k)).trans hlp,?_⟩;obtain⟨g3,hg3⟩:∃g3,g3=Lw.cu g2 (h4.size+1) (.loop { r0 with state:=.busy }):=⟨_,rfl⟩
       rw[<-hg3];have hlz:=hlp.lt;have hz2:=e12.size;have e23:Ext (fun b=>b=h4.size+1) g2 g3:=by rw[hg3];exact Ext.cu _ _ _ rfl
       have hlp3:cD g3 (h4.size+1) { r0 with state:=.busy }:=by rw[cD,hg3];exact gQ (by omega)
       have hz3:=e23.size;have e13:Ext (fun b=>b=h4.size+1) g g3:=(e12.mono fun _ _ k=>k.elim).trans e23;have l3:¬h.size=h4.size+1:=by omega
       have l5:¬h2.size=h4.size+1:=by omega
       have l6:¬h3.size=h4.size+1:=by omega
       have l8:¬g.size=h4.size+1:=by omega
       have ld:¬h4.size=h4.size+1:=by omega
       have q33:=q3g.ext e13 l3;have b53:=hb5.ext e13 l5;have cap3:=hcap.ext e13 l6;have k83:=k8'.ext e23 l8;have hown':∀b,v'.ownBlock=some b->¬b=h4.size+1:=fun b hb k=>hvg b (by omega) (by omega) (.inr hb.symm)
       have hn3g:bV g3 (fun b=>O b\/(h2.size<=b/\b<hL.size)) nb v' (bA (kids.drop (j+1)) ss to).1 st:=hng.ext e13 (by omega) hown' (fun b _ k=>.inr (by omega)) (fun b _ k=>k);have hnd3:bO g3 (eD nb v') (dI x.kind x.set w2) x:=hnd.mv ⟨e13.size,fun b hb hn=>⟨e13.block b hb (fun k=>hn (.inr (by omega))),fun k=>hn (.inl k)⟩⟩;refine bS.an rfl rfl rfl rfl rfl (ah H.MV rfl (q33.cell (i:=0) rfl)) ?_;refine bS.an rfl rfl rfl rfl rfl (ai.aF H.zK H.mC rfl k83.row (by first|rfl|(simp;done)|(simp;omega))) ?_;refine bS.an rfl rfl rfl rfl rfl (ah H.cC rfl (b53.cell (i:=0) rfl)) ?_;refine bS.xJ rfl rfl rfl rfl rfl (au (vs:=[_,_,_]) func186 rfl H.PL rfl (af.bD (ih (x:=x) (O:=fun b=>O b\/(h2.size<=b/\b<hL.size)) (to:=(bA (kids.drop (j+1)) ss to).2) (by omega) hn3g (fun b hb=>by rcases hb with k|k;(have:=hO b k;omega);omega) hnd3 (zZ hwl hx) (by omega)))) ?_;rintro _ g4 ⟨v4,rfl,hn4,nx4⟩;have hM4:∀b,h.size<=b->b<hL.size->¬(eD nb v' b\/False):=fun b h1 h2 k=>k.elim (hvg b h1 h2) id
       have b54:=b53.ext nx4.ext (hM4 _ (by omega) (by omega));refine bS.dQ rfl rfl rfl rfl (aB.aS H.bL rfl rfl b54 (by first|decide|exact of_decide_eq_true rfl|(simp;done)|(simp;omega)) rfl) ?_;rintro _ g5 ⟨rfl,b55,e5',zz5⟩;refine bS.done rfl ?_;have b55:aH g5 h2.size 3 [.int .i64 ((lay x (bA (kids.drop (j+1)) ss to).1 (bA (kids.drop (j+1)) ss to).2).2:Nat)]:=b55;have hz4:=nx4.ext.size;have nx45:Nx (fun b=>h2.size<=b/\b<hL.size) nb g3 v' g5 v4:=⟨⟨by omega,fun b hb hn=>by rw[e5'.block b (by omega) (fun k=>hn (.inr (by omega))),nx4.ext.block b hb (fun k=>hn (k.elim .inl (fun k=>k.elim)))]⟩,nx4.own⟩
       have hlp5:cD g5 (h4.size+1) { r0 with state:=.busy }:=(hlp3.ext nx4.ext (hM4 _ (by omega) (by omega))).ext e5' (fun k=>by omega);have hr2:({ ({ r0 with state:=.busy }:Loop) with state:=.ready,pending:=none }:Loop)=r0:=by cases r0;simp at hst hpn;simp[hst,hpn]
       refine⟨_,hlp5,rfl,?_⟩;rw[hr2];have e56:Ext (fun b=>b=h4.size+1) g5 (Lw.cu g5 (h4.size+1) (.loop r0)):=Ext.cu _ _ _ rfl
       have hown4:∀b,v4.ownBlock=some b->¬b=h4.size+1/\¬b=h2.size:=fun b hb=>by
        rcases nx4.own b hb with k|k
        · exact⟨hown' b k,fun k'=>hvg b (by omega) (by omega) (.inr k.symm)⟩
        · omega
       have hdf5:g5[h4.size]? =some (.deferred (some [])):=by
        rw[e5'.block h4.size (by omega) (by omega),nx4.ext.block h4.size (by omega) (hM4 _ (by omega) (by omega)),e13.block h4.size (by omega) (by omega)];exact hdf
       have cap5:=(cap3.ext nx4.ext (hM4 _ (by omega) (by omega))).ext e5' (by omega);refine⟨v4,gQ (by omega),by rw[e56.block h4.size (by omega) (by omega)];exact hdf5,cap5.ext e56 l6,?_,?_,?_⟩
       · rw[hcatd];have hn5:bV g5 (fun b=>O b\/(h2.size<=b/\b<hL.size)) nb v4 (lay x (bA (kids.drop (j+1)) ss to).1 (bA (kids.drop (j+1)) ss to).2).1 st:=hn4.ext e5' (by omega) (fun b hb=>(hown4 b hb).2) (fun b _ k=>.inr (by omega)) (fun _ _ k=>k);exact hn5.ext e56 (by omega) (fun b hb=>(hown4 b hb).1) (fun b _ k=>.inr (by omega)) (fun _ _ k=>k)
       · rw[hcatd];exact b55.ext e56 l5
       · exact((nxg.trans ⟨e13.mono (fun b _ k=>.inr (by omega)),fun b k=>.inl k⟩ (fun b _ k=>k)).trans nx45 (fun b _ k=>k)).trans ⟨e56.mono (fun b _ k=>.inr (by omega)),fun b k=>.inl k⟩ (fun b _ k=>k)
     · refine(tC (l:=h4.size+1) (cap:=h3.size) (n:=kn) (c:=kc) (J:=LC nb h2.size h3.size h4.size r0 hL v (.slice oa kn kc) O kids ss st to) (by omega) (fun j g hJ=>by obtain⟨_,_,_,k,_⟩:=hJ;exact k.cell (i:=0) rfl) hy hJ0).mono fun e g hJ=>?_
       obtain⟨u,rfl,v',hlp,hdf,hcap,hng,hb5,nxg⟩:=hJ;rw[List.drop_zero] at hng hb5;refine⟨_,rfl,r0,hlp,by rw[hst];decide,hpn,?_⟩;have hzg:=nxg.ext.size;have hlz:=hlp.lt;have e1:Ext (fun b=>b=h4.size+1) g (Lw.cu g (h4.size+1) (.loop { r0 with state:=.exhausted })):=Ext.cu _ _ _ rfl;have b5e:=hb5.ext e1 (by omega);have hdfe:=(e1.block h4.size (by omega) (by omega)).trans hdf;have hvg:=hvM nxg;refine GD.bE ?_;refine iy rfl ?_;refine GD.cA func186 rfl ?_;refine gE.an rfl rfl rfl rfl (ah H.cC rfl (b5e.cell (i:=0) rfl)) ?_;refine gE.an rfl rfl rfl rfl (ai.assign rfl) ?_;refine gE.done rfl ?_;refine GD.sub (ρ':=[(0,_),(1,_),(2,_),(3,_),(4,_),(5,_),(6,_),(15,_),(16,_),(25,_),(29,_)]) ⟨rfl,rfl,rfl,rfl,rfl,rfl,rfl,rfl,rfl,rfl,rfl,trivial⟩ ?_;refine GD.Ay func186 rfl hdfe rfl ?_;have e2:Ext (fun b=>b=h4.size) (Lw.cu g (h4.size+1) (.loop { r0 with state:=.exhausted })) (Lw.cu (Lw.cu g (h4.size+1) (.loop { r0 with state:=.exhausted })) h4.size (.deferred none)):=Ext.cu _ _ _ rfl;have e12:Ext (fun b=>b=h4.size+1\/b=h4.size) g _:=(e1.mono fun _ _ k=>.inl k).trans (e2.mono fun _ _ k=>.inr k);have hownv:∀b,v'.ownBlock=some b->¬(b=h4.size+1\/b=h4.size):=fun b hb k=>hvg b (by omega) (by omega) (.inr hb.symm)
       refine⟨_,rfl,v',rfl,hng.ext e12 (by omega) hownv (fun b _ k=>.inr (by omega)) (fun b _ k=>.inl k),?_⟩;have nxe:Nx (fun b=>h2.size<=b) nb h v _ v':=((Nx.Oo e0L).trans nxg (fun b _ k=>k.1)).trans ⟨e12.mono (fun b _ k=>.inr k),fun b k=>.inl k⟩ (fun b hb k=>by omega);exact nxe.mono (fun b hb k=>by omega)
   · have h2k':¬k=2:=kk h2k;refine ax ?_;refine dM (fun h3k=>?_) (fun h3k=>?_)
     · obtain rfl:k=3:=by omega
       have hlay:lay (.mk 3 s kids) ss to=((aW kids ss to).1++[⟨0,0,(aW kids ss to).2,0⟩],(aW kids ss to).1.length):=by rw[lay];simp
       rw[hlay];refine ax ?_;refine xp rfl (bJ rfl (q4.cell (i:=5) rfl)) ?_;refine ax ?_;refine qS (σ:=Nat×Value) (fun p=>[(9,p.2),(42,.int .i64 (p.1:Nat))]) (fun p h'=>p.1<=kn/\∃v',bV h' (fun b=>O b\/cj p.2.ownBlock b) nb v' (aW (kids.take p.1) ss to).1 st/\fB ia (fun _=>True) h' h3.size 3 p.2 (aW (kids.take p.1) ss to).2/\Nx (fun _=>False) nb h3 v h' v'/\(∀b,p.2.ownBlock=some b->v'.ownBlock≠some b)) (fun p=>kn-p.1) ((0,.slice none 0 0)) ⟨Nat.zero_le _,v,by simpa [aW] using hn3.ak (Ext.refl _ _) (fun b _ k=>k.elim id (fun k=>by cases k)),by simpa [aW] using fB.nil ia (fun _=>True) h3 h3.size 3,Nx.refl,fun b hb=>by cases hb⟩ rfl ?_;rintro⟨i,t9⟩ gh ⟨hi,v',hnH,htH,nxH,hdist⟩ ih2
       try dsimp only
       dsimp only at hi hnH htH nxH hdist;have hzH:=nxH.ext.size;have hz0:=e03.size;have q3H:=q3.ext nxH.ext (hnM _ (Nat.le_refl _));have q5H:=q5.ext nxH.ext (hnM _ (by omega));have hslH:bB sM gh (eD nb v') (.slice oa kn kc) kids:=hsl3.mv nxH.Oq;have ht9:∀b,t9.ownBlock=some b->h3.size<=b/\b<gh.size:=fun b hb=>by obtain⟨_,_,k,_⟩:=id htH;exact k.lt hb
       have hlenT:(aW (kids.take i) ss to).2.length=i:=by rw[mQ,List.length_take];omega
       refine ax ?_;refine dM (fun hlt=>?_) (fun hlt=>?_)
       · have hik:i<kids.length:=by omega
         obtain⟨x,hx⟩:∃x,kids[i]? =some x:=⟨_,List.getElem?_eq_getElem hik⟩
         obtain⟨oa',n',c',hv',_,_,_,hget⟩:=id hslH;cases hv';obtain⟨b,o,cs,ha,hob,hrow,hnd⟩:=hget i x hx;obtain⟨w2,rfl,-⟩:=hnd.open;have hszx:=H6 hx;have hbl:=fh (kids.take i) ss to
         iterate 4 refine dc ?_
         refine fE ?_;refine xp rfl (fN rfl rfl i rfl ha) ?_;refine xp rfl (jT rfl hrow) ?_;refine xo rfl (pI) ?_;rintro _ h5 ⟨rfl,q11,e5,z5⟩;refine dD rfl (iV rfl rfl q11 (bO.one hnd)) ?_;rintro _ h6 ⟨rfl,q11',e6,z6⟩;have e56:aq gh h6:=e5.only e6 (Nat.le_refl _);have q11':aH h6 gh.size 291 (dI x.kind x.set w2):=q11';have hn6:bV h6 (fun b=>O b\/cj t9.ownBlock b) nb v' (aW (kids.take i) ss to).1 st:=hnH.ak e56 (fun _ _ k=>k);have nx6:Nx (fun _=>False) nb gh v' h6 v':=Nx.Oo e56;have hz6:=e56.size;have hnd6:=hnd.mv nx6.Oq;refine ax ?_;refine xp rfl (bJ rfl ((q3H.ak e56).cell (i:=0) rfl)) ?_;refine xp rfl (jT rfl q11'.row) ?_;refine xp rfl (bJ rfl ((q5H.ak e56).cell (i:=0) rfl)) ?_;refine xo rfl (dz rfl (ih (x:=x) (O:=fun b=>O b\/cj t9.ownBlock b) (to:=to) (by omega) hn6 (fun b hb=>by rcases hb with k|k;(have:=hO3 b k;omega);(have:=ht9 b k.symm;omega)) hnd6 (zZ hwl hx) (by omega))) ?_;rintro _ h7 ⟨v7,rfl,hn7,nx7⟩
         have ht7:fB ia (fun _=>True) h7 h3.size 3 t9 (aW (kids.take i) ss to).2:=(htH.ak e56).Fv nx7.ext (fun b hb=>by
          rintro((k1|k1)|k1)
          · have:=ht9 b hb;omega
          · exact hdist b hb k1.symm
          · exact k1) (fun _ _ _=>trivial) (fun _ _ _=>trivial)
         obtain⟨css,hc1,hc2,hc3⟩:=id ht7;have hz7:=nx7.ext.size;refine xo rfl (xI [_]) ?_;rintro _ _ ⟨rfl,rfl⟩;refine xo rfl (F9 rfl rfl hc2 rfl rfl) ?_;rintro t9' h8 ⟨ho8,hx8,-,hv8⟩;refine ax ?_;have ht8:fB ia (fun _=>True) h8 h3.size 3 t9' ((aW (kids.take i) ss to).2++[(lay x (aW (kids.take i) ss to).1 to).2]):=fB.mN hc1 hc3 ho8 hx8 hv8 rfl
         have hn8:bV h8 (fun b=>O b\/cj t9'.ownBlock b) nb v7 (lay x (aW (kids.take i) ss to).1 to).1 st:=hn7.ext hx8 (fun k=>by have:=ht9 nb k.symm;omega) (fun b hb k=>by
          rcases nx7.own b hb with k'|k'
          · exact hdist b k.symm k'
          · have:=ht9 b k.symm;omega) (fun b _ k=>.inr k) (fun b hb k=>k.imp id (fun k=>by
            rcases hv8 b k.symm with k'|k'
            · exact k'.symm
            · omega))
         have hd8:∀b,t9'.ownBlock=some b->v7.ownBlock≠some b:=fun b hb k=>by
          rcases hv8 b hb with k'|k'
          · rcases nx7.own b k with k2|k2
            · exact hdist b k' k2
            · have:=ht9 b k';omega
          · have:=(hn7.own b k).2;omega
         exact ih2 (i+1,t9') ⟨by show i+1<=kn;omega,v7,by rw[sG hx];exact hn8,by rw[sG hx];exact ht8,⟨⟨by have:=hx8.size;omega,fun b hb hn=>by rw[hx8.block b (by omega) (fun k=>by have:=ht9 b k.symm;omega)];exact((nxH.trans nx6 (fun _ _ k=>k)).trans nx7 (fun _ _ k=>k)).ext.block b hb hn⟩,((nxH.trans nx6 (fun _ _ k=>k)).trans nx7 (fun _ _ k=>k)).own⟩,hd8⟩
       · obtain rfl:i=kn:=by omega
         have hall:kids.take i=kids:=List.take_of_length_le (by omega);rw[hall] at hnH htH hlenT;have hbl:=fh kids ss to
         have hrd:bB ia gh (fun b=>eD nb v' b\/O b) t9 (aW kids ss to).2:=htH.IA (fun b hb=>by
          rintro((k1|k1)|k1)
          · have:=ht9 b hb;omega
          · exact hdist b hb k1.symm
          · have:=ht9 b hb;have:=hO3 b k1;omega) (fun _ _ _=>trivial)
         obtain⟨oa9,n9,c9,rfl,_⟩:=id hrd;refine ax ?_;refine xp rfl (bJ rfl (q3H.cell (i:=0) rfl)) ?_;refine ax ?_;refine xp rfl (aE (H.Bl _ _ _) rfl) ?_;refine xo rfl (dz rfl (nw (O:=O) (hnH.ak (Ext.refl _ _) (fun b _ k=>.inl k)) (fun b hb=>by have:=hO3 b hb;omega) hrd (by omega))) ?_;rintro _ h5 ⟨v5,rfl,hn5,nx5⟩;refine ax ?_;refine dS ?_;exact⟨_,rfl,v5,rfl,hn5,(nx3.trans nxH (fun _ _ k=>k)).trans nx5 (fun _ _ k=>k)⟩
     · have h3k':¬k=3:=kk h3k;refine ax ?_;refine dM (fun h6k=>?_) (fun h6k=>?_)
       · obtain rfl:k=6:=by omega
         have hone:kids.length=1:=by simp[uz] at hw;exact hw.1
         obtain⟨x,rfl⟩:∃x,kids=[x]:=by match kids,hone with| [x],_=>exact⟨x,rfl⟩
         have hkn1:kn=1:=by simpa using hkn.symm
         have hszx:nS x<=gu [x]:=by simp[gu]
         have hwx:uz x=true:=by simpa [uB] using hwl
         have hlay:lay (.mk 6 s [x]) ss to=((lay x ss to).1++[⟨0,0,[(lay x ss to).2,to],0⟩],(lay x ss to).1.length):=by rw[lay];simp[bZ]
         rw[hlay];have hz0:=e03.size;obtain⟨oa',n',c',hv',_,_,_,hget⟩:=id hsl3;cases hv';obtain⟨b,o,cs,ha,hob,hrow,hnd⟩:=hget 0 x rfl;obtain⟨w2,rfl,-⟩:=hnd.open
         have hnM3:∀b,h.size<=b->b<h3.size->¬(eD nb v b\/h3.size<=b):=by
          rintro b hb hb' ((k1|k1)|k1)
          · omega
          · have:=hown b k1.symm;omega
          · omega
         have hbM:¬(eD nb v b\/h3.size<=b):=by
          rintro(k1|k1)
          · exact hob k1
          · have:=cX hrow (by simp[dI]);omega
         have m3:=hnM3 h.size (Nat.le_refl _) (by omega);have m4:=hnM3 h1.size (by omega) (by omega);have m5:=hnM3 h2.size (by omega) (by omega);have hlenx:=fJ x ss to;refine ax ?_;refine Bt 13 (fun b=>eD nb v b\/Array.size h3<=b) (fun i=>Nat.blt i 13) ?_;refine eO 0 rfl (fun h' e=>bJ rfl (e.cell m3 (q3.cell (i:=0) rfl))) ?_;refine eO 1 rfl (fun h' e=>bJ rfl (e.cell m3 (q3.cell (i:=0) rfl))) ?_;refine cS 2 ?_;refine eO 3 rfl (fun h' e=>bJ rfl (e.cell m4 (q4.cell (i:=5) rfl))) ?_;refine eO 4 rfl (fun h' e=>fN rfl rfl 0 rfl ha) ?_;refine eO 5 rfl (fun h' e=>jT rfl (e.rowAt hbM hrow)) ?_;refine eO 6 rfl (fun h' e=>bJ rfl (e.cell m5 (q5.cell (i:=0) rfl))) ?_;refine eO 8 rfl (fun h' e=>bJ rfl (e.cell m5 (q5.cell (i:=0) rfl))) ?_;refine nG 7 rfl (dz rfl (ih (x:=x) (O:=O) (to:=to) (by omega) hn3 hO3 hnd hwx (by omega))) ?_;rintro _ h5 ⟨v5,rfl,hn5,nx5⟩;refine⟨fun _=>nx5.ext.mono (fun b _ k=>k.elim .inl (fun k=>k.elim)),?_⟩;have hz5:=nx5.ext.size;have hown5:=hn5.own
         have hnew5:∀t,bB ia (h5.push (.cells #[.int .i64 ((lay x ss to).2:Nat),.int .i64 (to:Nat)] t)) (fun b=>eD nb v5 b\/O b) (.slice (some ⟨h5.size,0,none⟩) 2 2) [(lay x ss to).2,to]:=fun t=>Ro t _ _ (by
          rintro((k1|k1)|k1)
          · omega
          · have:=hown5 _ k1.symm;omega
          · have:=hO3 _ k1;omega)
         refine nG 9 rfl (xI [_,_]) ?_;rintro _ _ ⟨rfl,rfl⟩;refine⟨fun _=>by first|exact Ext.push _ _ _|assumption,?_⟩;refine eO 10 rfl (fun h' e=>aE (H.Bl _ _ _) rfl) ?_;refine nG 11 rfl (dz rfl (nw (O:=O) (hn5.ak (Ext.push _ _ _) (fun _ _ k=>k)) (fun b hb=>by have:=hO3 b hb;simp;omega) (hnew5 _) (by omega))) ?_;rintro _ h6 ⟨v6,rfl,hn6,nx6⟩;refine⟨fun _=>nx6.ext.mono (fun b _ k=>by rcases k with (k1|k1)|k1;(exact .inl (.inl k1));(rcases nx5.own b k1.symm with k2|k2;(exact .inl (.inr k2.symm));exact .inr k2);exact k1.elim),?_⟩;refine cS 12 ?_;refine xM ?_;refine dS ?_;exact⟨_,rfl,v6,rfl,hn6,((nx3.trans nx5 (fun _ _ k=>k)).trans (Nx.Oo (Ext.push _ _ _)) (fun _ _ k=>k)).trans nx6 (fun _ _ k=>k)⟩
       · have h6k':¬k=6:=kk h6k;refine ax ?_;refine dM (fun h4k=>?_) (fun h4k=>?_)
         · obtain rfl:k=4:=by omega
           have hone:kids.length=1:=by simp[uz] at hw;exact hw.1
           obtain⟨x,rfl⟩:∃x,kids=[x]:=by match kids,hone with| [x],_=>exact⟨x,rfl⟩
           have hkn1:kn=1:=by simpa using hkn.symm
           have hszx:nS x<=gu [x]:=by simp[gu]
           have hwx:uz x=true:=by simpa [uB] using hwl
           have hlay:lay (.mk 4 s [x]) ss to=((lay x (ss++[⟨0,0,[],0⟩]) ss.length).1.set ss.length ⟨0,0,[(lay x (ss++[⟨0,0,[],0⟩]) ss.length).2,to],0⟩,ss.length):=by rw[lay];simp[bZ]
           rw[hlay];refine ax ?_;refine tf rfl (by simp) ?_;refine ax ?_;refine xp rfl (bJ rfl (q3.cell (i:=0) rfl)) ?_;refine xp rfl (aE (H.JS ) rfl) ?_;refine xo rfl (dz rfl (nw (O:=O) (to:=[]) hn3 hO3 (bB.nil _ _ _) (by omega))) ?_;rintro _ h5 ⟨v5,rfl,hn5,nx5⟩;have hz5:=nx5.ext.size;have hz0:=e03.size;have q3':=q3.ext nx5.ext (hnM _ (Nat.le_refl _));have q4':=q4.ext nx5.ext (hnM _ (by omega));have q5':=q5.ext nx5.ext (hnM _ (by omega));have hsl5:bB sM h5 (eD nb v5) (.slice oa kn kc) [x]:=hsl3.mv nx5.Oq;obtain⟨oa',n',c',hv',_,_,_,hget⟩:=id hsl5;cases hv';obtain⟨b,o,cs,ha,hob,hrow,hnd⟩:=hget 0 x rfl;obtain⟨w2,rfl,-⟩:=hnd.open;have hown5:=hn5.own
           have hnM5:∀b,h.size<=b->b<h3.size->¬(eD nb v5 b\/h5.size<=b):=by
            rintro b hb hb' ((k1|k1)|k1)
            · omega
            · rcases nx5.own b k1.symm with k2|k2
              · have:=hown b k2;omega
              · omega
            · omega
           have hbM:¬(eD nb v5 b\/h5.size<=b):=by
            rintro(k1|k1)
            · exact hob k1
            · have:=cX hrow (by simp[dI]);omega
           have m3:=hnM5 h.size (Nat.le_refl _) (by omega);have m4:=hnM5 h1.size (by omega) (by omega);refine ax ?_;refine Bt 8 (fun b=>eD nb v5 b\/Array.size h5<=b) (fun i=>Nat.blt i 8) ?_;refine eO 0 rfl (fun h' e=>bJ rfl (e.cell m3 (q3'.cell (i:=0) rfl))) ?_;refine cS 1 ?_;refine eO 2 rfl (fun h' e=>bJ rfl (e.cell m4 (q4'.cell (i:=5) rfl))) ?_;refine eO 3 rfl (fun h' e=>fN rfl rfl 0 rfl ha) ?_;refine eO 4 rfl (fun h' e=>jT rfl (e.rowAt hbM hrow)) ?_;refine cS 5 ?_;refine nG 6 rfl (dz rfl (ih (x:=x) (O:=O) (to:=ss.length) (by omega) hn5 (fun b hb=>by have:=hO3 b hb;omega) hnd hwx (by simp;omega))) ?_;rintro _ h6 ⟨v6,rfl,hn6,nx6⟩;refine⟨fun _=>nx6.ext.mono (fun b _ k=>k.elim .inl (fun k=>k.elim)),?_⟩;have hz6:=nx6.ext.size;have nx36:=nx5.trans nx6 (fun _ _ k=>k);have q3':=q3.ext nx36.ext (hnM _ (Nat.le_refl _));have q4':=q4.ext nx36.ext (hnM _ (by omega));have q5':=q5.ext nx36.ext (hnM _ (by omega));have hown6:=hn6.own;have hlen6:=fJ x (ss++[⟨0,0,[],0⟩]) ss.length;rw[List.length_append,List.length_singleton] at hlen6;have hpre:(lay x (ss++[⟨0,0,[],0⟩]) ss.length).1[ss.length]? =some ⟨0,0,[],0⟩:=by rw[lE x _ _ _ (by simp)];simp
           have hn6c:=hn6.blk.cell (i:=0) rfl
           have hnM6:∀b,h.size<=b->b<h3.size->¬(eD nb v6 b\/h6.size<=b):=by
            rintro b hb hb' ((k1|k1)|k1)
            · omega
            · rcases nx36.own b k1.symm with k2|k2
              · have:=hown b k2;omega
              · omega
            · omega
           have hnew6:∀t,bB ia (h6.push (.cells #[.int .i64 ((lay x (ss++[⟨0,0,[],0⟩]) ss.length).2:Nat),.int .i64 (to:Nat)] t)) (fun b=>cj v6.ownBlock b\/b=nb\/O b) (.slice (some ⟨h6.size,0,none⟩) 2 2) [(lay x (ss++[⟨0,0,[],0⟩]) ss.length).2,to]:=fun t=>Ro t _ _ (by
            rintro(k1|k1|k1)
            · have:=hown6 _ k1.symm;omega
            · omega
            · have:=hO3 _ k1;omega)
           generalize hout:lay x (ss++[⟨0,0,[],0⟩]) ss.length=out at *;have hn7:bV (h6.push (.cells #[.int .i64 (out.2:Nat),.int .i64 (to:Nat)] 3)) O nb v6 out.1 st:=hn6.ak (Ext.push _ _ _) (fun _ _ k=>k);obtain⟨g,c6,cs6,hv6,hg1,hg2,hg3,hg4,hg5,hg6⟩:=hn7.row.put hpre;obtain⟨w6,rfl,_⟩:=hg5;subst hv6;have hput:=hg6 5 (.slice (some ⟨h6.size,0,none⟩) 2 2) ⟨0,0,[out.2,to],0⟩ (by decide) ⟨_,rfl,hnew6 _⟩;have hgb:h6.size=g\/g<h6.size:=by have:=hown6 g rfl;omega
           have hg6':g<h6.size:=(hown6 g rfl).2;have hcell7:cellAt (h6.push (.cells #[.int .i64 (out.2:Nat),.int .i64 (to:Nat)] 3)) ⟨g,0+ss.length*7+5,none⟩=some w6:=hg3 5 _ rfl;have m6:=hnM6 h1.size (by omega) (by omega);have j4:¬h1.size=g:=fun k=>m6 (.inl (.inr (by rw[k];rfl)))
           have j3:¬h6.size<=h.size:=by omega
           have j0:¬h6.size<=nb:=by omega
           have j5:¬h6.size<=h2.size:=by omega
           refine cS 7 ?_;refine xM ?_;refine ax ?_;refine Bt 11 (fun b=>Array.size h6<=b) (fun i=>Nat.blt i 10) ?_;refine eO 0 rfl (fun h' e=>bJ rfl (e.cell j3 (q3'.cell (i:=0) rfl))) ?_;refine cS 1 ?_;refine cS 2 ?_;refine eO 3 rfl (fun h' e=>bJ rfl (e.cell j0 hn6c)) ?_;refine cS 4 ?_;refine cS 5 ?_;refine eO 6 rfl (fun h' e=>bJ rfl (e.cell j5 (q5'.cell (i:=0) rfl))) ?_;refine nG 7 rfl (xI [_,_]) ?_;rintro _ _ ⟨rfl,rfl⟩;refine⟨fun _=>by first|exact Ext.push _ _ _|assumption,?_⟩;refine Rm 8 rfl (fN rfl rfl ss.length rfl rfl) ?_;refine cS 9 ?_;refine zS 10 rfl (ct H.pU rfl rfl rfl hcell7 (hg4 _)) ?_;rintro _ _ ⟨rfl,rfl⟩;refine⟨nofun,?_⟩;refine xM ?_;refine ax ?_;have hz7:∀u,(eo (h6.push (.cells #[.int .i64 (out.2:Nat),.int .i64 (to:Nat)] 3)) ⟨g,0+ss.length*7+5,none⟩ u).size=h6.size+1:=fun u=>by rw[iQ];simp
           have ex7:∀u,Ext (fun b=>b=g) h6 (eo (h6.push (.cells #[.int .i64 (out.2:Nat),.int .i64 (to:Nat)] 3)) ⟨g,0+ss.length*7+5,none⟩ u):=fun u=>⟨by rw[hz7];omega,fun b hb hn=>by rw[(Ext.eo (M:=fun b=>b=g) _ _ u rfl).block b (by simp;omega) hn,(Ext.push (fun _=>False) h6 _).block b hb (fun k=>k)]⟩
           refine xp rfl (bJ rfl ((q4'.ext (ex7 _) j4).cell (i:=0) rfl)) ?_;refine ax ?_;refine qT rfl (by decide) ?_;refine ax ?_;refine dS ?_;exact⟨_,rfl,_,rfl,⟨hn6.blk.ext (ex7 _) (by have:=hown6 g rfl;omega),hput⟩,((nx3.trans nx36 (fun _ _ k=>k)).trans ⟨(ex7 _).mono (fun b _ k=>.inl (.inr (by rw[k];rfl))),fun b k=>.inl k⟩ (fun _ _ k=>k))⟩
         · have h4k':¬k=4:=kk h4k;refine ax ?_;refine dM (fun h5k=>?_) (fun h5k=>?_)
           · obtain rfl:k=5:=by omega
             have hone:kids.length=1:=by simp[uz] at hw;exact hw.1
             obtain⟨x,rfl⟩:∃x,kids=[x]:=by match kids,hone with| [x],_=>exact⟨x,rfl⟩
             have hkn1:kn=1:=by simpa using hkn.symm
             have hszx:nS x<=gu [x]:=by simp[gu]
             have hwx:uz x=true:=by simpa [uB] using hwl
             have hlay:lay (.mk 5 s [x]) ss to=((lay x (ss++[⟨0,0,[],0⟩]) ss.length).1.set ss.length ⟨0,0,[(lay x (ss++[⟨0,0,[],0⟩]) ss.length).2,to],0⟩,(lay x (ss++[⟨0,0,[],0⟩]) ss.length).2):=by rw[lay];simp[bZ]
             rw[hlay];refine ax ?_;refine xp rfl (bJ rfl (q3.cell (i:=0) rfl)) ?_;refine xp rfl (aE (H.JS ) rfl) ?_;refine xo rfl (dz rfl (nw (O:=O) (to:=[]) hn3 hO3 (bB.nil _ _ _) (by omega))) ?_;rintro _ h5 ⟨v5,rfl,hn5,nx5⟩;have hz5:=nx5.ext.size;have hz0:=e03.size;have q3':=q3.ext nx5.ext (hnM _ (Nat.le_refl _));have q4':=q4.ext nx5.ext (hnM _ (by omega));have q5':=q5.ext nx5.ext (hnM _ (by omega));have hsl5:bB sM h5 (eD nb v5) (.slice oa kn kc) [x]:=hsl3.mv nx5.Oq;obtain⟨oa',n',c',hv',_,_,_,hget⟩:=id hsl5;cases hv';obtain⟨b,o,cs,ha,hob,hrow,hnd⟩:=hget 0 x rfl;obtain⟨w2,rfl,-⟩:=hnd.open;have hown5:=hn5.own
             have hnM5:∀b,h.size<=b->b<h3.size->¬(eD nb v5 b\/h5.size<=b):=by
              rintro b hb hb' ((k1|k1)|k1)
              · omega
              · rcases nx5.own b k1.symm with k2|k2
                · have:=hown b k2;omega
                · omega
              · omega
             have hbM:¬(eD nb v5 b\/h5.size<=b):=by
              rintro(k1|k1)
              · exact hob k1
              · have:=cX hrow (by simp[dI]);omega
             have m3:=hnM5 h.size (Nat.le_refl _) (by omega);have m4:=hnM5 h1.size (by omega) (by omega);refine ax ?_;refine Bt 8 (fun b=>eD nb v5 b\/Array.size h5<=b) (fun i=>Nat.blt i 8) ?_;refine eO 0 rfl (fun h' e=>bJ rfl (e.cell m3 (q3'.cell (i:=0) rfl))) ?_;refine cS 1 ?_;refine eO 2 rfl (fun h' e=>bJ rfl (e.cell m4 (q4'.cell (i:=5) rfl))) ?_;refine eO 3 rfl (fun h' e=>fN rfl rfl 0 rfl ha) ?_;refine eO 4 rfl (fun h' e=>jT rfl (e.rowAt hbM hrow)) ?_;refine cS 5 ?_;refine nG 6 rfl (dz rfl (ih (x:=x) (O:=O) (to:=ss.length) (by omega) hn5 (fun b hb=>by have:=hO3 b hb;omega) hnd hwx (by simp;omega))) ?_;rintro _ h6 ⟨v6,rfl,hn6,nx6⟩;refine⟨fun _=>nx6.ext.mono (fun b _ k=>k.elim .inl (fun k=>k.elim)),?_⟩;have hz6:=nx6.ext.size;have nx36:=nx5.trans nx6 (fun _ _ k=>k);have q3':=q3.ext nx36.ext (hnM _ (Nat.le_refl _));have q4':=q4.ext nx36.ext (hnM _ (by omega));have q5':=q5.ext nx36.ext (hnM _ (by omega));have hown6:=hn6.own;have hlen6:=fJ x (ss++[⟨0,0,[],0⟩]) ss.length;rw[List.length_append,List.length_singleton] at hlen6;have hpre:(lay x (ss++[⟨0,0,[],0⟩]) ss.length).1[ss.length]? =some ⟨0,0,[],0⟩:=by rw[lE x _ _ _ (by simp)];simp
             have hn6c:=hn6.blk.cell (i:=0) rfl
             have hnM6:∀b,h.size<=b->b<h3.size->¬(eD nb v6 b\/h6.size<=b):=by
              rintro b hb hb' ((k1|k1)|k1)
              · omega
              · rcases nx36.own b k1.symm with k2|k2
                · have:=hown b k2;omega
                · omega
              · omega
             have hnew6:∀t,bB ia (h6.push (.cells #[.int .i64 ((lay x (ss++[⟨0,0,[],0⟩]) ss.length).2:Nat),.int .i64 (to:Nat)] t)) (fun b=>cj v6.ownBlock b\/b=nb\/O b) (.slice (some ⟨h6.size,0,none⟩) 2 2) [(lay x (ss++[⟨0,0,[],0⟩]) ss.length).2,to]:=fun t=>Ro t _ _ (by
              rintro(k1|k1|k1)
              · have:=hown6 _ k1.symm;omega
              · omega
              · have:=hO3 _ k1;omega)
             generalize hout:lay x (ss++[⟨0,0,[],0⟩]) ss.length=out at *;have hn7:bV (h6.push (.cells #[.int .i64 (out.2:Nat),.int .i64 (to:Nat)] 3)) O nb v6 out.1 st:=hn6.ak (Ext.push _ _ _) (fun _ _ k=>k);obtain⟨g,c6,cs6,hv6,hg1,hg2,hg3,hg4,hg5,hg6⟩:=hn7.row.put hpre;obtain⟨w6,rfl,_⟩:=hg5;subst hv6;have hput:=hg6 5 (.slice (some ⟨h6.size,0,none⟩) 2 2) ⟨0,0,[out.2,to],0⟩ (by decide) ⟨_,rfl,hnew6 _⟩;have hgb:h6.size=g\/g<h6.size:=by have:=hown6 g rfl;omega
             have hg6':g<h6.size:=(hown6 g rfl).2;have hcell7:cellAt (h6.push (.cells #[.int .i64 (out.2:Nat),.int .i64 (to:Nat)] 3)) ⟨g,0+ss.length*7+5,none⟩=some w6:=hg3 5 _ rfl;have m6:=hnM6 h1.size (by omega) (by omega);have j4:¬h1.size=g:=fun k=>m6 (.inl (.inr (by rw[k];rfl)))
             have j3:¬h6.size<=h.size:=by omega
             have j0:¬h6.size<=nb:=by omega
             have j5:¬h6.size<=h2.size:=by omega
             refine cS 7 ?_;refine xM ?_;refine ax ?_;refine Bt 11 (fun b=>Array.size h6<=b) (fun i=>Nat.blt i 10) ?_;refine eO 0 rfl (fun h' e=>bJ rfl (e.cell j3 (q3'.cell (i:=0) rfl))) ?_;refine cS 1 ?_;refine cS 2 ?_;refine eO 3 rfl (fun h' e=>bJ rfl (e.cell j0 hn6c)) ?_;refine cS 4 ?_;refine cS 5 ?_;refine eO 6 rfl (fun h' e=>bJ rfl (e.cell j5 (q5'.cell (i:=0) rfl))) ?_;refine nG 7 rfl (xI [_,_]) ?_;rintro _ _ ⟨rfl,rfl⟩;refine⟨fun _=>by first|exact Ext.push _ _ _|assumption,?_⟩;refine Rm 8 rfl (fN rfl rfl ss.length rfl rfl) ?_;refine cS 9 ?_;refine zS 10 rfl (ct H.pU rfl rfl rfl hcell7 (hg4 _)) ?_;rintro _ _ ⟨rfl,rfl⟩;refine⟨nofun,?_⟩;refine xM ?_;refine ax ?_;have hz7:∀u,(eo (h6.push (.cells #[.int .i64 (out.2:Nat),.int .i64 (to:Nat)] 3)) ⟨g,0+ss.length*7+5,none⟩ u).size=h6.size+1:=fun u=>by rw[iQ];simp
             have ex7:∀u,Ext (fun b=>b=g) h6 (eo (h6.push (.cells #[.int .i64 (out.2:Nat),.int .i64 (to:Nat)] 3)) ⟨g,0+ss.length*7+5,none⟩ u):=fun u=>⟨by rw[hz7];omega,fun b hb hn=>by rw[(Ext.eo (M:=fun b=>b=g) _ _ u rfl).block b (by simp;omega) hn,(Ext.push (fun _=>False) h6 _).block b hb (fun k=>k)]⟩
             refine xp rfl (bJ rfl ((q4'.ext (ex7 _) j4).cell (i:=0) rfl)) ?_;refine ax ?_;refine tf rfl (by decide) ?_;refine ax ?_;refine dS ?_;exact⟨_,rfl,_,rfl,⟨hn6.blk.ext (ex7 _) (by have:=hown6 g rfl;omega),hput⟩,((nx3.trans nx36 (fun _ _ k=>k)).trans ⟨(ex7 _).mono (fun b _ k=>.inl (.inr (by rw[k];rfl))),fun b k=>.inl k⟩ (fun _ _ k=>k))⟩
           · have h5k':¬k=5:=kk h5k;have hlay:lay (.mk k s kids) ss to=(ss,to):=by rw[lay];simp[h1k',h2k',h3k',h4k',h5k',h6k']
             rw[hlay];refine ax ?_;refine xp rfl (bJ rfl (q5.cell (i:=0) rfl)) ?_;refine ax ?_;refine dS ?_;exact⟨_,rfl,v,rfl,hn3,nx3⟩
theorem Jc:∀n,J6 n
 | 0=>by
  intro hs;have:=E9 ‹Nd›;omega
 |n+1=>Jd (Jc n)
def yB:gH By:=.flat (fun s=>.string (bs s)) fun _=>rfl
def zP (h h':aj) (rules:List By) (r:Value):Prop :=
 match eR rules with
 |.inl e=>r= .tuple #[.pointer none,.int .i64 e]
 |.inr (ss,st)=>∃nb v,r= .tuple #[.pointer (some ⟨nb,0,none⟩),.int .i64 0]/\h.size<=nb/\bV h' (fun b=>b<h.size) nb v ss st
theorem J1 {O:Nat->Prop}{nb:Nat}{v:Value}{ss:List bC}{st:Nat}(i:Nat) (hn:bV h O nb v ss st) (hO:∀b,O b->b<h.size) (hl:ss.length<=1000000) :
 af Tryz.prog 187 #[.pointer (some ⟨nb,0,none⟩),.agg #[.int .i64 2,.int .u64 0,.int .u64 0,.int .u64 0,.int .u64 0,.slice none 0 0,.int .i64 (i:Nat)]] h (bf (Ly O nb h v st (ss++[⟨2,0,[],i⟩],ss.length))):=by
 have h1:=Bp (x:=⟨2,0,[],i⟩) hn hO ⟨.slice none 0 0,rfl,bB.nil _ _ _⟩ hl;simp only[Gm,My] at h1;exact h1
theorem Ee {lim:Nat}(hg:Sg h lim) (hlim:lim<=h.size){rv:Value}{rules:List By}(hr:bB yB h (fun _=>False) rv rules) (hrl:∀s∈rules,s.length<=1000000) :
 af Tryz.prog 119 #[rv] h (bf fun r h'=>zP h h' rules r/\aq h h'):=by
 obtain⟨oa,kn,kc,rfl,hsl⟩:=id hr.open;have hkn:=hsl.len;have hkc:=hsl.le;have hcap:=hsl.cap;generalize htgt:kH 0 rules [] []=tgt;refine eV ?_;refine dc ?_;refine fE ?_
 iterate 2 refine cG ?_
 refine iF ?_
 iterate 2 refine dc ?_
 refine rV [(18,.bool (decide (kn=0\/64<kn)))] rfl ?_ ?_
 · refine ax ?_;refine qV 14 (fun hg=>?_) (fun hg=>?_)
   · refine ax ?_;exact cY rfl ⟨aC rfl (by have:=of_decide_eq_true hg;simp;omega),sb rfl⟩
   · refine ax ?_;exact cY rfl ⟨aC rfl (by have:=of_decide_eq_false hg;simp only[decide_eq_decide];omega),sb rfl⟩
 · refine dM (fun hbig=>?_) (fun hbig=>?_)
   · refine ax ?_;refine dS ?_;refine⟨_,rfl,?_,Ext.refl _ _⟩;have:eR rules= .inl 2:=by unfold eR;rw[if_pos (show rules.length=0\/64<rules.length by omega)]
     rw[zP,this];rfl
   · have hmk:eR rules=match kH 0 rules [] [] with|.inl e=>.inl e|.inr (ss,t)=>if 2000<yl rules then .inl 70 else .inr (ss++[⟨0,0,t,0⟩],ss.length):=by unfold eR;rw[if_neg (show ¬(rules.length=0\/64<rules.length) by omega)]<;>rfl
     rw[htgt] at hmk;refine ax ?_;refine xp rfl (aE (H.N2 ) rfl) ?_;refine xo rfl (Bu) ?_;rintro _ h1 ⟨rfl,q4,e1,z1⟩;have q4:aH h1 h.size 287 [.slice none 0 0,.int .i64 (0:Nat)]:=q4;have hn1:bV h1 (fun b=>b<h.size) h.size (.slice none 0 0) [] 0:=⟨q4,fB.nil _ _ _ _ _⟩
     refine ax ?_;refine qS (σ:=Nat×Value) (fun p=>[(5,p.2),(6,.int .i64 (yl (rules.take p.1):Nat)),(23,.int .i64 (p.1:Nat))]) (fun p h'=>p.1<=kn/\∃v ss t,bV h' (fun b=>b<h.size\/cj p.2.ownBlock b) h.size v ss 0/\fB ia (fun _=>True) h' h1.size 3 p.2 t/\Nx (fun _=>False) h.size h1 (.slice none 0 0) h' v/\(∀b,p.2.ownBlock=some b->v.ownBlock≠some b)/\(ss.length<=402*p.1/\yl (rules.take p.1)<=200*p.1/\t.length=p.1)/\kH p.1 (rules.drop p.1) ss t=tgt) (fun p=>kn-p.1) ((0,.slice none 0 0)) ⟨Nat.zero_le _,_,[],[],hn1.ak (Ext.refl _ _) (fun b _ k=>k.elim id (fun k=>by cases k)),fB.nil _ _ _ _ _,Nx.refl,fun b hb=>(by cases hb),⟨Nat.zero_le _,by simp[yl],rfl⟩,htgt⟩ rfl ?_;rintro⟨i,tv⟩ g0 ⟨hi,v,ss,t,hng,htg,nxg,hdist,⟨hss,htot,htl⟩,hcon⟩ ih
     try dsimp only
     dsimp only at hi hng htg nxg hdist hss htot htl hcon;have hz0:=nxg.ext.size;have htv:∀b,tv.ownBlock=some b->h1.size<=b/\b<g0.size:=fun b hb=>by obtain⟨_,_,k,_⟩:=id htg;exact k.lt hb
     have e0g:aq h g0:=⟨by omega,fun b hb _=>(nxg.ext.block b (by omega) (by
      rintro((k|k)|k)
      · omega
      · cases k
      · exact k)).trans (e1.block b hb (fun k=>k))⟩
     have hown:=hng.own;have hnlt:=hng.blk.lt;refine ax ?_;refine dM (fun hlt=>?_) (fun hlt=>?_)
     · obtain⟨s,hs⟩:∃s,rules[i]? =some s:=⟨_,List.getElem?_eq_getElem (by omega)⟩
       have hdr:rules.drop i=s::rules.drop (i+1):=by
        obtain⟨hi',rfl⟩:=List.getElem?_eq_some_iff.1 hs;exact List.drop_eq_getElem_cons hi'
       rw[hdr,kH] at hcon;obtain⟨oa',n',c',hv',_,_,_,hget⟩:=id (hr.ak e0g);cases hv';obtain⟨b,o,cs,ha,hob,hrow,rfl⟩:=hget i s hs
       iterate 4 refine dc ?_
       refine fE ?_;refine cG ?_;refine xp rfl (fN rfl rfl i rfl ha) ?_;refine xp rfl (bJ rfl (hrow 0 _ rfl)) ?_;refine ax ?_;refine xo rfl (dz rfl (Cf (hg.ext e0g (fun _ k=>k.elim)) (by omega) s (hrl s (List.mem_of_getElem? hs)))) ?_;rintro _ g1 ⟨⟨w,rfl,hnd⟩,e01⟩;refine ax ?_;refine xo rfl (pI) ?_;rintro _ g2 ⟨rfl,k9,e12,z12⟩;refine dD rfl (iV rfl rfl k9 (bO.one hnd)) ?_;rintro _ g3 ⟨rfl,k9',e23,z23⟩;refine ax ?_;have k9':aH g3 g1.size 291 (dI (bN s).1.kind (bN s).1.set w):=k9';refine dM (fun herr=>?_) (fun herr=>?_)
       · rw[if_pos (by exact herr)] at hcon;refine ax ?_;refine dS ?_;have e3:aq h g3:=(e0g.trans e01).trans (e12.only e23 (Nat.le_refl _));refine⟨_,rfl,?_,e3⟩;rw[<-hcon] at hmk;rw[zP,hmk];rfl
       · have h0:(bN s).2=0:=by simpa using herr
         rw[if_neg (by simpa using h0)] at hcon;have hsmall:=qi h0;have hbs:=aR s;have ecc:aq g1 g3:=e12.only e23 (Nat.le_refl _);have e03:aq g0 g3:=e01.trans ecc;have hz1:=e01.size;have hz3:=ecc.size;have hz13:g1.size<g3.size:=by omega
         iterate 2 refine dc ?_
         refine rV [(6,.int .i64 (yl (rules.take (i+1)):Nat))] rfl ?_ ?_
         · refine ax ?_;exact cY rfl ⟨(by show some (Value.int _ _)=some (Value.int _ _);rw[yP hs];congr 2),sb rfl⟩
         · have hn3:bV g3 (fun b=>b<h.size\/cj tv.ownBlock b) h.size v ss 0:=hng.ak e03 (fun _ _ k=>k);have hO3:∀b,(b<h.size\/cj tv.ownBlock b)->b<g3.size:=fun b hb=>by rcases hb with k|k;omega;(have:=htv b k.symm;omega)
           have hnd3:bO g3 (eD h.size v) (dI (bN s).1.kind (bN s).1.set w) (bN s).1:=hnd.mv ⟨ecc.size,fun b hb hn=>⟨ecc.block b hb (fun k=>k),by
            rintro(k|k)
            · exact hn (by show b<g0.size;omega)
            · exact hn (by show b<g0.size;exact(hown b k.symm).2)⟩⟩
           have hK1:¬(eD h.size v g1.size\/False):=by
            rintro((k|k)|k)
            · omega
            · have:=hown _ k.symm;omega
            · exact k
           refine Bt 11 (fun b=>¬b=Array.size g1) (fun i=>Nat.blt i 11) ?_;refine cS 0 ?_;refine cS 1 ?_;refine eO 2 rfl (fun h' e=>jT rfl (e.rowAt (fun k=>k rfl) k9'.row)) ?_;refine cS 3 ?_;refine cS 4 ?_;refine eO 5 rfl (fun h' e=>aE (H.Hp _ _) rfl) ?_;refine nG 6 rfl (dz rfl (J1 i hn3 hO3 (by omega))) ?_;rintro _ g4 ⟨v4,rfl,hn4,nx4⟩;refine⟨fun _=>nx4.ext.mono (fun b _ k e=>hK1 (e▸k)),?_⟩;have hz4:=nx4.ext.size
           have hK2:¬(eD h.size v4 g1.size\/False):=by
            rintro((k|k)|k)
            · omega
            · rcases nx4.own _ k.symm with k2|k2
              · exact hK1 (.inl (.inr k2.symm))
              · omega
            · exact k
           refine nG 7 rfl (dz rfl (Jc 401 (x:=(bN s).1) (to:=ss.length) hsmall.1 hn4 (fun b hb=>by have:=hO3 b hb;omega) (hnd3.mv nx4.Oq) hsmall.2.1 (by have:=hsmall.1;simp only[List.length_append,List.length_singleton];omega))) ?_;rintro _ g5 ⟨v5,rfl,hn5,nx5⟩;refine⟨fun _=>nx5.ext.mono (fun b _ k e=>hK2 (e▸k)),?_⟩;have hz5:=nx5.ext.size;have nx45:Nx (fun _=>False) h.size g3 v g5 v5:=nx4.trans nx5 (fun _ _ k=>k)
           have ht5:fB ia (fun _=>True) g5 h1.size 3 tv t:=(htg.ak e03).Fv nx45.ext (fun b hb=>by
            rintro((k1|k1)|k1)
            · have:=htv b hb;omega
            · exact hdist b hb k1.symm
            · exact k1) (fun _ _ _=>trivial) (fun _ _ _=>trivial)
           obtain⟨css,hc1,hc2,hc3⟩:=id ht5;have hKt:¬cj tv.ownBlock g1.size:=fun k=>by have:=htv _ k.symm;omega
           refine nG 8 rfl (xI [_]) ?_;rintro _ _ ⟨rfl,rfl⟩;refine⟨fun _=>by first|exact Ext.push _ _ _|assumption,?_⟩;refine nG 9 rfl (F9 rfl rfl hc2 rfl rfl) ?_;rintro t6 g6 ⟨ho6,hx6,hx6',hv6⟩;refine⟨fun _=>hx6'.mono (fun b _ k e=>hKt (e▸k)),?_⟩;refine cS 10 ?_;refine xM ?_;refine ax ?_;have ht6:=fB.mN hc1 hc3 ho6 hx6 hv6 (y:=(lay (bN s).1 (ss++[(⟨2,0,[],i⟩:bC)]) ss.length).2) rfl
           have hn6:bV g6 (fun b=>b<h.size\/cj t6.ownBlock b) h.size v5 (lay (bN s).1 (ss++[⟨2,0,[],i⟩]) ss.length).1 0:=hn5.ext hx6 (fun k=>by have:=htv _ k.symm;omega) (fun b hb k=>by
            rcases nx45.own b hb with k'|k'
            · exact hdist b k.symm k'
            · have:=htv b k.symm;omega) (fun b _ k=>.inr k) (fun b hb k=>k.imp id (fun k=>by
              rcases hv6 b k.symm with k'|k'
              · exact k'.symm
              · omega))
           have hd6:∀b,t6.ownBlock=some b->v5.ownBlock≠some b:=fun b hb k=>by
            rcases hv6 b hb with k'|k'
            · rcases nx45.own b k with k2|k2
              · exact hdist b k' k2
              · have:=htv b k';omega
            · have:=(hn5.own b k).2;omega
           have nx05:Nx (fun _=>False) h.size h1 (.slice none 0 0) g5 v5:=(nxg.trans (Nx.Oo e03) (fun _ _ k=>k)).trans nx45 (fun _ _ k=>k);have nx06:Nx (fun _=>False) h.size h1 (.slice none 0 0) g6 v5:=⟨⟨by have:=hx6.size;omega,fun b hb hn=>by rw[hx6.block b (by omega) (fun k=>by have:=htv b k.symm;omega)];exact nx05.ext.block b hb hn⟩,nx05.own⟩
           have hlenl:=(fJ (bN s).1 (ss++[⟨2,0,[],i⟩]) ss.length).2;rw[List.length_append,List.length_singleton] at hlenl;have htt:=yP hs;exact ih (i+1,t6) ⟨by show i+1<=kn;omega,v5,_,_,hn6,ht6,nx06,hd6,⟨by have:=hsmall.1;show _<=402*(i+1);omega,by have:=hsmall.2.2;show yl (rules.take (i+1))<=200*(i+1);omega,by simp[htl]⟩,hcon⟩
     · obtain rfl:i=kn:=by omega
       have hall:rules.take i=rules:=List.take_of_length_le (by omega);have hnil:rules.drop i=[]:=List.drop_of_length_le (by omega);rw[hnil,kH] at hcon;rw[<-hcon] at hmk;rw[hall] at htot;simp only[hall];refine ax ?_;refine dM (fun hbig2=>?_) (fun hbig2=>?_)
       · refine ax ?_;refine dS ?_;refine⟨_,rfl,?_,e0g⟩;have:eR rules= .inl 70:=by rw[hmk];exact if_pos (by omega)
         rw[zP,this];rfl
       · have hmk2:eR rules= .inr (ss++[⟨0,0,t,0⟩],ss.length):=by rw[hmk];exact if_neg (by omega)
         have hrd:bB ia g0 (fun b=>eD h.size v b\/b<h.size) tv t:=htg.IA (fun b hb=>by
          rintro((k1|k1)|k1)
          · have:=htv b hb;omega
          · exact hdist b hb k1.symm
          · have:=htv b hb;omega) (fun _ _ _=>trivial)
         obtain⟨oa9,n9,c9,rfl,_⟩:=id hrd;refine ax ?_;refine xp rfl (aE (H.Bl _ _ _) rfl) ?_;refine xo rfl (dz rfl (nw (O:=fun b=>b<h.size) (to:=t) (hng.ak (Ext.refl _ _) (fun b _ k=>.inl k)) (fun b hb=>by omega) hrd (by omega))) ?_;rintro _ g4 ⟨v4,rfl,hn4,nx4⟩;refine ax ?_;refine dD rfl (qY rfl rfl hn4.blk) ?_;rintro _ g5 ⟨rfl,hk5,hx5,hz5⟩;refine ax ?_;refine dS ?_;have hn5:bV g5 (fun b=>b<h.size) h.size v4 (ss++[⟨0,0,t,0⟩]) ss.length:=⟨hk5,hn4.row.Fv hx5 (fun b hb k=>by have:=(hn4.own b hb).1;omega) (fun b _ k=>.inl k) (fun b _ k=>k)⟩
         have e4:aq h g5:=⟨by have:=hx5.size;have:=nx4.ext.size;omega,fun b hb _=>by
          rw[hx5.block b (by have:=nx4.ext.size;omega) (by omega),nx4.ext.block b (by omega) ?_]
          · exact e0g.block b hb (fun k=>k)
          · rintro((k|k)|k)
            · omega
            · rcases nxg.own b k.symm with k2|k2
              · cases k2
              · omega
            · exact k⟩
         refine⟨_,rfl,?_,e4⟩;rw[zP,hmk2];exact⟨h.size,v4,rfl,Nat.le_refl _,hn5⟩
theorem oL {O:Nat->Prop}{nb:Nat}{v:Value}{ss:List bC}{st:Nat}(hn:bV h O nb v ss st):af Tryz.prog 242 #[.pointer (some ⟨nb,0,none⟩)] h (bf fun r h'=>r= .bool (decide (ss.length=0))/\h'=h):=by
 obtain⟨css,hc1,hc2,hc3⟩:=id hn.row;obtain⟨oa,c,rfl,_⟩:=hc2.open;refine eV ?_;refine dc ?_;refine fE ?_;refine cG ?_;refine iF ?_;refine dc ?_;refine rV [(2,.bool (decide (ss.length=0)))] rfl ?_ ?_
 · refine cG ?_;refine xp rfl (ai.cJ underlying223 rfl rfl) ?_;refine ax ?_;refine RW.bH (d:=5) (b':=false) rfl (rfl) ?_;refine ax ?_;refine xp rfl (bJ rfl (hn.blk.cell (i:=0) rfl)) ?_;refine ax ?_;exact cY rfl ⟨aC rfl (by simp only[decide_eq_decide];omega),sb rfl⟩
 · refine dS ?_;exact⟨_,rfl,rfl,rfl⟩
end
end Go.Proofs.YtdihgdeciopfpaaGreatDoor
namespace Go.Proofs.YtdihgdeciopfpaaGreatDoor
open Go Go.Lw
set_option maxRecDepth 20000
section
variable {h:aj}
theorem IJ {base:Nat}{t:TypeId}{v:Value}{todo:List Nat}{m:Nat}(k:b7 dA h base t v todo) (hm:todo.length=m+1) :
    ∃g c x,v= .slice (some ⟨g,0,none⟩) (m+1) c/\m+1<=c/\g<h.size/\base<=g/\cellAt h ⟨g,0+m*1,none⟩=some (.int .i64 (x:Nat))/\todo=todo.dropLast++[x] /\
      b7 dA h base t (.slice (bu (some ⟨g,0,none⟩) 0 1 c) m c) todo.dropLast/\(Value.slice (bu (some ⟨g,0,none⟩) 0 1 c) m c).ownBlock=some g:=by
  have k':az h base t 1 v todo.length (todo.map dA):=k;obtain⟨oa,c,rfl,ho⟩:=k'.open;have hne:todo≠[]:=by intro e;rw[e] at hm;cases hm
  have hlast:todo=todo.dropLast++[todo.getLast hne]:=(List.dropLast_concat_getLast hne).symm
  have hx:(todo.map dA)[m]? =some (dA (todo.getLast hne)):=by
    rw[List.getElem?_map,List.getLast_eq_getElem,List.getElem?_eq_getElem (by omega)];simp[hm]
  obtain⟨g,rfl,hb,hlt,hc,_⟩:=ho.at hx;have ht:=ho.take (m:=m) (by omega) 1
  have hd:(todo.map dA).take (m*1)=todo.dropLast.map dA:=by
    rw[Nat.mul_one,List.dropLast_eq_take,hm,Nat.add_sub_cancel,List.map_take]
  rw[hd] at ht;refine⟨g,c,todo.getLast hne,by rw[hm],by have:=ho.le;omega,hlt,hb,hc,hlast,?_,?_⟩
  · have hl:todo.dropLast.length=m:=by simp[hm]
    unfold b7;rw[hl];exact ht
  · unfold bu;split<;>simp[Value.ownBlock,Addr.add]
theorem bV.get {O:Nat->Prop}{nb:Nat}{v:Value}{ss:List bC}{st i:Nat}{x:bC}(k:bV h O nb v ss st) (hx:ss[i]? =some x) :
    ∃g c w,v= .slice (some ⟨g,0,none⟩) ss.length c/\g<h.size/\Lw.rowAt h g (0+i*7) (Gm x.kind x.set w x.rule)/\bB ia h (fun b=>cj v.ownBlock b\/b=nb\/O b) w x.to:=by
  obtain⟨g,c,cs,rfl,_,hg,hrow,_,⟨w,rfl,hw⟩,_⟩:=k.row.put hx;exact⟨g,c,w,rfl,hg,hrow,hw⟩
theorem Dl {O:Nat->Prop}{oa:Option Addr}{n c:Nat}{xs:List Nat}(k:bB ia h O (.slice oa n c) xs):xs.length=n/\(n=0\/∃b o,oa=some ⟨b,o,none⟩/\Lw.rowAt h b o (xs.map dA))/\n<=maxLen:=by
  obtain⟨oa',n',c',hv,hl,hc,hm,hg⟩:=k;cases hv;have hs:Sl ia h O oa n c xs:=⟨hl,hc,hm,hg⟩
  exact⟨hl,Sl.row hs,by omega⟩
end
end Go.Proofs.YtdihgdeciopfpaaGreatDoor
namespace Go.Proofs.YtdihgdeciopfpaaGreatDoor
open Go.Proofs.Tryz
open Go Go.Lw
set_option maxRecDepth 20000 set_option maxHeartbeats 4000000
section
variable {ss:List bC}{n nb st:Nat}{todo:List Nat}{seen:List Bool}{h:aj}{O:Nat->Prop}{v:Value}
theorem ED {i:Nat}(ht:todo.getLast? =some i) (hs:seen[i]? =some true):iD ss (n+1) todo seen=iD ss n todo.dropLast seen:=by
 rw[iD,ht];simp[hs]
theorem Hj {i:Nat}{x:bC}(ht:todo.getLast? =some i) (hs:seen[i]? =some false) (hx:ss[i]? =some x):iD ss (n+1) todo seen=iD ss n (if x.kind=0 then todo.dropLast++x.to else todo.dropLast) (seen.set i true):=by
 rw[iD,ht];simp[hs,hx]
theorem Hi:iD ss n [] seen=seen:=by cases n<;>simp[iD]
def HK (ss:List bC) (seen:List Bool) (i:Nat):Bool:=seen[i]? ==some true && (ss[i]?.map (·.kind)) !=some 0
theorem qA {tv:Value}{base:Nat}{tb:Option Nat}(hn:bV h O nb v ss st) (hgood:Good ss) (hss:ss.length<=1000000) (htd:b7 dA h base 3 tv todo) (htb:tv.ownBlock=tb)
 (hbase:base<=h.size) (hOt:∀b,tb=some b->O b/\b≠nb/\v.ownBlock≠some b) (hlt:∀j∈todo,j<ss.length) (hpot:todo.length+sy ss (List.replicate ss.length false)<=1000000) :
 af Tryz.prog 243 #[.pointer (some ⟨nb,0,none⟩),tv] h (bf fun r h'=>b7 dA h' h.size 3 r (closed ss todo)/\Ext (cj tb) h h'):=by
 obtain⟨css,hc1,hc2,hc3⟩:=id hn.row;obtain⟨va,vc,rfl,_⟩:=hc2.open
 have htl:tb=none\/∃b,tb=some b/\b<h.size:=by
  cases tb with
  |none=>exact .inl rfl
  |some b=>exact .inr ⟨b,rfl,(az.lt htd htb).2⟩
 obtain⟨oa,c,rfl,_⟩:=(show az h base 3 1 tv todo.length (todo.map dA) from htd).open;generalize htgt:iD ss (todo.length+sy ss (List.replicate ss.length false)) todo (List.replicate ss.length false)=tgt;refine eV ?_;refine ax ?_;refine dM (fun hz=>?_) (fun hz=>?_)
 · refine ax ?_;refine dS ?_;have:closed ss todo=[]:=by unfold closed;rw[if_pos (by omega)]
   rw[this];exact⟨_,rfl,b7.nil _ _ _ _,Ext.refl _ _⟩
 · refine ax ?_;refine xp rfl (bJ rfl (hn.blk.cell (i:=0) rfl)) ?_;refine ax ?_;refine xo rfl (aB.qk underlying142 H.Re H.Q6 rfl rfl rfl (by omega) (by decide)) ?_;rintro _ h1 ⟨rfl,hk1,e1⟩;refine ax ?_;refine qS (σ:=Nat×Value×List Nat×List Bool) (fun q=>[(1,q.2.1)]) (fun q h'=>Ext (cj tb) h h'/\b7 dA h' base 3 q.2.1 q.2.2.1/\(∀b,q.2.1.ownBlock=some b->tb=some b\/h1.size<=b)/\az h' h.size 4 1 (.slice (some ⟨h.size,0,none⟩) ss.length ss.length) ss.length (q.2.2.2.map .bool)/\q.2.2.2.length=ss.length/\(∀j∈q.2.2.1,j<ss.length)/\(q.2.2.1.length+sy ss q.2.2.2<=q.1/\q.1<=1000000/\h1.size<=h'.size)/\iD ss q.1 q.2.2.1 q.2.2.2=tgt) (fun q=>q.1) ((todo.length+sy ss (List.replicate ss.length false),.slice oa todo.length c,todo,List.replicate ss.length false)) ⟨e1.mono fun _ _ k=>k.elim,az.eE htd e1,fun b hb=>.inl (htb.symm.trans hb),by simpa using hk1,by simp,hlt,⟨Nat.le_refl _,hpot,Nat.le_refl _⟩,htgt⟩ rfl ?_;rintro⟨n,dv,td,seen⟩ g ⟨eg,hd,hdo,hs,hsl,hlt',⟨hp,hn1,hgz⟩,hcon⟩ ih
   try dsimp only
   dsimp only at hd hdo hs hsl hlt' hp hn1 hcon;have hz1:h.size<h1.size:=by have:=(az.lt hk1 rfl).2;exact this
   have hsow:=hs.open;obtain⟨sa,sc,hsv,hsow⟩:=hsow;cases hsv
   rcases Nat.eq_zero_or_pos td.length with hpos|hpos
   · obtain rfl:td=[]:=List.eq_nil_of_length_eq_zero hpos;obtain⟨oad,cd,rfl,_⟩:=(show az g base 3 1 dv ([]:List Nat).length (([]:List Nat).map dA) from hd).open;rw[Hi] at hcon;refine ax ?_;refine qT rfl (by simp) ?_;have hnc:∀{h':aj},Ext (cj tb) h h'->bV h' O nb (.slice va ss.length vc) ss st:=fun e=>hn.ext e (fun k=>(hOt nb k.symm).2.1 rfl) (fun b hb k=>(hOt b k.symm).2.2 hb) (fun b _ k=>(hOt b k.symm).1) (fun _ _ k=>k)
     have hcl:closed ss todo=(List.range ss.length).filter (HK ss seen):=by
      unfold closed;rw[if_neg (by omega),htgt,<-hcon];rfl
     refine ax ?_;refine qS (σ:=Nat×Value) (fun q=>[(7,q.2),(61,.int .i64 (q.1:Nat))]) (fun q h'=>q.1<=ss.length/\aq g h'/\b7 dA h' g.size 3 q.2 ((List.range q.1).filter (HK ss seen))) (fun q=>ss.length-q.1) ((0,.slice none 0 0)) ⟨Nat.zero_le _,Ext.refl _ _,b7.nil _ _ _ _⟩ rfl ?_;rintro⟨i,ov⟩ g2 ⟨hi,e2,ho2⟩ ih2
     try dsimp only
     dsimp only at hi ho2;have eg2:Ext (cj tb) h g2:=eg.trans (e2.mono fun _ _ k=>k.elim);have hn2:=hnc eg2;have hz2:=e2.size;refine ax ?_;refine dM (fun hlti=>?_) (fun hlti=>?_)
     · have hil:i<ss.length:=by omega
       obtain⟨bx,hbx⟩:∃bx,seen[i]? =some bx:=⟨_,List.getElem?_eq_getElem (by omega)⟩
       obtain⟨y,hy⟩:∃y,ss[i]? =some y:=⟨_,List.getElem?_eq_getElem hil⟩
       obtain⟨sa2,sc2,hsv2,hsow2⟩:=(az.eE hs e2).open;cases hsv2;obtain⟨g',hg',_,hsg,hscell,hsnf⟩:=hsow2.at (i:=i) (x:=.bool bx) (by rw[List.getElem?_map,hbx];rfl);cases hg';obtain⟨gs,cs,ws,hvs,hgs,hrow,hws⟩:=hn2.get hy;cases hvs;have hlen2:((List.range i).filter (HK ss seen)).length<=i:=by have:=List.length_filter_le (HK ss seen) (List.range i);simpa using this
       have hnext:(List.range (i+1)).filter (HK ss seen)=(List.range i).filter (HK ss seen)++(if HK ss seen i then [i] else []):=by
        rw[List.range_succ,List.filter_append];cases hpr:HK ss seen i<;>simp[hpr]
       iterate 4 refine dc ?_
       refine fE ?_;refine cG ?_;refine xp rfl (fN rfl rfl i rfl rfl) ?_;refine xp rfl (bJ rfl hscell) ?_
       iterate 2 refine cG ?_
       refine iF ?_;refine dc ?_;refine rV [(77,.bool (HK ss seen i))] rfl ?_ ?_
       · refine ax ?_;refine qV 67 (fun hg=>?_) (fun hg=>?_)
         · refine ax ?_;refine xp rfl (bJ rfl (hn2.blk.cell (i:=0) rfl)) ?_;refine cG ?_;refine xp rfl (fN rfl rfl i rfl rfl hil) ?_;refine ax ?_;refine xp rfl (bJ rfl (hrow 0 _ rfl)) ?_;refine ax ?_;exact cY rfl ⟨aC rfl (by subst hg;simp[HK,hbx,hy];by_cases hk0:y.kind=0<;>simp[hk0]),sb rfl⟩
         · refine ax ?_;exact cY rfl ⟨aC rfl (by subst hg;simp[HK,hbx]),sb rfl⟩
       · refine E4 (fun hb=>?_) (fun hb=>?_)
         · rw[if_pos hb] at hnext;refine ax ?_;refine xo rfl (xI [_]) ?_;rintro _ _ ⟨rfl,rfl⟩;refine xo rfl (F9 rfl rfl ho2 rfl rfl) ?_;rintro ov3 g3 ⟨ho3,hx3,-,hv3⟩;refine ax ?_;have ho3':b7 dA g3 g.size 3 ov3 ((List.range (i+1)).filter (HK ss seen)):=by rw[hnext];exact b7.of (ys:=[i]) ho3 rfl rfl rfl
           have e3:aq g g3:=b7.grown e2 ho2 (Nat.le_refl _) hx3;exact ih2 (i+1,ov3) ⟨by show i+1<=_;omega,e3,ho3'⟩
         · rw[if_neg (by rw[hb];decide)] at hnext;rw[List.append_nil] at hnext;rw[<-hnext] at ho2;refine ax ?_;exact ih2 (i+1,ov) ⟨by show i+1<=_;omega,e2,ho2⟩
     · obtain rfl:i=ss.length:=by omega
       refine ax ?_;refine dS ?_;rw[hcl];exact⟨_,rfl,az.lower ho2 (by omega),eg2⟩
   · obtain⟨m,hm⟩:∃m,td.length=m+1:=⟨td.length-1,by omega⟩
     obtain⟨gd,cd,x,rfl,hcd,hgd,hbd,hcell,hlast,hcut,hcb⟩:=IJ hd hm;have hgl:td.getLast? =some x:=by rw[hlast];simp
     have hxl:x<ss.length:=hlt' x (by rw[hlast];simp);have hltd:∀j∈td.dropLast,j<ss.length:=fun j hj=>hlt' j (List.dropLast_subset _ hj)
     have hdl:td.dropLast.length=m:=by simp[hm]
     obtain⟨n,rfl⟩:∃n',n=n'+1:=⟨n-1,by omega⟩
     obtain⟨bx,hbx⟩:∃bx,seen[x]? =some bx:=⟨_,List.getElem?_eq_getElem (by omega)⟩
     obtain⟨y,hy⟩:∃y,ss[x]? =some y:=⟨_,List.getElem?_eq_getElem hxl⟩
     obtain⟨g',hg',_,hsg,hscell,hsnf⟩:=hsow.at (i:=x) (x:=.bool bx) (by rw[List.getElem?_map,hbx];rfl);cases hg';refine ax ?_;refine tf rfl (by simp only[decide_eq_false_iff_not];omega) ?_
     iterate 3 refine dc ?_
     refine fE ?_
     iterate 4 refine cG ?_
     refine xp rfl (fN rfl rfl m (by omega) rfl) ?_;refine xp rfl (bJ rfl hcell) ?_;refine ax ?_;refine xp rfl (ai.iK underlying101 H.bL rfl rfl m (by omega) (by omega)) ?_;refine cG ?_;refine iF ?_
     iterate 2 refine dc ?_
     refine fE ?_
     iterate 2 refine cG ?_
     refine xp rfl (fN rfl rfl x rfl rfl) ?_;refine xp rfl (bJ rfl hscell) ?_;refine ax ?_;refine E4 (fun hb=>?_) (fun hb=>?_)
     · subst hb;rw[ED hgl hbx] at hcon;refine ax ?_;exact ih (n,_,td.dropLast,seen) ⟨eg,hcut,fun b hb=>hdo b (by rw[<-hb];exact hcb▸rfl),hs,hsl,hltd,⟨by show td.dropLast.length+sy ss seen<=n;omega,by show n<=_;omega,hgz⟩,hcon⟩
     · subst hb;rw[Hj hgl hbx hy] at hcon;have hpt:=AF ss seen x y hy hbx
       have hgne:¬gd=h.size:=fun k=>by
        rcases hdo gd rfl with k2|k2
        · rcases htl with k3|⟨b3,k3,k4⟩
          · rw[k3] at k2;cases k2
          · rw[k3] at k2;cases k2;omega
        · omega
       iterate 2 refine dc ?_
       refine fE ?_
       iterate 2 refine cG ?_
       refine xp rfl (fN rfl rfl x rfl rfl) ?_;refine dD rfl (ct H.Fb rfl rfl rfl hscell hsnf) ?_;rintro _ g2 ⟨rfl,hg2⟩;have x2:Ext (fun b=>b=h.size) g g2:=by rw[hg2];exact Ext.eo _ _ _ rfl
       have hz2:=x2.size;have eg2:Ext (cj tb) h g2:=⟨by omega,fun b hb hn=>by rw[x2.block b (by omega) (by omega)];exact eg.block b hb hn⟩
       have hs2:az g2 h.size 4 1 (.slice (some ⟨h.size,0,none⟩) ss.length ss.length) ss.length ((seen.set x true).map .bool):=by
        have k:=(hsow.set (i:=x) rfl hxl (.bool true)).own;rw[<-hg2] at k;rw[List.map_set];exact k
       have hcut2:az g2 base 3 1 _ td.dropLast.length (td.dropLast.map dA):=az.ext x2 hcut (fun b hb k=>hgne (by have:=hcb.symm.trans hb;cases this;exact k));have hn2:bV g2 O nb _ ss st:=hn.ext eg2 (fun k=>(hOt nb k.symm).2.1 rfl) (fun b hb k=>(hOt b k.symm).2.2 hb) (fun b _ k=>(hOt b k.symm).1) (fun _ _ k=>k);obtain⟨gs,cs,ws,hvs,hgs,hrow,hws⟩:=hn2.get hy;cases hvs;have hsl2:(seen.set x true).length=ss.length:=by simpa using hsl
       refine ax ?_;refine xp rfl (bJ rfl (hn2.blk.cell (i:=0) rfl)) ?_;refine cG ?_;refine xp rfl (fN rfl rfl x rfl rfl hxl) ?_;refine ax ?_;refine xp rfl (bJ rfl (hrow 0 _ rfl)) ?_;refine ax ?_;refine dM (fun hk=>?_) (fun hk=>?_)
       · rw[if_pos (by omega)] at hcon;obtain⟨wa,wn,wc,rfl,_⟩:=id hws;obtain⟨hwl,hwn,hwm⟩:=Dl hws;rw[hdl] at hcut2;refine ax ?_;refine xp rfl (bJ rfl (hn2.blk.cell (i:=0) rfl)) ?_;refine cG ?_;refine xp rfl (fN rfl rfl x rfl rfl hxl) ?_;refine ax ?_;refine xp rfl (bJ rfl (hrow 5 _ rfl)) ?_;refine xo rfl (aB.append underlying101 H.NR rfl rfl hcut2 (by simp[hwl]) hwn (by intro u hu;simp at hu;obtain⟨j,_,rfl⟩:=hu;rfl) (by simp only[maxLen];omega) (by omega) (by omega)) ?_;rintro dv3 g3 ⟨hd3,ex3,-,ho3⟩;refine ax ?_;have hz3:=ex3.size;rw[hcb] at ex3 ho3
         have hd3':b7 dA g3 base 3 dv3 (td.dropLast++y.to):=by
          unfold b7;rw[List.length_append,hdl,hwl,List.map_append];exact hd3
         have hdo3:∀b,dv3.ownBlock=some b->tb=some b\/h1.size<=b:=fun b hb=>by
          rcases ho3 b hb with k|k
          · exact hdo b k
          · exact .inr (by omega)
         have eg3:Ext (cj tb) h g3:=⟨by omega,fun b hb hn=>by
          rw[ex3.block b (by omega) ?_]
          · exact eg2.block b hb hn
          · intro k;cases k
            rcases hdo gd rfl with k2|k2
            · exact hn k2.symm
            · omega⟩
         have hgood':∀j∈td.dropLast++y.to,j<ss.length:=fun j hj=>by
          rcases List.mem_append.1 hj with k|k
          · exact hltd j k
          · exact hgood y (List.mem_of_getElem? hy) j k
         exact ih (n,dv3,td.dropLast++y.to,seen.set x true) ⟨eg3,hd3',hdo3,az.ext ex3 hs2 (fun b hb k=>by cases k;cases hb;exact hgne rfl),hsl2,hgood',⟨by show (td.dropLast++y.to).length+sy ss (seen.set x true)<=n;rw[List.length_append];omega,by show n<=_;omega,by show h1.size<=g3.size;omega⟩,hcon⟩
       · rw[if_neg (by omega)] at hcon;refine ax ?_;exact ih (n,_,td.dropLast,seen.set x true) ⟨eg2,hcut2,fun b hb=>hdo b (by rw[<-hb];exact hcb▸rfl),hs2,hsl2,hltd,⟨by show td.dropLast.length+sy ss (seen.set x true)<=n;omega,by show n<=_;omega,by show h1.size<=g2.size;omega⟩,hcon⟩
theorem BU (hn:bV h O nb v ss st) (hgood:Good ss) (hss:ss.length<=1000000) (hst:ss.length=0\/st<ss.length) (hpot:1+sy ss (List.replicate ss.length false)<=1000000) :
 af Tryz.prog 189 #[.pointer (some ⟨nb,0,none⟩)] h (bf fun r h'=>b7 dA h' h.size 3 r (cg ss st)/\aq h h'):=by
 have hown:=hn.own;have hnlt:=hn.blk.lt;refine eV ?_;refine ax ?_;refine xo rfl (dz rfl (oL hn)) ?_;rintro _ h0 ⟨rfl,hh0⟩;refine ax ?_;subst hh0;refine dM (fun hz=>?_) (fun hz=>?_)
 · refine ax ?_;refine dS ?_;rw[cg,if_pos hz];exact⟨_,rfl,b7.nil _ _ _ _,Ext.refl _ _⟩
 · have hn1:bV (h0.push (.cells #[.int .i64 (st:Nat)] 3)) (fun b=>O b\/b=h0.size) nb v ss st:=hn.ak (Ext.push _ _ _) (fun b hb k=>k.elim id (fun k=>by omega));have ho1:b7 dA (h0.push (.cells #[.int .i64 (st:Nat)] 3)) h0.size 3 (.slice (some ⟨h0.size,0,none⟩) 1 1) [st]:=xj dA h0 3 [st] 1 rfl (by simp[maxLen]) h0.size (Nat.le_refl _) rfl;refine ax ?_;refine xp rfl (bJ rfl (hn.blk.cell (i:=1) rfl)) ?_;refine xo rfl (xI [_]) ?_;rintro _ _ ⟨rfl,rfl⟩;refine xo rfl (dz rfl (qA (tb:=some h0.size) hn1 hgood hss ho1 rfl (by simp) (fun b hb=>by cases hb;exact⟨.inr rfl,by omega,fun k=>by have:=(hown _ k).2;omega⟩) (fun j hj=>by simp at hj;omega) hpot)) ?_;rintro _ h2 ⟨ho2,hx2⟩;refine ax ?_;refine dS ?_;rw[cg,if_neg hz];have hps:(h0.push (.cells #[.int .i64 (st:Nat)] 3)).size=h0.size+1:=by simp
   refine⟨_,rfl,az.lower ho2 (by omega),⟨by have:=hx2.size;omega,fun b hb _=>?_⟩⟩;rw[hx2.block b (by omega) (fun k=>by cases k;omega)];exact(Ext.push (fun _=>False) h0 _).block b hb (fun k=>k)
theorem yK {nv:Value}{now:List Nat}(hn:bV h O nb v ss st) (_hss:ss.length<=1000000) (hnow:bB ia h (fun _=>False) nv now) (hlt:∀j∈now,j<ss.length) (hnn:now.length<=1000000) :
 af Tryz.prog 192 #[.pointer (some ⟨nb,0,none⟩),nv] h (bf fun r h'=>r= .int .i64 (bn ss now)/\h'=h):=by
 obtain⟨css,hc1,hc2,hc3⟩:=id hn.row;obtain⟨va,vc,rfl,_⟩:=hc2.open;obtain⟨na,nn,nc,rfl,hnl,hnc,hnm,hget⟩:=id hnow;generalize htgt:qM ss now (-1)=tgt;refine eV ?_;refine ax ?_;refine xo rfl (dz rfl (oL hn)) ?_;rintro _ h0 ⟨rfl,hh0⟩;refine ax ?_;subst hh0;refine dM (fun hz=>?_) (fun hz=>?_)
 · refine ax ?_;refine dS ?_;rw[bn,if_pos hz];exact⟨_,rfl,rfl,rfl⟩
 · refine ax ?_;refine qS (σ:=Nat×Int) (fun q=>[(5,.int .i64 q.2),(13,.int .i64 (q.1:Nat))]) (fun q h'=>h'=h0/\q.1<=nn/\qM ss (now.drop q.1) q.2=tgt) (fun q=>nn-q.1) ((0,-1)) ⟨rfl,Nat.zero_le _,htgt⟩ rfl ?_;rintro⟨i,b⟩ h1 ⟨rfl,hi,hcon⟩ ih
   try dsimp only
   dsimp only at hi hcon;refine ax ?_;refine dM (fun hlti=>?_) (fun hlti=>?_)
   · obtain⟨j,hj⟩:∃j,now[i]? =some j:=⟨_,List.getElem?_eq_getElem (by omega)⟩
     obtain⟨bb,o,cs,ha,_,hrow,rfl⟩:=hget i j hj;have hjl:j<ss.length:=hlt j (List.mem_of_getElem? hj);obtain⟨y,hy⟩:∃y,ss[j]? =some y:=⟨_,List.getElem?_eq_getElem hjl⟩
     obtain⟨gs,cs,ws,hvs,hgs,hrw,hws⟩:=hn.get hy;cases hvs
     have hdr:now.drop i=j::now.drop (i+1):=by
      obtain⟨hi',rfl⟩:=List.getElem?_eq_some_iff.1 hj;exact List.drop_eq_getElem_cons hi'
     rw[hdr,qM,hy] at hcon;simp only at hcon
     iterate 4 refine dc ?_
     refine fE ?_;refine xp rfl (fN rfl rfl i rfl ha) ?_;refine xp rfl (bJ rfl (hrow 0 _ rfl)) ?_;refine cG ?_;refine iF ?_;refine dc ?_;refine rV [(54,.bool (qL y b))] rfl ?_ ?_
     · refine ax ?_;refine RW.bH (d:=19) (b':=true) rfl (decide_eq_true (by omega)) ?_;refine ax ?_;refine xp rfl (bJ rfl (hn.blk.cell (i:=0) rfl)) ?_;refine ax ?_;refine RW.bH (d:=28) (b':=true) rfl (decide_eq_true (by omega)) ?_;refine ax ?_;refine xp rfl (bJ rfl (hn.blk.cell (i:=0) rfl)) ?_;refine cG ?_;refine xp rfl (fN rfl rfl j rfl rfl hjl) ?_;refine ax ?_;refine xp rfl (bJ rfl (hrw 0 _ rfl)) ?_;refine ax ?_;refine qV 39 (fun hk=>?_) (fun hk=>?_)
       · have hk':=of_decide_eq_true hk;refine ax ?_;refine qV 42 (fun hb=>?_) (fun hb=>?_)
         · have hb':=of_decide_eq_true hb;refine ax ?_;exact cY rfl ⟨aC rfl (by simp[qL];omega),sb rfl⟩
         · have hb':=of_decide_eq_false hb;refine ax ?_;refine xp rfl (bJ rfl (hn.blk.cell (i:=0) rfl)) ?_;refine cG ?_;refine xp rfl (fN rfl rfl j rfl rfl hjl) ?_;refine ax ?_;refine xp rfl (bJ rfl (hrw 6 _ rfl)) ?_;refine ax ?_;exact cY rfl ⟨aC rfl (by simp only[qL,decide_eq_decide];omega),sb rfl⟩
       · have hk':=of_decide_eq_false hk;refine ax ?_;exact cY rfl ⟨aC rfl (by simp[qL];omega),sb rfl⟩
     · refine E4 (fun hb=>?_) (fun hb=>?_)
       · rw[if_pos hb] at hcon;refine ax ?_;refine xp rfl (bJ rfl (hn.blk.cell (i:=0) rfl)) ?_;refine cG ?_;refine xp rfl (fN rfl rfl j rfl rfl hjl) ?_;refine ax ?_;refine xp rfl (bJ rfl (hrw 6 _ rfl)) ?_;refine ax ?_;exact ih (i+1,(y.rule:Int)) ⟨rfl,by show i+1<=nn;omega,hcon⟩
       · rw[if_neg (by rw[hb];decide)] at hcon;refine ax ?_;exact ih (i+1,b) ⟨rfl,by show i+1<=nn;omega,hcon⟩
   · have hnil:now.drop i=[]:=List.drop_of_length_le (by omega);rw[hnil,qM] at hcon;refine ax ?_;refine dS ?_;rw[bn,if_neg hz,htgt];exact⟨_,rfl,by rw[hcon];rfl,rfl⟩
theorem DP {nv:Value}{now:List Nat}(c:UInt8) (hn:bV h O nb v ss st) (hgood:Good ss) (hss:ss.length<=1000000) (hnow:bB ia h (fun _=>False) nv now) (hlt:∀j∈now,j<ss.length) (hnn:now.length<=1000000)
 (hpot:(stepG ss c now []).length+sy ss (List.replicate ss.length false)<=1000000) :
 af Tryz.prog 191 #[.pointer (some ⟨nb,0,none⟩),nv,.int .u8 (c.toNat:Nat)] h (bf fun r h'=>b7 dA h' h.size 3 r (cz ss c now)/\aq h h'):=by
 have hown:=hn.own;have hnlt:=hn.blk.lt;obtain⟨css,hc1,hc2,hc3⟩:=id hn.row;obtain⟨va,vc,rfl,_⟩:=hc2.open;obtain⟨na,nn,nc,rfl,hnl,hnc,hnm,hget⟩:=id hnow;generalize htgt:stepG ss c now []=tgt at *;refine eV ?_;refine ax ?_;refine xo rfl (dz rfl (oL hn)) ?_;rintro _ h0 ⟨rfl,hh0⟩;refine ax ?_;subst hh0;refine dM (fun hz=>?_) (fun hz=>?_)
 · refine ax ?_;refine dS ?_;rw[cz,if_pos hz];exact⟨_,rfl,b7.nil _ _ _ _,Ext.refl _ _⟩
 · refine ax ?_;refine qS (σ:=Nat×Value×List Nat) (fun q=>[(7,q.2.1),(14,.int .i64 (q.1:Nat))]) (fun q h'=>aq h0 h'/\q.1<=nn/\b7 dA h' h0.size 3 q.2.1 q.2.2/\(∀j∈q.2.2,j<ss.length)/\stepG ss c (now.drop q.1) q.2.2=tgt) (fun q=>nn-q.1) ((0,.slice none 0 0,[])) ⟨Ext.refl _ _,Nat.zero_le _,b7.nil _ _ _ _,(fun j hj=>by cases hj),htgt⟩ rfl ?_;rintro⟨i,ov,acc⟩ h1 ⟨e1,hi,ho,hal,hcon⟩ ih
   try dsimp only
   dsimp only at hi ho hal hcon;have hz1:=e1.size;have hn1:bV h1 O nb (.slice va ss.length vc) ss st:=hn.ak e1 (fun _ _ k=>k);have hacc:acc.length<=tgt.length:=by rw[<-hcon];exact rm _ _ _ _
   refine ax ?_;refine dM (fun hlti=>?_) (fun hlti=>?_)
   · obtain⟨j,hj⟩:∃j,now[i]? =some j:=⟨_,List.getElem?_eq_getElem (by omega)⟩
     obtain⟨bb,o,cs,ha,_,hrow,rfl⟩:=hget i j hj;have hjl:j<ss.length:=hlt j (List.mem_of_getElem? hj);obtain⟨y,hy⟩:∃y,ss[j]? =some y:=⟨_,List.getElem?_eq_getElem hjl⟩
     obtain⟨gs,cs,ws,hvs,hgs,hrw,hws⟩:=hn1.get hy;cases hvs
     have hdr:now.drop i=j::now.drop (i+1):=by
      obtain⟨hi',rfl⟩:=List.getElem?_eq_some_iff.1 hj;exact List.drop_eq_getElem_cons hi'
     rw[hdr,stepG,hy] at hcon;simp only at hcon;have hrow1:Lw.rowAt h1 bb (o+i*1) [dA j]:=e1.rowAt (fun k=>k) hrow
     have hset:Lw.rowAt h1 gs (0+j*7+1) (wz y.set):=fun q u hu=>by
      have hq:(Gm y.kind y.set ws y.rule)[1+q]? =some u:=by
       match q with
       | 0=>exact hu
       | 1=>exact hu
       | 2=>exact hu
       | 3=>exact hu
       |q+4=>simp[wz] at hu
      have:=hrw (1+q) u hq
      rwa [<-Nat.add_assoc] at this
     iterate 4 refine dc ?_
     refine fE ?_;refine xp rfl (fN rfl rfl i rfl ha) ?_;refine xp rfl (bJ rfl (hrow1 0 _ rfl)) ?_;refine cG ?_;refine iF ?_;refine dc ?_;refine SR (fun(_u:Unit) (h':aj)=>aq h1 h') (fun(_u:Unit)=>[(51,.bool (iY y c))]) rfl ?_ ?_
     · refine ax ?_;refine RW.bH (d:=20) (b':=true) rfl (decide_eq_true (by omega)) ?_;refine ax ?_;refine xp rfl (bJ rfl (hn1.blk.cell (i:=0) rfl)) ?_;refine ax ?_;refine RW.bH (d:=29) (b':=true) rfl (decide_eq_true (by omega)) ?_;refine ax ?_;refine xp rfl (bJ rfl (hn1.blk.cell (i:=0) rfl)) ?_;refine cG ?_;refine xp rfl (fN rfl rfl j rfl rfl hjl) ?_;refine ax ?_;refine xp rfl (bJ rfl (hrw 0 _ rfl)) ?_;refine ax ?_;refine qV 40 (fun hk=>?_) (fun hk=>?_)
       · have hk':=of_decide_eq_true hk;have hk2:y.kind=1:=by omega
         refine ax ?_;refine xp rfl (bJ rfl (hn1.blk.cell (i:=0) rfl)) ?_;refine cG ?_;refine xp rfl (fN rfl rfl j rfl rfl hjl) ?_;refine ax ?_;refine xp rfl (jT rfl hset) ?_;refine ax ?_;refine xo rfl (dz rfl (G2 y.set c)) ?_;rintro _ h2 ⟨rfl,e2⟩;refine ax ?_;exact OA () e2 ⟨aC rfl (by simp[iY,hk2]),sb rfl⟩
       · have hk':=of_decide_eq_false hk;have hk2:¬y.kind=1:=by omega
         refine ax ?_;exact OA () (Ext.refl _ _) ⟨aC rfl (by simp[iY,hk2]),sb rfl⟩
     · rintro _ h2 e2;have e02:=e1.trans e2;have ho2:b7 dA h2 h0.size 3 ov acc:=b7.ak ho e2;have hn2:bV h2 O nb _ ss st:=hn.ak e02 (fun _ _ k=>k);have hz2:=e02.size;refine E4 (fun hb=>?_) (fun hb=>?_)
       · rw[if_pos hb] at hcon;have hacc2:(acc++y.to).length<=tgt.length:=by rw[<-hcon];exact rm _ _ _ _
         rw[List.length_append] at hacc2;obtain⟨gs,cs,ws,hvs,hgs,hrw2,hws2⟩:=hn2.get hy;cases hvs;obtain⟨wa,wn,wc,rfl,_⟩:=id hws2;obtain⟨hwl,hwn,hwm⟩:=Dl hws2;refine ax ?_;refine xp rfl (bJ rfl (hn2.blk.cell (i:=0) rfl)) ?_;refine cG ?_;refine xp rfl (fN rfl rfl j rfl rfl hjl) ?_;refine ax ?_;refine xp rfl (bJ rfl (hrw2 5 _ rfl)) ?_;refine xo rfl (aB.append underlying101 H.NR rfl rfl ho2 (by simp[hwl]) hwn (by intro u hu;simp at hu;obtain⟨j,_,rfl⟩:=hu;rfl) (by simp only[maxLen];omega) (by omega) (by omega)) ?_;rintro ov3 h3 ⟨ho3,hx3,-,hv3⟩;refine ax ?_
         have ho3':b7 dA h3 h0.size 3 ov3 (acc++y.to):=by
          unfold b7;rw[List.length_append,hwl,List.map_append];exact ho3
         have e3:aq h0 h3:=b7.grown e02 ho2 (Nat.le_refl _) hx3
         have hal3:∀j∈acc++y.to,j<ss.length:=fun j hj=>by
          rcases List.mem_append.1 hj with k|k
          · exact hal j k
          · exact hgood y (List.mem_of_getElem? hy) j k
         exact ih (i+1,ov3,acc++y.to) ⟨e3,by show i+1<=nn;omega,ho3',hal3,hcon⟩
       · rw[if_neg (by rw[hb];decide)] at hcon;refine ax ?_;exact ih (i+1,ov,acc) ⟨e02,by show i+1<=nn;omega,ho2,hal,hcon⟩
   · have hnil:now.drop i=[]:=List.drop_of_length_le (by omega);rw[hnil,stepG] at hcon;subst hcon;have hol:∀b,ov.ownBlock=some b->h0.size<=b/\b<h1.size:=fun b hb=>az.lt ho hb
     have hn':bV h1 (fun b=>O b\/cj ov.ownBlock b) nb (.slice va ss.length vc) ss st:=hn.ak e1 (fun b hb k=>k.elim id (fun k=>by have:=(hol b k.symm).1;omega));refine ax ?_;refine xo rfl (dz rfl (qA (tb:=ov.ownBlock) hn' hgood hss ho rfl (by omega) (fun b hb=>⟨.inr hb.symm,by have:=hol b hb;omega,fun k=>by have:=hol b hb;have:=(hown b k).2;omega⟩) hal hpot)) ?_;rintro _ h2 ⟨ho2,hx2⟩;refine ax ?_;refine dS ?_;rw[cz,if_neg hz,htgt];refine⟨_,rfl,az.lower ho2 (by omega),⟨by have:=hx2.size;omega,fun b hb _=>?_⟩⟩;rw[hx2.block b (by omega) (fun k=>by have:=hol b k.symm;omega)];exact e1.block b hb (fun k=>k)
theorem nA {α:Type}{e:gH α}{Q Q':Nat->Prop}{xs:List α}(k:bB e h Q v xs) (hq:∀b,Q' b->Q b):bB e h Q' v xs:=k.mv ⟨Nat.le_refl _,fun b _ hn=>⟨rfl,fun k=>hn (hq b k)⟩⟩
end
end Go.Proofs.YtdihgdeciopfpaaGreatDoor
namespace Go.Proofs.YtdihgdeciopfpaaGreatDoor
open Go Go.Lw
set_option maxRecDepth 20000
def Od (h:aj) (p:Value) (rules:List By):Prop:=∃(O:Nat->Prop) (nb:Nat) (v:Value) (ss:List bC) (st:Nat),p= .pointer (some ⟨nb,0,none⟩)/\bV h O nb v ss st/\eR rules= .inr (ss,st)
def Mo (rules:List By):Int:=match eR rules with|.inl e=>e|.inr _=>0
def AN (rules:List By) (s:By) (a:Int):Int×Int:=match eR rules with|.inl _=>(0,-1)|.inr (ss,st)=>Ec ss st s a
theorem GO {h:aj}{lim:Nat}(hg:Sg h lim) (hlim:lim<=h.size){rv:Value}{rules:List By}(hr:bB yB h (fun _=>False) rv rules) (hrl:∀s∈rules,s.length<=1000000) :
    af Tryz.prog 119 #[rv] h (bf fun r h'=>(∃p,r= .tuple #[p,.int .i64 (Mo rules)]/\((∃e,eR rules= .inl e/\p= .pointer none)\/Od h' p rules))/\aq h h') :=
  (Ee hg hlim hr hrl).ret fun r h' k=>by
    obtain⟨k1,k2⟩:=k;refine⟨?_,k2⟩;unfold zP at k1;unfold Mo;cases hm:eR rules with
    |inl e=>rw[hm] at k1;exact⟨_,k1,.inl ⟨e,rfl,rfl⟩⟩
    |inr q =>
      obtain⟨ss,st⟩:=q;rw[hm] at k1;obtain⟨nb,v,h1,_,h3⟩:=k1;exact⟨_,h1,.inr ⟨_,nb,v,ss,st,rfl,h3,hm⟩⟩
theorem Cz {rules:List By}{ss:List bC}{st:Nat}(k:Made rules ss st):ss.length<=1000000/\1+sy ss (List.replicate ss.length false)<=1000000/\∀c now,List.Sublist now (List.range ss.length)->(stepG ss c now []).length+sy ss (List.replicate ss.length false)<=1000000:=by
  have h1:=k.len;have h2:=k.tot;have h3:=ID ss (List.replicate ss.length false);refine⟨by omega,by omega,fun c now hs=>?_⟩;have:=Gl c hs;omega
end Go.Proofs.YtdihgdeciopfpaaGreatDoor

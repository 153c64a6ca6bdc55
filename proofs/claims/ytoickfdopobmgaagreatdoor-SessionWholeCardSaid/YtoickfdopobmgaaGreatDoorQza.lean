/- What the proof of the statement leans on (part 27). -/
import Derived.Shelf.Strings.Builder1
import Derived.Shelf.Strings.Builder2
import Derived.Shelf.Strings.OnBuilder
import Derived.Shelf.Strings.Trim
import Derived.Shelf.Small.Utf8
import Derived.Shelf.Small.Bits
import Derived.Shelf.Small.Strs
import Derived.Shelf.Small.Wraps
import Derived.Shelf.Strings.BuilderF
import Derived.Shelf.Strings.BuilderK
import Derived.Shelf.Strings.Builder2Cap
import Derived.Shelf.Strconv.Itoa0
import Derived.Shelf.Strconv.Itoa1
import Derived.Shelf.LaysM
import Derived.Shelf.Strconv.Itoa2
import Derived.Shelf.Strconv.Itoa3
import Derived.Shelf.Strconv.Itoa4
import Derived.Shelf.Strconv.ParseIntEmpty
import Derived.Shelf.Strconv.Clone
import Derived.Shelf.Strconv.SyntaxError
import Derived.Shelf.LaysC
import Derived.Shelf.Strconv.ToError
import Derived.Shelf.Strconv.Lower
import Derived.Shelf.Strconv.ParseUint10
import Derived.Shelf.Strconv.ParseUint10Empty
import Derived.Shelf.Strconv.ParseUint10Any
import Derived.Shelf.Strconv.ParseInt10
import Derived.Shelf.Strconv.RangeError
import Derived.Shelf.Strconv.ToErrorRange
import Derived.Shelf.Strconv.ParseUintEmpty
import Derived.Shelf.Strconv.ParseUint10b64
import Derived.Shelf.Strconv.ParseUint10b32
import Derived.Shelf.Strconv.ParseUint10b16
import Derived.Shelf.Strconv.ParseUint10b8
import Derived.Shelf.Strconv.ParseUint10At
import Derived.Shelf.Strconv.ParseInt10At64
import Derived.Shelf.Strconv.ParseInt10At32
import Derived.Shelf.Strconv.ParseInt10At16
import Derived.Shelf.Strconv.ParseInt10At8
import Derived.Shelf.Strconv.ParseInt10All
import Derived.Shelf.Strconv.ParseIntPublic10
import Derived.Shelf.Strconv.ErrVarParseInt
import Derived.Shelf.Strings.Search1
import Derived.Shelf.Strings.Search2
import Derived.Shelf.Strings.Search3
import Derived.Shelf.Strings.Shaped
import Derived.Shelf.Sort.Plain
import Derived.Shelf.Strings.Prefix
import Derived.Shelf.Unicode.Decode
import Derived.Shelf.Strings.Runes
import Derived.Shelf.Strings.AsciiSet
import Derived.Shelf.Unicode.DecodeSlow
import Derived.Shelf.Unicode.DecodeAny
import Derived.Shelf.Slices.Turned
import Derived.Shelf.Slices.In.SortNone
import Derived.Ground.SlgnProg
import Derived.Shelf.SlicesG.SearchI
import Derived.Test.YtoickfdopobmgaaGreatDoorProg
import Derived.Below
import Derived.KernelRfl
import Derived.Lib.ItoaLen
import Derived.Test.YtoickfdopobmgaaGreatDoorQz

namespace Go.Proofs.YtoickfdopobmgaaGreatDoor
open Go.Proofs.Tryz
open Go Go.Lw
set_option maxRecDepth 20000 set_option maxHeartbeats 4000000
theorem uE {h:ai}{b:Nat}{t:TypeId}{a c m:List Value}(k:aD h b t (a++(m++c))):Lw.rowAt h b a.length m:=fun j v hv=>k.cell (i:=a.length+j) (by
 rw[List.getElem?_append_right (by omega),Nat.add_sub_cancel_left,List.getElem?_append_left (List.getElem?_eq_some_iff.1 hv).1];exact hv)
theorem JW {B m m1 m2:Nat}{f x:Vl}(a2:okV (B-2*m1) f) (b2:okV (B-2*m2) x) (h1:m1<m) (h2:m2<m1) (hB:2*m<=B):vE (B-2*m2) ((if f.self≠[] then f.env++[(f.self,f)] else f.env)++[(f.fE,x)]):=by
 obtain⟨_,f2,f3⟩:=a2.get;split
 · refine⟨?_,fun p hp=>?_⟩
   · rw[List.length_append,List.length_append];have:=f3.1;simp;omega
   · rcases List.mem_append.1 hp with hp|hp
     · rcases List.mem_append.1 hp with hp|hp
       · exact(f3.2 p hp).le (by omega)
       · simp at hp;subst hp;exact a2.le (by omega)
     · simp at hp;subst hp;exact b2
 · exact lQ f3 h2 (by omega) b2 f.fE
theorem EJ {hb:ai}(hg:Hy hb){rb B d:Nat}(ih:NF hb rb B d){O:Nat->Prop}{h:ai}{m:Nat}{ev nv:Value}{env:List Bd}{t:By}{l:List Tr}(I:qE hb rb B O h m ev env) (hm:m<=d) (hn:eF h O nv (.mk 9 t l)) (hc:Cl bz (.mk 9 t l)) (hw:(Tr.mk 9 t l).wt<=1000000) :
 aq Tryz.prog 83 #[.pointer (some ⟨rb,0,none⟩),ev,nv] h (bw fun r h'=>Mm rb O h (zM (aU d) m env l) r h'):=by
 obtain⟨na,nn,nc,rfl,hR,hks⟩:=nQ hn;have hkn:=hks.len;subst hkn;obtain⟨hl1,hl2⟩:=xd hc (by decide);have hl1:2<=l.length:=hl1;obtain⟨b0,o0,k0,t0,a0,n0,c0,ha0,hb0,hr0,hk0⟩:=iW hks (i:=0) (by omega);have hrl:=I.Dt;refine bL ?_;refine af ?_;refine xo rfl (jj) ?_;rintro _ h1 ⟨rfl,k5,e1,z1⟩;refine xo rfl (cO) ?_;rintro _ h2 ⟨rfl,k6,e2,z2⟩;have e12:=e1.trans e2;have k5:aD h2 h.size 39 [.int .i64 9,.string (bs t),.slice na l.length nc]:=k5.ah e2;have m2:=cL O h h2;have I2:=I.yZ m2 e12 (jm I.lt e12.size);have o1:=iI B d m env (l.getD 0 bJ) I.mB I.ok (cS hw 0);have hih:=ih I2 hm (hk0.mv (m2.tA e12)) (hc.rR 0) (cS hw 0);unfold zM;generalize aU d m env (l.getD 0 bJ)=o at hih o1 ⊢;obtain⟨v,e,m'⟩:=o;obtain⟨hm',hvk,hlt⟩:=o1;dsimp only at hm' hvk hlt ⊢;refine af ?_;refine xp rfl (aA rfl (k5.cell (i:=2) rfl)) ?_;refine xp rfl (cz rfl rfl 0 rfl ha0) ?_;refine xp rfl (bY rfl (e12.rowAt (fun k=>k) hr0)) ?_;refine xo rfl (aE rfl hih) ?_;rintro _ h3 ⟨v3,rfl,hv3,b3,e3⟩;dsimp only at hv3 b3;obtain⟨nk,nt,xa,xn,xc,ea,en,ec,rfl,hbd3,hR3,hen3⟩:=cW.get hv3;refine af ?_;refine xo rfl (cO) ?_;rintro _ h4 ⟨rfl,k8,e4,z4⟩;refine aM rfl (aY rfl rfl k8 gI) ?_;rintro _ h5 ⟨rfl,k85,x5,z5⟩;have k85:aD h5 h3.size 42 (lG v.kind v.num v.fE v.self nk nt xa xn xc ea en ec):=k85;have e35:aj h3 h5:=aj.only e4 x5 (Nat.le_refl _);have E25:Ext (fun b=>b=rb) h2 h5:=e3.trans (e35.mono fun _ _ q=>q.elim);have E05:Ext (fun b=>b=rb) h h5:=(e12.mono fun _ _ q=>q.elim).trans E25;have zz:=And.intro e3.size (And.intro e35.size e12.size);have m23:=cL (upTo O h h2) h3 h5;obtain⟨O3,hO3⟩:∃O3,O3=upTo (upTo O h h2) h3 h5:=⟨_,rfl⟩
 have l3:∀b,O3 b->b<h5.size:=fun b q=>by
  rw[hO3] at q
  rcases q with (q|q)|q
  · have:=I.lt b q;omega
  · omega
  · omega
 have m3:kD h O O3:=by
  rw[hO3]
  exact⟨fun b q=>.inl (.inl q),fun b q=>by
   rcases q with (q|q)|q
   · exact .inl q
   · exact .inr q.1
   · exact .inr (by omega)⟩
 have b5:=b3.ah e35;have hR5:=eV.mv hR3 (m23.tA e35);rw[<-hO3] at hR5;have hbd5:=eN.mv hbd3 (m23.tA e35);rw[<-hO3] at hbd5;have hen5:=hen3.mv (m23.tA e35);rw[<-hO3] at hen5;have o6:O3 h1.size:=by rw[hO3];exact .inl (.inr (by omega))
 have k55:=k5.ext E25 (by omega);have k65:=k6.ext E25 (by omega);have I5:qE hb rb B O3 h5 m' ev env:=I.next m3 hm' E05 b5 l3
 refine af ?_;refine aR (fun he=>?_) (fun he=>?_)
 · rw[if_pos he];refine af ?_;refine xp rfl (av (H.dO ) rfl) ?_;refine af ?_;refine aM rfl (aY rfl rfl k65) ?_;rintro _ h6 ⟨rfl,k66,x6,z6⟩;refine af ?_;refine ct (cj rfl k66.row (eo cq)) ?_;exact⟨_,rfl,_,rfl,gN _ _,b5.ext x6 (by omega),E05.bH x6 (fun b hb q=>by omega)⟩
 · rw[if_neg he];have hlt:=hlt (Classical.not_not.1 he);obtain⟨b1,o1',k1,t1,a1,n1,c1,ha1,hb1,hr1,hk1⟩:=iW hks (i:=1) (by omega);have hb1r:b1≠rb:=fun q=>hb1.1 (q▸I.own)
   have hr1':=E05.rowAt hb1r hr1;have hk1':=hk1.mv (m3.mv I.own E05);have o2:=iI B d m' env (l.getD 1 bJ) I5.mB I5.ok (cS hw 1);have hih2:=ih I5 (by omega) hk1' (hc.rR 1) (cS hw 1);generalize aU d m' env (l.getD 1 bJ)=p at hih2 o2 ⊢;obtain⟨v2,e2',m2'⟩:=p;obtain⟨hm2,hvk2,hlt2⟩:=o2;dsimp only at hm2 hvk2 hlt2 ⊢;refine af ?_;refine xp rfl (aA rfl (k55.cell (i:=2) rfl)) ?_;refine xp rfl (cz rfl rfl 1 rfl ha1) ?_;refine xp rfl (bY rfl hr1') ?_;refine xo rfl (aE rfl hih2) ?_;rintro _ h6 ⟨v6,rfl,hv6,b6,e6⟩;dsimp only at hv6 b6;obtain⟨nk2,nt2,ya,yn,yc,fa,fm,fc,rfl,_,hR6,_⟩:=cW.get hv6;refine af ?_;refine xo rfl (cO) ?_;rintro _ h7 ⟨rfl,k10,e7,z7⟩;refine aM rfl (aY rfl rfl k10 gI) ?_;rintro _ h8 ⟨rfl,k10',x8,z8⟩;have k10':aD h8 h6.size 42 (lG v2.kind v2.num v2.fE v2.self nk2 nt2 ya yn yc fa fm fc):=k10';have e68:aj h6 h8:=aj.only e7 x8 (Nat.le_refl _);have E58:Ext (fun b=>b=rb) h5 h8:=e6.trans (e68.mono fun _ _ q=>q.elim);have E08:=E05.trans E58;have zw:=And.intro e6.size e68.size;obtain⟨O6,hO6⟩:∃O6,O6=upTo O3 h6 h8:=⟨_,rfl⟩
   have l6:∀b,O6 b->b<h8.size:=fun b q=>by
    rw[hO6] at q
    rcases q with q|q
    · have:=l3 b q;omega
    · omega
   have m56:kD h5 O3 O6:=by rw[hO6];exact⟨fun b q=>.inl q,fun b q=>q.imp id (fun q=>by omega)⟩
   have m6:kD h O O6:=⟨fun b q=>m56.1 b (m3.1 b q),fun b q=>(m56.2 b q).elim (m3.2 b) (fun q=>.inr (by omega))⟩
   have b8:=b6.ah e68;have hR8:=eV.mv hR6 ((cL O3 h6 h8).tA e68);rw[<-hO6] at hR8;have hr3:=m3.1 _ I.own;have hR58:=eV.mv hR5 (m56.mv hr3 E58);have o66:=m56.1 _ o6;have k58:=k55.ext E58 (by omega);have k68:=k65.ext E58 (by omega);have k88:=k85.ext E58 (by have:=I2.Dt;omega);have I8:qE hb rb B O6 h8 m2' ev env:=I5.next m56 hm2 E58 b8 l6
   refine af ?_;refine aR (fun he2=>?_) (fun he2=>?_)
   · rw[if_pos he2];refine af ?_;refine xp rfl (av (H.dO ) rfl) ?_;refine af ?_;refine aM rfl (aY rfl rfl k68) ?_;rintro _ h9 ⟨rfl,k66,x9,z9⟩;refine af ?_;refine ct (cj rfl k66.row (eo cq)) ?_;exact⟨_,rfl,_,rfl,gN _ _,b8.ext x9 (by omega),E08.bH x9 (fun b hb q=>by omega)⟩
   · rw[if_neg he2];have hlt2:=hlt2 (Classical.not_not.1 he2);refine af ?_;refine xp rfl (aA rfl (k88.cell (i:=0) rfl)) ?_;refine af ?_;refine aR (fun hk=>?_) (fun hk=>?_)
     · rw[if_pos hk];refine af ?_;refine xp rfl (av (H.dO ) rfl) ?_;refine aM rfl (aY rfl rfl k68) ?_;rintro _ h9 ⟨rfl,k66,x9,z9⟩;refine af ?_;refine ct (cj rfl k66.row (eo cq)) ?_;exact⟨_,rfl,_,rfl,gN _ _,b8.ext x9 (by omega),E08.bH x9 (fun b hb q=>by omega)⟩
     · rw[if_neg hk];obtain⟨f1,f2,f3⟩:=hvk.get;have hbd8:=eN.mv hbd5 (m56.mv hr3 E58);have hen8:=hen5.mv (m56.mv hr3 E58);have r4:Lw.rowAt h8 h3.size 4 [.int .i64 nk,.string (bs nt),.slice xa xn xc]:=uE (a:=[_,_,_,_]) (m:=[_,_,_]) (c:=[_]) k88;refine af ?_;refine xp rfl (bY rfl r4) ?_;refine xo rfl (aE rfl (nA f2 (hg.ah I8.ext) (eF.of hbd8))) ?_;rintro _ h9 ⟨rfl,e9⟩;have k69:=k68.ah e9;have k89:=k88.ah e9;have E09:=E08.trans (e9.mono fun _ _ q=>q.elim);have z9:=e9.size;refine af ?_;refine iM (fun hq=>?_) (fun hq=>?_)
       · have hq:cA bz v.body=false:=by simpa using hq
         rw[if_pos hq];refine af ?_;refine xp rfl (av (H.dO ) rfl) ?_;refine aM rfl (aY rfl rfl k69) ?_;rintro _ h10 ⟨rfl,k66,x10,z10⟩;refine af ?_;refine ct (cj rfl k66.row (eo cq)) ?_;exact⟨_,rfl,_,rfl,gN _ _,(b8.ah e9).ext x10 (by omega),E09.bH x10 (fun b hb q=>by omega)⟩
       · have hq:cA bz v.body=true:=by simpa using hq
         rw[if_neg (by rw[hq];decide)];have hce:=JW hvk hvk2 hlt hlt2 I.mB;have m69:kD h8 O6 O6:=⟨fun _ q=>q,fun _ q=>.inl q⟩
         have hen9:=hen8.mv (Mv.ah e9);have hbd9:=eN.mv hbd8 (Mv.ah e9);have hRf9:=eV.mv hR58 (Mv.ah e9);have hRx9:=eV.mv hR8 (Mv.ah e9);have hB:=I.hB;have hvl:=f3.1;have h3r:h3.size≠rb:=by have:=I2.Dt;omega
         have h6r:h6.size≠rb:=by have:=I5.Dt;omega
         refine af ?_;refine xp rfl (aA rfl (k89.cell (i:=7) rfl)) ?_;refine af ?_;refine xp rfl (aA rfl (k89.cell (i:=3) rfl)) ?_;refine af ?_;refine aR (fun hs=>?_) (fun hs=>?_)
         · have hs:v.self≠[]:=fun q=>hs (by rw[q];rfl)
           rw[if_pos hs] at hce ⊢;refine af ?_;refine xp rfl (aA rfl (k89.cell (i:=3) rfl)) ?_;refine xp rfl (bY rfl k89.row) ?_;refine xo rfl (aE rfl (jD hen9 (by omega) v.self (cW.of hRf9))) ?_;rintro r10 h10 ⟨ho10,e10⟩;have hen10:=ho10.read (O':=O6) (fun b hb q=>by have:=l6 b q;omega) (fun _ _ q=>q);have hM8:¬(h3.size=rb\/h10.size<=h3.size):=by have:=e10.size;omega
           have hM6:¬(h6.size=rb\/h10.size<=h6.size):=by have:=e10.size;omega
           have k8x:=k89.ah e10;have k10x:=(k10'.ah e9).ah e10;have r4x:Lw.rowAt h10 h3.size 4 [.int .i64 nk,.string (bs nt),.slice xa xn xc]:=uE (a:=[_,_,_,_]) (m:=[_,_,_]) (c:=[_]) k8x;refine af ?_;refine me 13 (fun b=>b=rb\/h10.size<=b) (fun i=>Nat.blt i 11) ?_;refine aI 0 ?_;refine aI 1 ?_;refine aI 2 ?_;refine bI 3 rfl (fun h' e=>aA rfl (e.cell hM8 (k8x.cell (i:=2) rfl))) ?_;refine bI 4 rfl (fun h' e=>bY rfl (e.rowAt hM6 k10x.row)) ?_;refine aI 6 ?_;refine bI 7 rfl (fun h' e=>bY rfl (e.rowAt hM8 r4x)) ?_;refine dH 5 rfl (aE rfl (jD hen10 (by rw[List.length_append,List.length_singleton];omega) v.fE (cW.of (eV.mv hRx9 (Mv.ah e10))))) ?_;rintro r11 h11 ⟨ho11,e11⟩;refine⟨fun _=>e11.of,?_⟩;have zv:=And.intro (e10).size (e11).size;have E9x:aj h9 h11:=(e10).trans e11;have E0x:=E09.trans (E9x.mono fun _ _ q=>q.elim);have Ix:qE hb rb B O6 h11 m2' r11 (_++[(v.fE,v2)]):=⟨(I8.ext.trans e9).trans E9x,(b8.ah e9).ah E9x,fun b q=>by have:=l6 b q;omega,m56.1 _ hr3,(ho11).read (fun b hb q=>by have:=l6 b q;omega) (fun _ _ q=>q),hce,by have:=I.mB;omega,by have:=I.mL;omega,I.hB,I.hrb⟩
           refine dH 8 rfl (aE rfl ((ih Ix (by omega) (eF.of (eN.mv hbd9 (Mv.ah E9x))) (.inl hq) f2))) ?_;rintro _ h12 ⟨v12,rfl,hv12,b12,e12'⟩;refine⟨fun _=>e12'.mono (fun b _ q=>.inl q),?_⟩;obtain⟨nk',nt',xa',xn',xc',ea',en',ec',rfl,_,hR12,_⟩:=cW.get hv12;refine aI 9 ?_;refine aI 10 ?_;refine kX 11 rfl (aY rfl rfl (((k69.ah E9x).ext e12' (by omega))) gI) ?_;rintro _ h13 ⟨rfl,k13,x13,z13⟩;refine⟨nofun,?_⟩;refine aI 12 ?_;refine iT ?_;refine ct (cj rfl k13.row (eo cq)) ?_;exact⟨_,rfl,_,rfl,cW.of (eV.mv hR12 (cR m6.1 o66 x13)),b12.ext x13 (by omega),(E0x.trans e12').bH x13 (fun b hb q=>by omega)⟩
         · have hs:¬v.self≠[]:=fun q=>hs (fun e=>q (bl (m:=[]) e))
           rw[if_neg hs] at hce ⊢;have hM8:¬(h3.size=rb\/h9.size<=h3.size):=by omega
           have hM6:¬(h6.size=rb\/h9.size<=h6.size):=by omega
           have k10x:=k10'.ah e9;have r4x:Lw.rowAt h9 h3.size 4 [.int .i64 nk,.string (bs nt),.slice xa xn xc]:=uE (a:=[_,_,_,_]) (m:=[_,_,_]) (c:=[_]) k89;refine af ?_;refine me 13 (fun b=>b=rb\/h9.size<=b) (fun i=>Nat.blt i 11) ?_;refine aI 0 ?_;refine aI 1 ?_;refine aI 2 ?_;refine bI 3 rfl (fun h' e=>aA rfl (e.cell hM8 (k89.cell (i:=2) rfl))) ?_;refine bI 4 rfl (fun h' e=>bY rfl (e.rowAt hM6 k10x.row)) ?_;refine aI 6 ?_;refine bI 7 rfl (fun h' e=>bY rfl (e.rowAt hM8 r4x)) ?_;refine dH 5 rfl (aE rfl (jD hen9 (by omega) v.fE (cW.of hRx9))) ?_;rintro r11 h11 ⟨ho11,e11⟩;refine⟨fun _=>e11.of,?_⟩;have zv:=And.intro (Ext.refl (fun _=>False) h9).size (e11).size;have E9x:aj h9 h11:=(Ext.refl (fun _=>False) h9).trans e11;have E0x:=E09.trans (E9x.mono fun _ _ q=>q.elim);have Ix:qE hb rb B O6 h11 m2' r11 (_++[(v.fE,v2)]):=⟨(I8.ext.trans e9).trans E9x,(b8.ah e9).ah E9x,fun b q=>by have:=l6 b q;omega,m56.1 _ hr3,(ho11).read (fun b hb q=>by have:=l6 b q;omega) (fun _ _ q=>q),hce,by have:=I.mB;omega,by have:=I.mL;omega,I.hB,I.hrb⟩
           refine dH 8 rfl (aE rfl ((ih Ix (by omega) (eF.of (eN.mv hbd9 (Mv.ah E9x))) (.inl hq) f2))) ?_;rintro _ h12 ⟨v12,rfl,hv12,b12,e12'⟩;refine⟨fun _=>e12'.mono (fun b _ q=>.inl q),?_⟩;obtain⟨nk',nt',xa',xn',xc',ea',en',ec',rfl,_,hR12,_⟩:=cW.get hv12;refine aI 9 ?_;refine aI 10 ?_;refine kX 11 rfl (aY rfl rfl (((k69.ah E9x).ext e12' (by omega))) gI) ?_;rintro _ h13 ⟨rfl,k13,x13,z13⟩;refine⟨nofun,?_⟩;refine aI 12 ?_;refine iT ?_;refine ct (cj rfl k13.row (eo cq)) ?_;exact⟨_,rfl,_,rfl,cW.of (eV.mv hR12 (cR m6.1 o66 x13)),b12.ext x13 (by omega),(E0x.trans e12').bH x13 (fun b hb q=>by omega)⟩
end Go.Proofs.YtoickfdopobmgaaGreatDoor
namespace Go.Proofs
open Go.Shelf
def Tryz.CK:Go.Shelf.Ren:=⟨fun| 106=>134| 213=>169| 265=>185|n=>n,fun| 9=>9| 3=>3|n=>n,fun|n=>n⟩
theorem Tryz.KZ:Go.Proofs.Lays.n106 Tryz.prog Tryz.CK:= {
  mixed:=by kernel_rfl
  f106:=Tryz.func134.trans (congrArg some (by kernel_rfl))
  f213:=Tryz.func169.trans (congrArg some (by kernel_rfl))
  f265:=Tryz.func185.trans (congrArg some (by kernel_rfl))
  t3:=underlying3
  a3:=Tryz.isAgg3
  z3:=Tryz.sizeOf3
  v3:=Tryz.zeroValue3
  t9:=underlying9
  a9:=Tryz.isAgg9
  z9:=Tryz.sizeOf9
  v9:=Tryz.zeroValue9 }
def Tryz.CJ:Go.Shelf.Ren:=⟨fun| 121=>33| 214=>62|n=>n,fun| 4=>4| 9=>9|n=>n,fun|n=>n⟩
theorem Tryz.KY:Go.Proofs.Lays.n121 Tryz.prog Tryz.CJ:= {
  mixed:=by kernel_rfl
  f121:=Tryz.func33.trans (congrArg some (by kernel_rfl))
  f214:=Tryz.func62.trans (congrArg some (by kernel_rfl))
  t4:=underlying4
  a4:=Tryz.isAgg4
  z4:=Tryz.sizeOf4
  v4:=Tryz.zeroValue4
  t9:=underlying9
  a9:=Tryz.isAgg9
  z9:=Tryz.sizeOf9
  v9:=Tryz.zeroValue9 }
def Tryz.AP:Go.Shelf.Ren:=⟨fun| 173=>32| 246=>61| 283=>107| 284=>108| 285=>109| 286=>110| 129=>98| 317=>147| 318=>148| 319=>149| 320=>150| 337=>172| 338=>173|n=>n,fun| 2=>2| 3=>3| 9=>9| 4=>4| 171=>198| 0=>0| 53=>122| 37=>53| 5=>5| 173=>200| 212=>236| 51=>183| 20=>20| 213=>237| 46=>117| 232=>269| 233=>270|n=>n,fun| 17=>2| 18=>11| 19=>12|n=>n⟩
theorem Tryz.Je:Go.Proofs.LaysM.n173 Tryz.prog Tryz.AP:= {
  mixed:=by kernel_rfl
  f129:=Tryz.func98.trans (congrArg some (by kernel_rfl))
  f173:=Tryz.func32.trans (congrArg some (by kernel_rfl))
  f246:=Tryz.func61.trans (congrArg some (by kernel_rfl))
  f283:=Tryz.func107.trans (congrArg some (by kernel_rfl))
  f284:=Tryz.func108.trans (congrArg some (by kernel_rfl))
  f285:=Tryz.func109.trans (congrArg some (by kernel_rfl))
  f286:=Tryz.func110.trans (congrArg some (by kernel_rfl))
  f317:=Tryz.func147.trans (congrArg some (by kernel_rfl))
  f318:=Tryz.func148.trans (congrArg some (by kernel_rfl))
  f319:=Tryz.func149.trans (congrArg some (by kernel_rfl))
  f320:=Tryz.func150.trans (congrArg some (by kernel_rfl))
  f337:=Tryz.func172.trans (congrArg some (by kernel_rfl))
  f338:=Tryz.func173.trans (congrArg some (by kernel_rfl))
  t0:=underlying0
  a0:=Tryz.isAgg0
  z0:=Tryz.sizeOf0
  v0:=Tryz.zeroValue0
  t2:=underlying2
  a2:=Tryz.isAgg2
  z2:=Tryz.sizeOf2
  v2:=Tryz.zeroValue2
  t3:=underlying3
  a3:=Tryz.isAgg3
  z3:=Tryz.sizeOf3
  v3:=Tryz.zeroValue3
  t4:=underlying4
  a4:=Tryz.isAgg4
  z4:=Tryz.sizeOf4
  v4:=Tryz.zeroValue4
  t5:=underlying5
  a5:=Tryz.isAgg5
  z5:=Tryz.sizeOf5
  v5:=Tryz.zeroValue5
  t9:=underlying9
  a9:=Tryz.isAgg9
  z9:=Tryz.sizeOf9
  v9:=Tryz.zeroValue9
  t20:=underlying20
  a20:=Tryz.isAgg20
  z20:=Tryz.sizeOf20
  v20:=Tryz.zeroValue20
  t37:=underlying53
  a37:=Tryz.isAgg53
  z37:=Tryz.sizeOf53
  v37:=Tryz.zeroValue53
  t46:=underlying117
  a46:=Tryz.isAgg117
  z46:=Tryz.sizeOf117
  v46:=Tryz.zeroValue117
  t51:=underlying183
  a51:=Tryz.isAgg183
  z51:=Tryz.sizeOf183
  v51:=Tryz.zeroValue183
  t53:=underlying122
  a53:=Tryz.isAgg122
  z53:=Tryz.sizeOf122
  v53:=Tryz.zeroValue122
  t171:=underlying198
  a171:=Tryz.isAgg198
  z171:=Tryz.sizeOf198
  v171:=Tryz.zeroValue198
  t173:=underlying200
  a173:=Tryz.isAgg200
  z173:=Tryz.sizeOf200
  v173:=Tryz.zeroValue200
  t212:=underlying236
  a212:=Tryz.isAgg236
  z212:=Tryz.sizeOf236
  v212:=Tryz.zeroValue236
  t213:=underlying237
  a213:=Tryz.isAgg237
  z213:=Tryz.sizeOf237
  t232:=underlying269
  a232:=Tryz.isAgg269
  z232:=Tryz.sizeOf269
  v232:=Tryz.zeroValue269
  t233:=underlying270
  a233:=Tryz.isAgg270
  z233:=Tryz.sizeOf270
  v233:=Tryz.zeroValue270
  g17:=by kernel_rfl
  g18:=by kernel_rfl
  g19:=by kernel_rfl
  i0:=by kernel_rfl
  i2:=by kernel_rfl
  i3:=by kernel_rfl
  i4:=by kernel_rfl
  i5:=by kernel_rfl
  i9:=by kernel_rfl
  i20:=by kernel_rfl
  i37:=by kernel_rfl
  i46:=by kernel_rfl
  i51:=by kernel_rfl
  i53:=by kernel_rfl
  i171:=by kernel_rfl
  i173:=by kernel_rfl
  i212:=by kernel_rfl
  i232:=by kernel_rfl
  i233:=by kernel_rfl
  m17:=by kernel_rfl
  m18:=by kernel_rfl
  m19:=by kernel_rfl }
def Tryz.AS:Go.Shelf.Ren:=⟨fun| 174=>77| 247=>127| 245=>128| 287=>162| 279=>163| 280=>164| 281=>165| 282=>166| 321=>180| 322=>181| 316=>182| 171=>40| 205=>183| 243=>75| 246=>61| 283=>107| 284=>108| 285=>109| 286=>110| 129=>98| 317=>147| 318=>148| 319=>149| 320=>150| 337=>172| 338=>173|n=>n,fun| 9=>9| 3=>3| 2=>2| 75=>112| 85=>167| 4=>4| 167=>246| 5=>5| 53=>122| 175=>247| 46=>117| 168=>249| 37=>53| 0=>0| 210=>264| 21=>21| 127=>173| 145=>275| 143=>273| 171=>198| 173=>200| 212=>236| 51=>183| 20=>20| 213=>237| 232=>269| 233=>270| 80=>31|n=>n,fun| 15=>8| 16=>9| 17=>2| 18=>11| 19=>12|n=>n⟩
theorem Tryz.vX:Go.Proofs.LaysC.n174 Tryz.prog Tryz.AS:= {
  mixed:=by kernel_rfl
  f129:=Tryz.func98.trans (congrArg some (by kernel_rfl))
  f171:=Tryz.func40.trans (congrArg some (by kernel_rfl))
  f174:=Tryz.func77.trans (congrArg some (by kernel_rfl))
  f205:=Tryz.func183.trans (congrArg some (by kernel_rfl))
  f243:=Tryz.func75.trans (congrArg some (by kernel_rfl))
  f245:=Tryz.func128.trans (congrArg some (by kernel_rfl))
  f246:=Tryz.func61.trans (congrArg some (by kernel_rfl))
  f247:=Tryz.func127.trans (congrArg some (by kernel_rfl))
  f279:=Tryz.func163.trans (congrArg some (by kernel_rfl))
  f280:=Tryz.func164.trans (congrArg some (by kernel_rfl))
  f281:=Tryz.func165.trans (congrArg some (by kernel_rfl))
  f282:=Tryz.func166.trans (congrArg some (by kernel_rfl))
  f283:=Tryz.func107.trans (congrArg some (by kernel_rfl))
  f284:=Tryz.func108.trans (congrArg some (by kernel_rfl))
  f285:=Tryz.func109.trans (congrArg some (by kernel_rfl))
  f286:=Tryz.func110.trans (congrArg some (by kernel_rfl))
  f287:=Tryz.func162.trans (congrArg some (by kernel_rfl))
  f316:=Tryz.func182.trans (congrArg some (by kernel_rfl))
  f317:=Tryz.func147.trans (congrArg some (by kernel_rfl))
  f318:=Tryz.func148.trans (congrArg some (by kernel_rfl))
  f319:=Tryz.func149.trans (congrArg some (by kernel_rfl))
  f320:=Tryz.func150.trans (congrArg some (by kernel_rfl))
  f321:=Tryz.func180.trans (congrArg some (by kernel_rfl))
  f322:=Tryz.func181.trans (congrArg some (by kernel_rfl))
  f337:=Tryz.func172.trans (congrArg some (by kernel_rfl))
  f338:=Tryz.func173.trans (congrArg some (by kernel_rfl))
  t0:=underlying0
  a0:=Tryz.isAgg0
  z0:=Tryz.sizeOf0
  v0:=Tryz.zeroValue0
  t2:=underlying2
  a2:=Tryz.isAgg2
  z2:=Tryz.sizeOf2
  v2:=Tryz.zeroValue2
  t3:=underlying3
  a3:=Tryz.isAgg3
  z3:=Tryz.sizeOf3
  v3:=Tryz.zeroValue3
  t4:=underlying4
  a4:=Tryz.isAgg4
  z4:=Tryz.sizeOf4
  v4:=Tryz.zeroValue4
  t5:=underlying5
  a5:=Tryz.isAgg5
  z5:=Tryz.sizeOf5
  v5:=Tryz.zeroValue5
  t9:=underlying9
  a9:=Tryz.isAgg9
  z9:=Tryz.sizeOf9
  v9:=Tryz.zeroValue9
  t20:=underlying20
  a20:=Tryz.isAgg20
  z20:=Tryz.sizeOf20
  v20:=Tryz.zeroValue20
  t21:=underlying21
  a21:=Tryz.isAgg21
  z21:=Tryz.sizeOf21
  v21:=Tryz.zeroValue21
  t37:=underlying53
  a37:=Tryz.isAgg53
  z37:=Tryz.sizeOf53
  v37:=Tryz.zeroValue53
  t46:=underlying117
  a46:=Tryz.isAgg117
  z46:=Tryz.sizeOf117
  v46:=Tryz.zeroValue117
  t51:=underlying183
  a51:=Tryz.isAgg183
  z51:=Tryz.sizeOf183
  v51:=Tryz.zeroValue183
  t53:=underlying122
  a53:=Tryz.isAgg122
  z53:=Tryz.sizeOf122
  v53:=Tryz.zeroValue122
  t75:=underlying112
  a75:=Tryz.isAgg112
  z75:=Tryz.sizeOf112
  v75:=Tryz.zeroValue112
  t85:=underlying167
  a85:=Tryz.isAgg167
  z85:=Tryz.sizeOf167
  v85:=Tryz.zeroValue167
  t127:=underlying173
  a127:=Tryz.isAgg173
  z127:=Tryz.sizeOf173
  v127:=Tryz.zeroValue173
  t143:=underlying273
  a143:=Tryz.isAgg273
  z143:=Tryz.sizeOf273
  v143:=Tryz.zeroValue273
  t145:=underlying275
  a145:=Tryz.isAgg275
  z145:=Tryz.sizeOf275
  v145:=Tryz.zeroValue275
  t167:=underlying246
  a167:=Tryz.isAgg246
  z167:=Tryz.sizeOf246
  v167:=Tryz.zeroValue246
  t168:=underlying249
  a168:=Tryz.isAgg249
  z168:=Tryz.sizeOf249
  v168:=Tryz.zeroValue249
  t171:=underlying198
  a171:=Tryz.isAgg198
  z171:=Tryz.sizeOf198
  v171:=Tryz.zeroValue198
  t173:=underlying200
  a173:=Tryz.isAgg200
  z173:=Tryz.sizeOf200
  v173:=Tryz.zeroValue200
  t175:=underlying247
  a175:=Tryz.isAgg247
  z175:=Tryz.sizeOf247
  v175:=Tryz.zeroValue247
  t210:=underlying264
  a210:=Tryz.isAgg264
  z210:=Tryz.sizeOf264
  v210:=Tryz.zeroValue264
  t212:=underlying236
  a212:=Tryz.isAgg236
  z212:=Tryz.sizeOf236
  v212:=Tryz.zeroValue236
  t213:=underlying237
  a213:=Tryz.isAgg237
  z213:=Tryz.sizeOf237
  t232:=underlying269
  a232:=Tryz.isAgg269
  z232:=Tryz.sizeOf269
  v232:=Tryz.zeroValue269
  t233:=underlying270
  a233:=Tryz.isAgg270
  z233:=Tryz.sizeOf270
  v233:=Tryz.zeroValue270
  g15:=by kernel_rfl
  g16:=by kernel_rfl
  g17:=by kernel_rfl
  g18:=by kernel_rfl
  g19:=by kernel_rfl
  t80:=underlying31
  a80:=Tryz.isAgg31
  z80:=Tryz.sizeOf31
  v80:=Tryz.zeroValue31
  i0:=by kernel_rfl
  i2:=by kernel_rfl
  i3:=by kernel_rfl
  i4:=by kernel_rfl
  i5:=by kernel_rfl
  i9:=by kernel_rfl
  i20:=by kernel_rfl
  i21:=by kernel_rfl
  i37:=by kernel_rfl
  i46:=by kernel_rfl
  i51:=by kernel_rfl
  i53:=by kernel_rfl
  i75:=by kernel_rfl
  i80:=by kernel_rfl
  i85:=by kernel_rfl
  i127:=by kernel_rfl
  i143:=by kernel_rfl
  i145:=by kernel_rfl
  i167:=by kernel_rfl
  i168:=by kernel_rfl
  i171:=by kernel_rfl
  i173:=by kernel_rfl
  i175:=by kernel_rfl
  i210:=by kernel_rfl
  i212:=by kernel_rfl
  i232:=by kernel_rfl
  i233:=by kernel_rfl
  m15:=by kernel_rfl
  m16:=by kernel_rfl
  m17:=by kernel_rfl
  m18:=by kernel_rfl
  m19:=by kernel_rfl
  c0:=by kernel_rfl
  c2:=by kernel_rfl
  c3:=by kernel_rfl
  c4:=by kernel_rfl
  c5:=by kernel_rfl
  c9:=by kernel_rfl
  c20:=by kernel_rfl
  c21:=by kernel_rfl
  c37:=by kernel_rfl
  c46:=by kernel_rfl
  c51:=by kernel_rfl
  c53:=by kernel_rfl
  c75:=by kernel_rfl
  c80:=by kernel_rfl
  c85:=by kernel_rfl
  c127:=by kernel_rfl
  c143:=by kernel_rfl
  c145:=by kernel_rfl
  c167:=by kernel_rfl
  c168:=by kernel_rfl
  c171:=by kernel_rfl
  c173:=by kernel_rfl
  c175:=by kernel_rfl
  c210:=by kernel_rfl
  c212:=by kernel_rfl
  c213:=by kernel_rfl
  c232:=by kernel_rfl
  c233:=by kernel_rfl }
open Go.RowKit in
theorem Tryz.strings_Compare (a b:ByteArray) (w:World) :
    Calls Tryz.prog 134 #[.string a,.string b] w fun e w'=>e= .returned (.int .i64 (Lib.compareBytes a.data.toList b.data.toList))/\w'=w:=Any.strings_Compare Tryz.KZ a b w
open Go.RowKit in
theorem Tryz.strconv_FormatBool (b:Bool) (w:World) :
    Calls Tryz.prog 33 #[.bool b] w fun e w'=>e= .returned (.string ⟨(Lib.formatBool b).toArray⟩)/\w'=w:=Any.strconv_FormatBool Tryz.KY b w
open Go.RowKit Go.Sort Go.Lib in
theorem Tryz.strconv_FormatInt_10 (n:Int) (h0 : -9223372036854775808<=n) (h1:n<=9223372036854775807) (w:World) (htab:Lib.TabIs Tryz.prog w "internal/strconv.uint64pow10" .u64 Lib.pow10Tab) :
    Calls Tryz.prog 32 #[.int .i64 n,.int .i64 10] w fun e w'=>e= .returned (.string ⟨(Lib.itoa n).toArray⟩)/\∃k os,w'=grow (w.drewN k) os:=Any.strconv_FormatInt_10 Tryz.Je n h0 h1 w htab
open Go.RowKit in
theorem Tryz.strconv_ParseInt_10_at64_ok (s:ByteArray) (hmax:s.size<=9223372036854775806) (v:Int) (h:Lib.parseIntB 64 s.data.toList= .ok v) (w:World) :
    Calls Tryz.prog 77 #[.string s,.int .i64 10,.int .i64 64] w fun e w'=>e= .returned (.tuple #[.int .i64 v,.nilIface])/\(w'=w\/∃t,w'=Lib.bytesWorld w 5 t):=Any.strconv_ParseInt_10_at64_ok Tryz.vX s hmax v h w
open Go.RowKit in
theorem Tryz.strconv_ParseInt_10_at64_syntax_var (s:ByteArray) (hlim:s.size<=281474976710656) (h:Lib.parseIntB 64 s.data.toList= .syntax) (tp:TypeId) (p:Value) (w:World) (hvar:w.var? Tryz.prog "strconv.ErrSyntax" =some #[.iface tp p]) :
    Calls Tryz.prog 77 #[.string s,.int .i64 10,.int .i64 64] w fun e w'=>∃N,e= .returned (.tuple #[.int .i64 (0),.iface 249 (.pointer (some ⟨N,0,none⟩))])/\w.heap.size<=N/\w'.heap[N]? =some (.cells #[.string ⟨#[80,97,114,115,101,73,110,116]⟩,.string s,.iface tp p] 264 (0,0))/\Below w.heap.size w w':=Any.strconv_ParseInt_10_at64_syntax_var Tryz.vX s hlim h tp p w hvar
open Go.RowKit in
theorem Tryz.strconv_ParseInt_10_at64_range_var (s:ByteArray) (hlim:s.size<=281474976710656) (h:Lib.parseIntB 64 s.data.toList= .range) (tp:TypeId) (p:Value) (w:World) (hvar:w.var? Tryz.prog "strconv.ErrRange" =some #[.iface tp p]) :
    Calls Tryz.prog 77 #[.string s,.int .i64 10,.int .i64 64] w fun e w'=>∃N,e= .returned (.tuple #[.int .i64 (Lib.intSat 64 s.data.toList),.iface 249 (.pointer (some ⟨N,0,none⟩))])/\w.heap.size<=N/\w'.heap[N]? =some (.cells #[.string ⟨#[80,97,114,115,101,73,110,116]⟩,.string s,.iface tp p] 264 (0,0))/\Below w.heap.size w w':=Any.strconv_ParseInt_10_at64_range_var Tryz.vX s hlim h tp p w hvar
end Go.Proofs
namespace Go.Proofs.YtoickfdopobmgaaGreatDoor
open Go.Proofs.Tryz
open Go Go.Lw
set_option maxRecDepth 20000 set_option maxHeartbeats 4000000
section
variable {h hb:ai}{rb B d m:Nat}{O:Nat->Prop}{ev nv:Value}{env:List Bd}{t:By}{l:List Tr}{α:Type}
theorem Al (a b:By):aq Tryz.prog 134 #[.string (bs a),.string (bs b)] h (bw fun r h'=>r= .int .i64 (Lib.compareBytes a b)/\h'=h) :=
 aq.qQ fun w=>Tryz.strings_Compare (bs a) (bs b) w
theorem Bj (ih:NF hb rb B d) (I:qE hb rb B O h m ev env) (hm:m<=d) (hn:eF h O nv (.mk 5 t l)) (hc:Cl bz (.mk 5 t l)) (hw:(Tr.mk 5 t l).wt<=1000000) :
 aq Tryz.prog 85 #[.pointer (some ⟨rb,0,none⟩),ev,nv] h (bw fun r h'=>Mm rb O h (Gc (aU d) m env t l) r h'):=by
 obtain⟨na,nn,nc,rfl,hR,hks⟩:=nQ hn;have hkn:=hks.len;subst hkn;obtain⟨hl1,hl2⟩:=xd hc (by decide);have hl1:2<=l.length:=hl1;obtain⟨b0,o0,k0,t0,a0,n0,c0,ha0,hb0,hr0,hk0⟩:=iW hks (i:=0) (by omega);have hrl:=I.Dt;refine bL ?_;refine af ?_;refine xo rfl (jj) ?_;rintro _ h1 ⟨rfl,k5,e1,z1⟩;refine xo rfl (cO) ?_;rintro _ h2 ⟨rfl,k6,e2,z2⟩;have e12:=e1.trans e2;have k5:aD h2 h.size 39 [.int .i64 5,.string (bs t),.slice na l.length nc]:=k5.ah e2;have m2:=cL O h h2;have I2:=I.yZ m2 e12 (jm I.lt e12.size);have o1:=iI B d m env (l.getD 0 bJ) I.mB I.ok (cS hw 0);have hih:=ih I2 hm (hk0.mv (m2.tA e12)) (hc.rR 0) (cS hw 0);unfold Gc;generalize aU d m env (l.getD 0 bJ)=o at hih o1 ⊢;obtain⟨v,e,m'⟩:=o;obtain⟨hm',hvk,hlt⟩:=o1;dsimp only at hm' hvk hlt ⊢;refine af ?_;refine xp rfl (aA rfl (k5.cell (i:=2) rfl)) ?_;refine xp rfl (cz rfl rfl 0 rfl ha0) ?_;refine xp rfl (bY rfl (e12.rowAt (fun k=>k) hr0)) ?_;refine xo rfl (aE rfl hih) ?_;rintro _ h3 ⟨v3,rfl,hv3,b3,e3⟩;dsimp only at hv3 b3;obtain⟨nk,nt,xa,xn,xc,ea,en,ec,rfl,hbd3,hR3,hen3⟩:=cW.get hv3;refine af ?_;refine xo rfl (cO) ?_;rintro _ h4 ⟨rfl,k8,e4,z4⟩;refine aM rfl (aY rfl rfl k8 gI) ?_;rintro _ h5 ⟨rfl,k85,x5,z5⟩;have k85:aD h5 h3.size 42 (lG v.kind v.num v.fE v.self nk nt xa xn xc ea en ec):=k85;have e35:aj h3 h5:=aj.only e4 x5 (Nat.le_refl _);have E25:Ext (fun b=>b=rb) h2 h5:=e3.trans (e35.mono fun _ _ q=>q.elim);have E05:Ext (fun b=>b=rb) h h5:=(e12.mono fun _ _ q=>q.elim).trans E25;have zz:=And.intro e3.size (And.intro e35.size e12.size);have m23:=cL (upTo O h h2) h3 h5;obtain⟨O3,hO3⟩:∃O3,O3=upTo (upTo O h h2) h3 h5:=⟨_,rfl⟩
 have l3:∀b,O3 b->b<h5.size:=fun b q=>by
  rw[hO3] at q
  rcases q with (q|q)|q
  · have:=I.lt b q;omega
  · omega
  · omega
 have m3:kD h O O3:=by
  rw[hO3]
  exact⟨fun b q=>.inl (.inl q),fun b q=>by
   rcases q with (q|q)|q
   · exact .inl q
   · exact .inr q.1
   · exact .inr (by omega)⟩
 have b5:=b3.ah e35;have hR5:=eV.mv hR3 (m23.tA e35);rw[<-hO3] at hR5;have hbd5:=eN.mv hbd3 (m23.tA e35);rw[<-hO3] at hbd5;have hen5:=hen3.mv (m23.tA e35);rw[<-hO3] at hen5;have o6:O3 h1.size:=by rw[hO3];exact .inl (.inr (by omega))
 have k55:=k5.ext E25 (by omega);have k65:=k6.ext E25 (by omega);have I5:qE hb rb B O3 h5 m' ev env:=I.next m3 hm' E05 b5 l3
 refine af ?_;refine aR (fun he=>?_) (fun he=>?_)
 · rw[if_pos he];refine af ?_;refine xp rfl (av (H.dO ) rfl) ?_;refine af ?_;refine aM rfl (aY rfl rfl k65) ?_;rintro _ h6 ⟨rfl,k66,x6,z6⟩;refine af ?_;refine ct (cj rfl k66.row (eo cq)) ?_;exact⟨_,rfl,_,rfl,gN _ _,b5.ext x6 (by omega),E05.bH x6 (fun b hb q=>by omega)⟩
 · rw[if_neg he]
   iterate 3 refine aX ?_
   refine fL [(34,.bool (decide (t=s7\/t=lK)))] rfl ?_ ?_
   · refine af ?_;refine xp rfl (aA rfl (k55.cell (i:=1) rfl)) ?_;refine af ?_;refine dG 30 (fun p=>?_) (fun p=>?_)
     · have p:t=s7:=bl (of_decide_eq_true p);refine af ?_;exact aF rfl ⟨au rfl (by rw[decide_eq_true (.inl p)]),sb rfl⟩
     · have p:¬t=s7:=fun q=>of_decide_eq_false p (by rw[q];rfl)
       refine af ?_;refine xp rfl (aA rfl (k55.cell (i:=1) rfl)) ?_;refine af ?_;exact aF rfl ⟨au rfl (by rw[decide_eq_decide];exact⟨fun q=>.inr (bl q),fun q=>by rw[q.resolve_left p];rfl⟩),sb rfl⟩
   · refine iM (fun hoa=>?_) (fun hoa=>?_)
     · have hoa:=of_decide_eq_true hoa;rw[if_pos hoa];refine af ?_;refine xp rfl (aA rfl (k85.cell (i:=0) rfl)) ?_;refine af ?_;refine aR (fun hk=>?_) (fun hk=>?_)
       · rw[if_pos hk];refine af ?_;refine xp rfl (av (H.dO ) rfl) ?_;refine aM rfl (aY rfl rfl k65) ?_;rintro _ h6 ⟨rfl,k66,x6,z6⟩;refine af ?_;refine ct (cj rfl k66.row (eo cq)) ?_;exact⟨_,rfl,_,rfl,gN _ _,b5.ext x6 (by omega),E05.bH x6 (fun b hb q=>by omega)⟩
       · rw[if_neg hk];have hor:decide (bs t=⟨#[111,114]⟩)=decide (t=s7):=by rw[decide_eq_decide];exact⟨fun q=>bl q,fun q=>by rw[q];rfl⟩
         refine af ?_;refine xp rfl (aA rfl (k85.cell (i:=1) rfl)) ?_;refine af ?_;refine xp rfl (aA rfl (k55.cell (i:=1) rfl)) ?_;refine af ?_;refine iM (fun hq=>?_) (fun hq=>?_)
         · have hq:decide (v.num≠0)=decide (t=s7):=by rw[<-hor];simpa using hq
           rw[if_pos hq];refine af ?_;refine xp rfl (bY rfl k85.row) ?_;refine aM rfl (aY rfl rfl k65 gI) ?_;rintro _ h6 ⟨rfl,k66,x6,z6⟩;refine af ?_;refine ct (cj rfl k66.row (eo cq)) ?_;exact⟨_,rfl,_,rfl,cW.of (eV.mv hR5 (cR m3.1 o6 x6)),b5.ext x6 (by omega),E05.bH x6 (fun b hb q=>by omega)⟩
         · have hq:¬decide (v.num≠0)=decide (t=s7):=by rw[<-hor];simpa using hq
           rw[if_neg hq];obtain⟨b1,o1',k1,t1,a1,n1,c1,ha1,hb1,hr1,hk1⟩:=iW hks (i:=1) (by omega);have hb1r:b1≠rb:=fun q=>hb1.1 (q▸I.own)
           have hr1':=E05.rowAt hb1r hr1;have hk1':=hk1.mv (m3.mv I.own E05);have o2:=iI B d m' env (l.getD 1 bJ) I5.mB I5.ok (cS hw 1);have hih2:=ih I5 (by omega) hk1' (hc.rR 1) (cS hw 1);generalize aU d m' env (l.getD 1 bJ)=p at hih2 o2 ⊢;obtain⟨v2,e2',m2'⟩:=p;obtain⟨hm2,hvk2,hlt2⟩:=o2;dsimp only at hm2 hvk2 hlt2 ⊢;refine af ?_;refine xp rfl (aA rfl (k55.cell (i:=2) rfl)) ?_;refine xp rfl (cz rfl rfl 1 rfl ha1) ?_;refine xp rfl (bY rfl hr1') ?_;refine xo rfl (aE rfl hih2) ?_;rintro _ h6 ⟨v6,rfl,hv6,b6,e6⟩;dsimp only at hv6 b6;obtain⟨nk2,nt2,ya,yn,yc,fa,fm,fc,rfl,_,hR6,_⟩:=cW.get hv6;refine af ?_;refine xo rfl (cO) ?_;rintro _ h7 ⟨rfl,k10,e7,z7⟩;refine aM rfl (aY rfl rfl k10 gI) ?_;rintro _ h8 ⟨rfl,k10',x8,z8⟩;have k10':aD h8 h6.size 42 (lG v2.kind v2.num v2.fE v2.self nk2 nt2 ya yn yc fa fm fc):=k10';have e68:aj h6 h8:=aj.only e7 x8 (Nat.le_refl _);have E58:Ext (fun b=>b=rb) h5 h8:=e6.trans (e68.mono fun _ _ q=>q.elim);have E08:=E05.trans E58;have zw:=And.intro e6.size e68.size;obtain⟨O6,hO6⟩:∃O6,O6=upTo O3 h6 h8:=⟨_,rfl⟩
           have l6:∀b,O6 b->b<h8.size:=fun b q=>by
            rw[hO6] at q
            rcases q with q|q
            · have:=l3 b q;omega
            · omega
           have m56:kD h5 O3 O6:=by rw[hO6];exact⟨fun b q=>.inl q,fun b q=>q.imp id (fun q=>by omega)⟩
           have m6:kD h O O6:=⟨fun b q=>m56.1 b (m3.1 b q),fun b q=>(m56.2 b q).elim (m3.2 b) (fun q=>.inr (by omega))⟩
           have b8:=b6.ah e68;have hR8:=eV.mv hR6 ((cL O3 h6 h8).tA e68);rw[<-hO6] at hR8;have hr3:=m3.1 _ I.own;have hR58:=eV.mv hR5 (m56.mv hr3 E58);have o66:=m56.1 _ o6;have k58:=k55.ext E58 (by omega);have k68:=k65.ext E58 (by omega);have k88:=k85.ext E58 (by have:=I2.Dt;omega);have I8:qE hb rb B O6 h8 m2' ev env:=I5.next m56 hm2 E58 b8 l6
           refine aW ?_;refine cX ?_
           iterate 2 refine aX ?_
           refine fL [(63,.bool (decide (e2'=0/\v2.kind≠2)))] rfl ?_ ?_
           · refine af ?_;refine dG 59 (fun p=>?_) (fun p=>?_)
             · have p:=of_decide_eq_true p;refine af ?_;refine xp rfl (aA rfl (k10'.cell (i:=0) rfl)) ?_;refine af ?_;exact aF rfl ⟨au rfl (by rw[decide_eq_decide];exact⟨fun q=>⟨p,q⟩,fun q=>q.2⟩),sb rfl⟩
             · have p:=of_decide_eq_false p;refine af ?_;exact aF rfl ⟨au rfl (by rw[decide_eq_false (fun q=>p q.1)]),sb rfl⟩
           · refine iM (fun hp=>?_) (fun hp=>?_)
             · have hp:=of_decide_eq_true hp;rw[if_pos hp];refine af ?_;refine xp rfl (av (H.dO ) rfl) ?_;refine aM rfl (aY rfl rfl k68) ?_;rintro _ h9 ⟨rfl,k66,x9,z9⟩;refine af ?_;refine ct (cj rfl k66.row (eo cq)) ?_;exact⟨_,rfl,_,rfl,gN _ _,b8.ext x9 (by omega),E08.bH x9 (fun b hb q=>by omega)⟩
             · have hp:=of_decide_eq_false hp;rw[if_neg hp];refine af ?_;refine xp rfl (bY rfl k10'.row) ?_;refine af ?_;refine aM rfl (aY rfl rfl k68 gI) ?_;rintro _ h9 ⟨rfl,k66,x9,z9⟩;refine af ?_;refine ct (cj rfl k66.row (eo cq)) ?_;exact⟨_,rfl,_,rfl,cW.of (eV.mv hR8 (cR m6.1 o66 x9)),(b8).ext x9 (by omega),(E08).bH x9 (fun b hb q=>by omega)⟩
     · have hoa:=of_decide_eq_false hoa;rw[if_neg hoa];obtain⟨b1,o1',k1,t1,a1,n1,c1,ha1,hb1,hr1,hk1⟩:=iW hks (i:=1) (by omega);have hb1r:b1≠rb:=fun q=>hb1.1 (q▸I.own)
       have hr1':=E05.rowAt hb1r hr1;have hk1':=hk1.mv (m3.mv I.own E05);have o2:=iI B d m' env (l.getD 1 bJ) I5.mB I5.ok (cS hw 1);have hih2:=ih I5 (by omega) hk1' (hc.rR 1) (cS hw 1);generalize aU d m' env (l.getD 1 bJ)=p at hih2 o2 ⊢;obtain⟨v2,e2',m2'⟩:=p;obtain⟨hm2,hvk2,hlt2⟩:=o2;dsimp only at hm2 hvk2 hlt2 ⊢;refine af ?_;refine xp rfl (aA rfl (k55.cell (i:=2) rfl)) ?_;refine xp rfl (cz rfl rfl 1 rfl ha1) ?_;refine xp rfl (bY rfl hr1') ?_;refine xo rfl (aE rfl hih2) ?_;rintro _ h6 ⟨v6,rfl,hv6,b6,e6⟩;dsimp only at hv6 b6;obtain⟨nk2,nt2,ya,yn,yc,fa,fm,fc,rfl,_,hR6,_⟩:=cW.get hv6;refine af ?_;refine xo rfl (cO) ?_;rintro _ h7 ⟨rfl,k10,e7,z7⟩;refine aM rfl (aY rfl rfl k10 gI) ?_;rintro _ h8 ⟨rfl,k10',x8,z8⟩;have k10':aD h8 h6.size 42 (lG v2.kind v2.num v2.fE v2.self nk2 nt2 ya yn yc fa fm fc):=k10';have e68:aj h6 h8:=aj.only e7 x8 (Nat.le_refl _);have E58:Ext (fun b=>b=rb) h5 h8:=e6.trans (e68.mono fun _ _ q=>q.elim);have E08:=E05.trans E58;have zw:=And.intro e6.size e68.size;obtain⟨O6,hO6⟩:∃O6,O6=upTo O3 h6 h8:=⟨_,rfl⟩
       have l6:∀b,O6 b->b<h8.size:=fun b q=>by
        rw[hO6] at q
        rcases q with q|q
        · have:=l3 b q;omega
        · omega
       have m56:kD h5 O3 O6:=by rw[hO6];exact⟨fun b q=>.inl q,fun b q=>q.imp id (fun q=>by omega)⟩
       have m6:kD h O O6:=⟨fun b q=>m56.1 b (m3.1 b q),fun b q=>(m56.2 b q).elim (m3.2 b) (fun q=>.inr (by omega))⟩
       have b8:=b6.ah e68;have hR8:=eV.mv hR6 ((cL O3 h6 h8).tA e68);rw[<-hO6] at hR8;have hr3:=m3.1 _ I.own;have hR58:=eV.mv hR5 (m56.mv hr3 E58);have o66:=m56.1 _ o6;have k58:=k55.ext E58 (by omega);have k68:=k65.ext E58 (by omega);have k88:=k85.ext E58 (by have:=I2.Dt;omega);have I8:qE hb rb B O6 h8 m2' ev env:=I5.next m56 hm2 E58 b8 l6
       refine af ?_;refine aR (fun he2=>?_) (fun he2=>?_)
       · rw[if_pos he2];refine af ?_;refine xp rfl (av (H.dO ) rfl) ?_;refine af ?_;refine aM rfl (aY rfl rfl k68) ?_;rintro _ h9 ⟨rfl,k66,x9,z9⟩;refine af ?_;refine ct (cj rfl k66.row (eo cq)) ?_;exact⟨_,rfl,_,rfl,gN _ _,b8.ext x9 (by omega),E08.bH x9 (fun b hb q=>by omega)⟩
       · rw[if_neg he2];obtain⟨g1,_,_⟩:=hvk.get;obtain⟨g2,_,_⟩:=hvk2.get;have hs1:=aG v.fE;have hs2:=aG v2.fE;unfold Bk;refine aX ?_;refine fL [(82,.bool (decide (v.kind≠v2.kind\/v.kind=4)))] rfl ?_ ?_
         · refine af ?_;refine xp rfl (aA rfl (k88.cell (i:=0) rfl)) ?_;refine af ?_;refine xp rfl (aA rfl (k10'.cell (i:=0) rfl)) ?_;refine af ?_;refine dG 88 (fun p=>?_) (fun p=>?_)
           · have p:=of_decide_eq_true p;refine af ?_;exact aF rfl ⟨au rfl (by rw[decide_eq_true (.inl p)]),sb rfl⟩
           · have p:=of_decide_eq_false p;refine af ?_;refine xp rfl (aA rfl (k88.cell (i:=0) rfl)) ?_;refine af ?_;exact aF rfl ⟨au rfl (by rw[decide_eq_decide];exact⟨.inr,fun q=>q.resolve_left p⟩),sb rfl⟩
         · refine iM (fun hk=>?_) (fun hk=>?_)
           · have hk:=of_decide_eq_true hk;rw[if_pos hk];refine af ?_;refine xp rfl (av (H.dO ) rfl) ?_;refine aM rfl (aY rfl rfl k68) ?_;rintro _ h9 ⟨rfl,k66,x9,z9⟩;refine af ?_;refine ct (cj rfl k66.row (eo cq)) ?_;exact⟨_,rfl,_,rfl,gN _ _,b8.ext x9 (by omega),E08.bH x9 (fun b hb q=>by omega)⟩
           · have hk:=of_decide_eq_false hk;rw[if_neg hk];refine af ?_;refine xp rfl (aA rfl (k88.cell (i:=0) rfl)) ?_;refine af ?_;refine aR (fun h1k=>?_) (fun h1k=>?_)
             · rw[if_pos h1k];refine af ?_;refine xp rfl (aA rfl (k58.cell (i:=1) rfl)) ?_;refine af ?_;refine xp rfl (aA rfl (k88.cell (i:=1) rfl)) ?_;refine af ?_;refine xp rfl (aA rfl (k10'.cell (i:=1) rfl)) ?_;refine xo rfl (aE rfl (yj O6 t _ _)) ?_;rintro _ h9' ⟨vz,rfl,hvz,ez⟩;obtain⟨zk,zt,za,zn,zc,wa,wm,wc,rfl,_,hRz,_⟩:=cW.get hvz;have Ez:=E08.trans (ez.mono fun _ _ q=>q.elim);have zz9:=ez.size;refine af ?_;refine aM rfl (aY rfl rfl ((k68.ah ez)) gI) ?_;rintro _ h9 ⟨rfl,k66,x9,z9⟩;refine af ?_;refine ct (cj rfl k66.row (eo cq)) ?_;exact⟨_,rfl,_,rfl,cW.of (eV.mv hRz (cR m6.1 o66 x9)),((b8.ah ez)).ext x9 (by omega),(Ez).bH x9 (fun b hb q=>by omega)⟩
             · rw[if_neg h1k];refine aX ?_;refine fL [(107,.bool (decide (v.kind=3/\t=[43])))] rfl ?_ ?_
               · refine af ?_;refine xp rfl (aA rfl (k88.cell (i:=0) rfl)) ?_;refine af ?_;refine dG 111 (fun p=>?_) (fun p=>?_)
                 · have p:=of_decide_eq_true p;refine af ?_;refine xp rfl (aA rfl (k58.cell (i:=1) rfl)) ?_;refine af ?_;exact aF rfl ⟨au rfl (by rw[decide_eq_decide];exact⟨fun q=>⟨p,bl q⟩,fun q=>by rw[q.2];rfl⟩),sb rfl⟩
                 · have p:=of_decide_eq_false p;refine af ?_;exact aF rfl ⟨au rfl (by rw[decide_eq_false (fun q=>p q.1)]),sb rfl⟩
               · refine iM (fun h3p=>?_) (fun h3p=>?_)
                 · have h3p:=of_decide_eq_true h3p;rw[if_pos h3p];refine af ?_;refine xp rfl (aA rfl (k88.cell (i:=2) rfl)) ?_;refine af ?_;refine xp rfl (aA rfl (k10'.cell (i:=2) rfl)) ?_;refine af ?_;refine aR (fun hbig=>?_) (fun hbig=>?_)
                   · rw[if_pos (by omega)];refine af ?_;refine xp rfl (av (H.dO ) rfl) ?_;refine aM rfl (aY rfl rfl k68) ?_;rintro _ h9 ⟨rfl,k66,x9,z9⟩;refine af ?_;refine ct (cj rfl k66.row (eo cq)) ?_;exact⟨_,rfl,_,rfl,gN _ _,b8.ext x9 (by omega),E08.bH x9 (fun b hb q=>by omega)⟩
                   · rw[if_neg (by omega)];refine af ?_;refine xp rfl (aA rfl (k88.cell (i:=2) rfl)) ?_;refine af ?_;refine xp rfl (aA rfl (k10'.cell (i:=2) rfl)) ?_;refine aW ?_;rw[br];refine xp rfl (av (H.Db _ _) rfl) ?_;refine aM rfl (aY rfl rfl k68 gI) ?_;rintro _ h9 ⟨rfl,k66,x9,z9⟩;refine af ?_;refine ct (cj rfl k66.row (eo cq)) ?_;exact⟨_,rfl,_,rfl,LV _ _ _,b8.ext x9 (by omega),E08.bH x9 (fun b hb q=>by omega)⟩
                 · have h3p:=of_decide_eq_false h3p;rw[if_neg h3p];refine af ?_;refine xp rfl (aA rfl (k88.cell (i:=0) rfl)) ?_;refine af ?_;refine aR (fun h3k=>?_) (fun h3k=>?_)
                   · rw[if_pos h3k];refine af ?_;refine LR 12 10 ?_;refine aI 0 ?_;refine bI 1 rfl (fun h' e=>aA rfl (e.cell (by have:=I2.Dt;dsimp only;omega) (k58.cell (i:=1) rfl))) ?_;refine aI 2 ?_;refine bI 3 rfl (fun h' e=>aA rfl (e.cell (by dsimp only;omega) (k88.cell (i:=2) rfl))) ?_;refine aI 4 ?_;refine bI 5 rfl (fun h' e=>aA rfl (e.cell (by dsimp only;omega) (k10'.cell (i:=2) rfl))) ?_;refine dH 6 rfl (aE rfl (Al _ _)) ?_;rintro _ _ ⟨rfl,rfl⟩;refine⟨fun _=>Ext.refl _ _,?_⟩;refine dH 7 rfl (aE rfl (pQ O6 t _)) ?_;rintro _ h9' ⟨vz,rfl,hvz,ez⟩;refine⟨fun _=>ez.of,?_⟩;obtain⟨zk,zt,za,zn,zc,wa,wm,wc,rfl,_,hRz,_⟩:=cW.get hvz;have Ez:=E08.trans (ez.mono fun _ _ q=>q.elim);have zz9:=ez.size;refine aI 8 ?_;refine aI 9 ?_;refine kX 10 rfl (aY rfl rfl ((k68.ah ez)) gI) ?_;rintro _ h9 ⟨rfl,k66,x9,z9⟩;refine⟨nofun,?_⟩;refine aI 11 ?_;refine iT ?_;refine ct (cj rfl k66.row (eo cq)) ?_;exact⟨_,rfl,_,rfl,cW.of (eV.mv hRz (cR m6.1 o66 x9)),((b8.ah ez)).ext x9 (by omega),(Ez).bH x9 (fun b hb q=>by omega)⟩
                   · rw[if_neg h3k];refine af ?_;refine xp rfl (aA rfl (k58.cell (i:=1) rfl)) ?_;refine af ?_;refine aR (fun hee=>?_) (fun hee=>?_)
                     · have hee:t=[61,61]:=bl hee;rw[if_pos hee];refine af ?_;refine xp rfl (aA rfl (k88.cell (i:=1) rfl)) ?_;refine af ?_;refine xp rfl (aA rfl (k10'.cell (i:=1) rfl)) ?_;refine af ?_;refine xo rfl (aE rfl (dh _)) ?_;rintro _ h9' ⟨rfl,ez⟩;refine aM rfl (aY rfl rfl ((k68.ah ez)) gI) ?_;rintro _ h9 ⟨rfl,k66,x9,z9⟩;refine af ?_;refine ct (cj rfl k66.row (eo cq)) ?_;exact⟨_,rfl,_,rfl,pn _ _ _,(b8.ah ez).ext x9 (by omega),(E08.trans (ez.mono fun _ _ q=>q.elim)).bH x9 (fun b hb q=>by omega)⟩
                     · have hee:¬t=[61,61]:=fun q=>hee (by rw[q];rfl)
                       rw[if_neg hee];refine af ?_;refine xp rfl (aA rfl (k58.cell (i:=1) rfl)) ?_;refine af ?_;refine aR (fun hne=>?_) (fun hne=>?_)
                       · have hne:t=[33,61]:=bl hne;rw[if_pos hne];refine af ?_;refine xp rfl (aA rfl (k88.cell (i:=1) rfl)) ?_;refine af ?_;refine xp rfl (aA rfl (k10'.cell (i:=1) rfl)) ?_;refine af ?_;refine xo rfl (aE rfl (dh _)) ?_;rintro _ h9' ⟨rfl,ez⟩;refine aM rfl (aY rfl rfl ((k68.ah ez)) gI) ?_;rintro _ h9 ⟨rfl,k66,x9,z9⟩;refine af ?_;refine ct (cj rfl k66.row (eo cq)) ?_;exact⟨_,rfl,_,rfl,pn _ _ _,(b8.ah ez).ext x9 (by omega),(E08.trans (ez.mono fun _ _ q=>q.elim)).bH x9 (fun b hb q=>by omega)⟩
                       · have hne:¬t=[33,61]:=fun q=>hne (by rw[q];rfl)
                         rw[if_neg hne];refine af ?_;refine xp rfl (av (H.dO ) rfl) ?_;refine aM rfl (aY rfl rfl k68) ?_;rintro _ h9 ⟨rfl,k66,x9,z9⟩;refine af ?_;refine ct (cj rfl k66.row (eo cq)) ?_;exact⟨_,rfl,_,rfl,gN _ _,b8.ext x9 (by omega),E08.bH x9 (fun b hb q=>by omega)⟩
theorem MY {a:Option Addr}{n c:Nat}(hws:Sl eN h O a n c l){i:Nat}(hi:i<n) :
 ∃b o k t l' xa xc,a=some ⟨b,o,none⟩/\(¬O b/\b<h.size)/\l[i]? =some (.mk k t l')/\Lw.rowAt h b (o+i*3) (Aa k t xa l'.length xc)/\eF h O (.agg #[.int .i64 k,.string (bs t),.slice xa l'.length xc]) (.mk k t l'):=by
 obtain⟨b,o,x,cs,ha,hob,hx,hrow,hR⟩:=Sl.nd hws hi;obtain⟨k,t,l'⟩:=x;obtain⟨v,rfl,hs⟩:=kO hR;obtain⟨xa,xn,xc,rfl,hk⟩:=hs.open;have:=hk.len;subst this;exact⟨b,o,k,t,l',xa,xc,ha,⟨hob,dL hrow (by simp)⟩,hx,hrow,eF.of hR⟩
structure Sr (hb:ai) (rb B d m:Nat) (env:List Bd) (l:List Tr) (O:Nat->Prop) (h:ai) (i:Nat) (ev':Value) (env':List Bd) (m':Nat) (v:Vl) (O':Nat->Prop) (g:ai):Prop where
 inv:qE hb rb B O' g m' ev' env'
 more:kD h O O'
 here:O' h.size
 val:∃nk nt a n c ea en ec,aD g h.size 42 (lG v.kind v.num v.fE v.self nk nt a n c ea en ec)/\eV.R g O' (lG v.kind v.num v.fE v.self nk nt a n c ea en ec) v
 ext:Ext (fun b=>b=rb) h g
 le:i<=l.length
 ml:m'<=m
 vok:okV (B-2*m') v
 eq:gU (aU d) m env l iV=gU (aU d) m' env' (l.drop i) v
theorem Da (ih:NF hb rb B d){kv:Value}(I:qE hb rb B O h m ev env) (hm:m<=d) (hk:aT eN h O kv l) (hl:∀x∈l,Cl bz x/\x.wt<=1000000) :
 aq Tryz.prog 80 #[.pointer (some ⟨rb,0,none⟩),ev,kv] h (bw fun r h'=>Mm rb O h (gU (aU d) m env l iV) r h'):=by
 obtain⟨ka,kn,kc,rfl,hks⟩:=hk.open;have hkn:=hks.len;subst hkn;have hkc:=hks.le;have hkm:=hks.cap;unfold maxLen at hkm;have hrl:=I.Dt;refine bL ?_;refine af ?_;refine xo rfl (cO) ?_;rintro _ h1 ⟨rfl,k6,e1,z1⟩;have k6:aD h1 h.size 42 (lG 0 0 [] [] 0 [] none 0 0 none 0 0):=k6;have m1:=cL O h h1;have I1:=I.yZ m1 e1 (jm I.lt e1.size);refine af ?_;refine gY (σ:=Nat×Value×List Bd×Nat×Vl×(Nat->Prop)) (fun q=>[(1,q.2.1),(12,.int .i64 (q.1:Nat))]) (fun q h'=>Sr hb rb B d m env l O h q.1 q.2.1 q.2.2.1 q.2.2.2.1 q.2.2.2.2.1 q.2.2.2.2.2 h') (fun q=>l.length-q.1) ((0,ev,env,m,iV,upTo O h h1)) ⟨I1,m1,.inr (by omega),⟨_,_,_,_,_,_,_,_,k6,JC _ _ 0 0 [] []⟩,e1.mono fun _ _ q=>q.elim,Nat.zero_le _,Nat.le_refl _,cQ _,rfl⟩ rfl ?_;rintro⟨i,ev',env',m',v,O'⟩ g ⟨I',mo,o6,⟨nk,nt,xa,xn,xc,ea,en,ec,k6g,hRg⟩,E0g,hi,hml,hvok,heq⟩ ih2
 try dsimp only
 dsimp only at I' mo o6 k6g hRg hi hml hvok heq;have hzg:=E0g.size;refine af ?_;refine aR (fun hlt=>?_) (fun hlt=>?_)
 · obtain⟨b1,o1,k,t,l',na,nc,ha1,hb1,hx,hr1,hk1⟩:=MY hks (i:=i) (by omega);obtain⟨hcl,hwt⟩:=hl _ (List.mem_of_getElem? hx);have hb1r:b1≠rb:=fun q=>hb1.1 (q▸I.own)
   have hr1':=E0g.rowAt hb1r hr1
   have hdr:l.drop i= .mk k t l'::l.drop (i+1):=by
    obtain⟨hil,hxe⟩:=List.getElem?_eq_some_iff.1 hx;rw[List.drop_eq_getElem_cons hil,hxe]
   have heq2:=heq;rw[hdr,gU] at heq2
   iterate 4 refine aX ?_
   refine cD ?_;refine xp rfl (cz rfl rfl i rfl ha1) ?_;refine xp rfl (bY rfl hr1') ?_;refine xo rfl (cO) ?_;rintro _ g1 ⟨rfl,k9,e1',z1'⟩;refine aM rfl (aY rfl rfl k9 lq) ?_;rintro _ g2 ⟨rfl,k92,x2,z2⟩;have k92:aD g2 g.size 39 [.int .i64 k,.string (bs t),.slice na l'.length nc]:=k92;have e2:aj g g2:=aj.only e1' x2 (Nat.le_refl _);have m2:=cL O' g g2;have I2:=I'.yZ m2 e2 (jm I'.lt e2.size);have m4:kD h O (upTo O' g g2):=⟨fun b q=>m2.1 b (mo.1 b q),fun b q=>(m2.2 b q).elim (mo.2 b) (fun q=>.inr (by omega))⟩
   have hk2:=hk1.mv (kD.mv m4 I.own (E0g.trans (e2.mono fun _ _ q=>q.elim)));have oo:=iI B d m' env' (.mk k t l') I'.mB I'.ok hwt;have hih:=ih I2 (by omega) hk2 hcl hwt;generalize aU d m' env' (.mk k t l')=o at hih oo heq2;obtain⟨w,e,m2'⟩:=o;obtain⟨hm2,hvk,hlt2⟩:=oo;dsimp only at hm2 hvk hlt2 heq2;have hgl:=I'.lt _ o6;have hgr:=I'.Dt;refine af ?_;refine xp rfl (bY rfl k92.row) ?_;refine xo rfl (aE rfl hih) ?_;rintro _ g3 ⟨v3,rfl,hv3,b3,e3⟩;dsimp only at hv3 b3;obtain⟨nk3,nt3,ya,yn,yc,fa,fm,fc,rfl,_,hR3,_⟩:=cW.get hv3;have E23:Ext (fun b=>b=rb) g g3:=(e2.mono fun _ _ q=>q.elim).trans e3;have z23:=And.intro E23.size e3.size;have ze2:=e2.size;refine af ?_;refine aM rfl (aY rfl rfl ((k6g.ext E23 (by omega))) gI) ?_;rintro _ g4 ⟨rfl,k64,x4,z4⟩;have k64:aD g4 h.size 42 (lG w.kind w.num w.fE w.self nk3 nt3 ya yn yc fa fm fc):=k64;have o62:upTo O' g g2 h.size:=.inl o6;have hR4:=eV.mv hR3 (cR (fun _ q=>q) o62 x4);have b4:=b3.ext x4 (by omega);have E04:Ext (fun b=>b=rb) h g4:=(E0g.trans E23).bH x4 (fun b hb q=>by omega);have z04:=x4.size;have k94:=(k92.ext e3 (by omega)).ext x4 (by omega);refine af ?_;refine aR (fun he=>?_) (fun he=>?_)
   · rw[if_pos he] at heq2;rw[heq2];refine af ?_;refine xp rfl (av (H.dO ) rfl) ?_;refine af ?_;refine aM rfl (aY rfl rfl k64) ?_;rintro _ g5 ⟨rfl,k65,x5,z5⟩;refine af ?_;refine ct (cj rfl k65.row (eo cq)) ?_;exact⟨_,rfl,_,rfl,gN _ _,b4.ext x5 (by omega),E04.bH x5 (fun b hb q=>by omega)⟩
   · rw[if_neg he] at heq2;have he:=Classical.not_not.1 he;have hlt2:=hlt2 he
     have I4:qE hb rb B (upTo O' g g2) g4 m2' ev' env':=⟨⟨by have:=I.ext.size;omega,fun b hb _=>(E04.block b (by have:=I.ext.size;omega) (by have:=I.hrb;omega)).trans (I.ext.block b hb (fun k=>k))⟩,b4,fun b q=>by (have:=jm I'.lt e2.size b q);omega,.inl I'.own,
      (I2.en.mv (Mv.cx e3 fun b _ hn=>⟨fun q=>hn (q▸ .inl I'.own),hn⟩)).mv (cR (fun _ q=>q) o62 x4),iO I'.ok hm2,by have:=I'.mB;omega,by have:=I'.mL;omega,I.hB,I.hrb⟩
     iterate 2 refine aX ?_
     refine fL [(35,.bool (decide (k=7/\l'.length=1)))] rfl ?_ ?_
     · refine af ?_;refine xp rfl (aA rfl (k94.cell (i:=0) rfl)) ?_;refine af ?_;refine dG 30 (fun p=>?_) (fun p=>?_)
       · have p:=of_decide_eq_true p;refine af ?_;refine xp rfl (aA rfl (k94.cell (i:=2) rfl)) ?_;refine af ?_;exact aF rfl ⟨au rfl (by rw[decide_eq_decide];exact⟨fun q=>⟨p,by omega⟩,fun q=>by omega⟩),sb rfl⟩
       · have p:=of_decide_eq_false p;refine af ?_;exact aF rfl ⟨au rfl (by rw[decide_eq_false (fun q=>p q.1)]),sb rfl⟩
     · refine iM (fun hc=>?_) (fun hc=>?_)
       · have hc:=of_decide_eq_true hc;have hc':(Tr.mk k t l').kind=7/\(Tr.mk k t l').kids.length=1:=hc;rw[if_pos hc'] at heq2;refine af ?_;refine xp rfl (bY rfl k64.row) ?_;refine af ?_;refine xp rfl (aA rfl (k94.cell (i:=1) rfl)) ?_;refine xo rfl (aE rfl (yX (cW.of hR4) t)) ?_;rintro _ g5 ⟨hv5,e5⟩;obtain⟨nk5,nt5,ua,un,uc,wa,wm,wc,rfl,_,hR5,_⟩:=cW.get hv5;refine aM rfl (aY rfl rfl ((k64.ah e5)) gI) ?_;rintro _ g6 ⟨rfl,k66,x6,z6⟩;have k66:aD g6 h.size 42 (lG (jQ w t).kind (jQ w t).num (jQ w t).fE (jQ w t).self nk5 nt5 ua un uc wa wm wc):=k66;have hR6:=eV.mv hR5 (cR (fun _ q=>q) o62 x6);have k96:=(k94.ah e5).ext x6 (by omega);have z56:=And.intro e5.size x6.size;have hen6:=(I4.en.mv (Mv.ah e5)).mv (cR (fun _ q=>q) o62 x6);have hel:env'.length<=100000000:=by have:=I4.ok.1;have:=I.hB;omega
         refine af ?_;refine xp rfl (aA rfl (k96.cell (i:=1) rfl)) ?_;refine xp rfl (bY rfl k66.row) ?_;refine xo rfl (aE rfl (jD hen6 hel t (cW.of hR6))) ?_;rintro r7 g7 ⟨ho7,e7⟩;have E47:Ext (fun b=>b=h.size) g4 g7:=((e5.mono fun _ _ q=>q.elim).trans x6).trans (e7.mono fun _ _ q=>q.elim);have E07:Ext (fun b=>b=rb) h g7:=E04.bH E47 (fun b hb q=>by omega);have z7:=e7.size;have hlu:=jm I'.lt e2.size;refine af ?_;have zI:=I.ext.size;have I7:qE hb rb B (upTo O' g g2) g7 m2' r7 (env'++[(t,jQ w t)]):=⟨⟨by omega,fun b hb _=>(E07.block b (by omega) (by have:=I.hrb;omega)).trans (I.ext.block b hb (fun k=>k))⟩,b4.ext E47 (by omega),fun b q=>by (have:=hlu b q);omega,.inl I'.own,ho7.read (fun b hb q=>by (have:=hlu b q);omega) (fun _ _ q=>q),lQ I'.ok hlt2 I'.mB (mM hvk t) t,by have:=I'.mB;omega,by have:=I'.mL;omega,I.hB,I.hrb⟩
         exact ih2 (i+1,r7,env'++[(t,jQ w t)],m2',jQ w t,upTo O' g g2) ⟨I7,m4,o62,⟨_,_,_,_,_,_,_,_,k66.ah e7,eV.mv hR6 (Mv.ah e7)⟩,E07,by show i+1<=_;omega,by dsimp only;omega,mM hvk t,heq2⟩
       · have hc:=of_decide_eq_false hc;have hc':¬((Tr.mk k t l').kind=7/\(Tr.mk k t l').kids.length=1):=hc;rw[if_neg hc'] at heq2;refine af ?_;exact ih2 (i+1,ev',env',m2',w,upTo O' g g2) ⟨I4,m4,o62,⟨_,_,_,_,_,_,_,_,k64,hR4⟩,E04,by show i+1<=_;omega,by dsimp only;omega,hvk,heq2⟩
 · obtain rfl:i=l.length:=by omega
   rw[heq,List.drop_of_length_le (Nat.le_refl _),gU];have hgl:=I'.lt _ o6;have hgr:=I'.Dt;have hor:rb≠h.size:=by omega
   refine af ?_;refine xp rfl (bY rfl k6g.row) ?_;refine aM rfl (aY rfl rfl k6g gI) ?_;rintro _ g5 ⟨rfl,k65,x5,z5⟩;refine af ?_;refine ct (cj rfl k65.row (eo cq)) ?_;exact⟨_,rfl,_,rfl,cW.of (eV.mv hRg (cR mo.1 o6 x5)),I'.blk.ext x5 hor,E0g.bH x5 (fun b hb q=>by omega)⟩
def Dq (h:ai) (g:Nat):Prop:=∃t f tp p,h[g]? =some (.cells #[.iface tp p] t f)
theorem Dq.ah {h':ai}{g:Nat}(k:Dq h g) (e:aj h h'):Dq h' g:=by
 obtain⟨t,f,tp,p,hk⟩:=k;exact⟨t,f,tp,p,(e.block g (Array.getElem?_eq_some_iff.1 hk).1 (fun k=>k)).trans hk⟩
theorem Dq.var {w:World}{g:Nat}(k:Dq w.heap g){n:String}(hg:Tryz.prog.globalNamed n=some g):∃tp p,w.var? Tryz.prog n=some #[.iface tp p]:=by
 obtain⟨t,f,tp,p,hk⟩:=k;exact⟨tp,p,by simp[World.var?,hg,hk]⟩
structure E2 (h:ai):Prop where
 ex:Hy h
 syn:Dq h 8
 rng:Dq h 9
theorem E2.ah {h h':ai}(k:E2 h) (e:aj h h'):E2 h':=⟨k.ex.ah e,k.syn.ah e,k.rng.ah e⟩
theorem yh (hg:E2 h) (s:By) (hs:s.length<=1000000):aq Tryz.prog 77 #[.string (bs s),.int .i64 10,.int .i64 64] h (bw fun r h' =>
 (∃n e,r=packed [.int .i64 n,e]/\((Lib.parseIntB 64 s= .ok n/\e= .nilIface)\/((∀v,Lib.parseIntB 64 s≠ .ok v)/\∃tp p,e= .iface tp p)))/\aj h h'):=by
 have hz:=aG s;refine aq.oK fun w hw=>?_
 subst hw;have hd:(bs s).data.toList=s:=eD s
 match ha:Lib.parseIntB 64 s with
 |.ok v =>
  refine(Tryz.strconv_ParseInt_10_at64_ok (bs s) (by omega) v (by rw[hd];exact ha) w).mono ?_;rintro e w' ⟨rfl,rfl|⟨t,rfl⟩⟩
  · exact⟨_,rfl,⟨⟨_,_,rfl,.inl ⟨rfl,rfl⟩⟩,Ext.refl _ _⟩,rfl,rfl,rfl⟩
  · have hb:=Lib.bytesWorld_below w 5 t;exact⟨_,rfl,⟨⟨_,_,rfl,.inl ⟨rfl,rfl⟩⟩,qC hb⟩,hb.os,hb.tape,hb.output⟩
 |.syntax =>
  obtain⟨tp,p,hv⟩:=hg.syn.var (n:= "strconv.ErrSyntax") (by kernel_rfl);refine(Tryz.strconv_ParseInt_10_at64_syntax_var (bs s) (by omega) (by rw[hd];exact ha) tp p w hv).mono ?_;rintro e w' ⟨N,rfl,_,_,hb⟩;exact⟨_,rfl,⟨⟨_,_,rfl,.inr ⟨(fun v hv=>by cases hv),_,_,rfl⟩⟩,qC hb⟩,hb.os,hb.tape,hb.output⟩
 |.range =>
  obtain⟨tp,p,hv⟩:=hg.rng.var (n:= "strconv.ErrRange") (by kernel_rfl);refine(Tryz.strconv_ParseInt_10_at64_range_var (bs s) (by omega) (by rw[hd];exact ha) tp p w hv).mono ?_;rintro e w' ⟨N,rfl,_,_,hb⟩;exact⟨_,rfl,⟨⟨_,_,rfl,.inr ⟨(fun v hv=>by cases hv),_,_,rfl⟩⟩,qC hb⟩,hb.os,hb.tape,hb.output⟩
theorem G9 (d:Nat) (env:List Bd) (n:Tr):aU d 0 env n=(iV,60,0):=by
 cases d with
 |zero=>rfl
 |succ d=>cases n;rfl
theorem zJ {n:Tr}(I:qE hb rb B O h 0 ev env) (hn:eF h O nv n) :
 aq Tryz.prog 42 #[.pointer (some ⟨rb,0,none⟩),ev,nv] h (bw fun r h'=>Mm rb O h (aU d 0 env n) r h'):=by
 rw[G9];obtain⟨k,t,l⟩:=n;obtain⟨na,nn,nc,rfl,hR,hks⟩:=nQ hn;have hrl:=I.Dt;refine bL ?_;refine af ?_;refine xo rfl (jj) ?_;rintro _ h1 ⟨rfl,k5,e1,z1⟩;refine xo rfl (cO) ?_;rintro _ h2 ⟨rfl,k6,e2,z2⟩;have e12:=e1.trans e2;have b2:=I.blk.ah e12;refine af ?_;refine xp rfl (aA rfl (b2.cell (i:=0) rfl)) ?_;refine af ?_;refine aR (fun hs=>?_) (fun hs=>?_)
 · refine af ?_;refine xp rfl (av (H.dO ) rfl) ?_;refine aM rfl (aY rfl rfl k6) ?_;rintro _ h3 ⟨rfl,k63,x3,z3⟩;refine af ?_;refine ct (cj rfl k63.row (eo cq)) ?_;exact⟨_,rfl,_,rfl,gN _ _,b2.ext x3 (by omega),(e12.mono fun _ _ q=>q.elim).bH x3 (fun b hb q=>by omega)⟩
 · exact absurd rfl hs
theorem JL (h:∀v,Lib.parseIntB 64 t≠ .ok v):aU (d+1) (m+1) env (.mk 0 t l)=(iV,2,m):=by
 rw[aU,if_pos rfl];cases hq:Lib.parseIntB 64 t with
 |ok v=>exact absurd hq (h v)
 | «syntax» =>rfl
 |range=>rfl
theorem K6 {v:Int}(h:Lib.parseIntB 64 t= .ok v):aU (d+1) (m+1) env (.mk 0 t l)=(mN v,0,m):=by
 rw[aU,if_pos rfl,h]
theorem He (hg:E2 hb) (ih:NF hb rb B d){k:Int}(I:qE hb rb B O h (m+1) ev env) (hm:m<=d) (hn:eF h O nv (.mk k t l)) (hc:Cl bz (.mk k t l)) (hw:(Tr.mk k t l).wt<=1000000) :
 aq Tryz.prog 42 #[.pointer (some ⟨rb,0,none⟩),ev,nv] h (bw fun r h'=>Mm rb O h (aU (d+1) (m+1) env (.mk k t l)) r h'):=by
 obtain⟨na,nn,nc,rfl,hR,hks⟩:=nQ hn;have hkn:=hks.len;subst hkn;have hrl:=I.Dt;have hmL:=I.mL;have htl:t.length<=1000000:=by rw[Tr.wt] at hw;omega
 have hbt:=aG t;have hel:env.length<=100000000:=by have:=I.ok.1;have:=I.hB;omega
 refine bL ?_;refine af ?_;refine xo rfl (jj) ?_;rintro _ h1 ⟨rfl,k5,e1,z1⟩;refine xo rfl (cO) ?_;rintro _ h2 ⟨rfl,k6,e2,z2⟩;have e12:=e1.trans e2;have b2:=I.blk.ah e12;have k5:aD h2 h.size 39 [.int .i64 k,.string (bs t),.slice na l.length nc]:=k5.ah e2;refine af ?_;refine xp rfl (aA rfl (b2.cell (i:=0) rfl)) ?_;refine af ?_;refine aR (fun hs=>?_) (fun hs=>?_)
 · exact absurd hs (by omega)
 · refine af ?_;refine xp rfl (aA rfl (b2.cell (i:=0) rfl)) ?_;refine af ?_;refine aM rfl (mj rfl rfl b2) ?_;rintro _ h3 ⟨rfl,b3,x3,z3⟩
   have b3:aD h3 rb 103 [.int .i64 (2000-(m:Int))]:=by
    rw[show (2000-(m:Int))=2000-((m+1:Nat):Int)+1 by omega];exact b3
   have E03:Ext (fun b=>b=rb) h h3:=(e12.mono fun _ _ q=>q.elim).trans x3;have zz:=And.intro e12.size x3.size;have m3:=cL O h h2;obtain⟨O3,hO3⟩:∃O3,O3=upTo O h h2:=⟨_,rfl⟩
   rw[<-hO3] at m3
   have l3:∀b,O3 b->b<h3.size:=fun b q=>by
    rw[hO3] at q
    rcases q with q|q
    · have:=I.lt b q;omega
    · omega
   have o6:O3 h1.size:=by rw[hO3];exact .inr (by omega)
   have I3:qE hb rb B O3 h3 m ev env:=I.next m3 (Nat.le_succ m) E03 b3 l3
   have k53:=k5.ext x3 (by omega);have k63:=k6.ext x3 (by omega);have hn3:=hn.mv (kD.mv m3 I.own E03)
   have hks3:Sl eN h3 O3 na l.length nc l:=by
    obtain⟨a',n',c',hv,_,hk'⟩:=nQ hn3;have:=congrArg (fun v=>match v with|Value.agg c=>c[2]? |_=>none) hv;simp at this;obtain⟨rfl,rfl,rfl⟩:=this;exact hk'
   refine af ?_;refine xp rfl (aA rfl (k53.cell (i:=0) rfl)) ?_;refine af ?_;have hR3:=cR (O:=O) m3.1 o6 (g:=h3) (g':=h3) (Ext.refl _ _);refine aR (fun c0=>?_) (fun c0=>?_)
   · subst c0;refine af ?_;refine xp rfl (aA rfl (k53.cell (i:=1) rfl)) ?_;refine xo rfl (aE rfl (yh (hg.ah I3.ext) t htl)) ?_;rintro _ h4 ⟨⟨n,e,rfl,hp⟩,e4⟩;have E04:=E03.trans (e4.mono fun _ _ q=>q.elim);have z4:=e4.size
     rcases hp with ⟨hp,rfl⟩|⟨hp,tp,p,rfl⟩
     · rw[K6 hp]
       iterate 5 refine aW ?_
       refine cX ?_
       iterate 2 refine aX ?_
       refine cD ?_;refine aW ?_;refine xp rfl (ay.qR underlying112 rfl (.inl rfl)) ?_;refine af ?_;refine fe rfl (by simp[nU]) ?_;refine af ?_;refine xp rfl (av (H.iS _ _) rfl) ?_;refine aM rfl (aY rfl rfl ((k63.ah e4)) gI) ?_;rintro _ h9 ⟨rfl,k9,x9,z9⟩;refine af ?_;refine ct (cj rfl k9.row (eo cq)) ?_;exact⟨_,rfl,_,rfl,(vF _ _ _),((b3.ah e4)).ext x9 (by omega),(E04).bH x9 (fun b hb q=>by omega)⟩
     · rw[JL hp]
       iterate 5 refine aW ?_
       refine cX ?_
       iterate 2 refine aX ?_
       refine cD ?_;refine aW ?_;refine xp rfl (ay.qR underlying112 rfl (.inr ⟨_,_,rfl⟩)) ?_;refine af ?_;refine fF rfl (by simp[nU]) ?_;refine af ?_;refine xp rfl (av (H.dO ) rfl) ?_;refine aM rfl (aY rfl rfl ((k63.ah e4))) ?_;rintro _ h9 ⟨rfl,k9,x9,z9⟩;refine af ?_;refine ct (cj rfl k9.row (eo cq)) ?_;exact⟨_,rfl,_,rfl,gN _ _,((b3.ah e4)).ext x9 (by omega),(E04).bH x9 (fun b hb q=>by omega)⟩
   · rw[aU,if_neg c0];obtain⟨hv1,hv2⟩:(dF k).1<=l.length/\l.length<=(dF k).2:=xd hc c0;refine af ?_;refine aR (fun c1=>?_) (fun c1=>?_)
     · rw[if_pos c1];refine af ?_;refine xp rfl (aA rfl (k53.cell (i:=1) rfl)) ?_;refine af ?_;refine aR (fun hbig=>?_) (fun hbig=>?_)
       · rw[if_pos (by omega)];refine af ?_;refine xp rfl (av (H.dO ) rfl) ?_;refine aM rfl (aY rfl rfl k63) ?_;rintro _ h9 ⟨rfl,k9,x9,z9⟩;refine af ?_;refine ct (cj rfl k9.row (eo cq)) ?_;exact⟨_,rfl,_,rfl,gN _ _,(b3).ext x9 (by omega),(E03).bH x9 (fun b hb q=>by omega)⟩
       · rw[if_neg (by omega)];refine af ?_;refine xp rfl (aA rfl (k53.cell (i:=1) rfl)) ?_;refine xp rfl (av (H.Db _ _) rfl) ?_;refine aM rfl (aY rfl rfl k63 gI) ?_;rintro _ h9 ⟨rfl,k9,x9,z9⟩;refine af ?_;refine ct (cj rfl k9.row (eo cq)) ?_;exact⟨_,rfl,_,rfl,(LV _ _ _),(b3).ext x9 (by omega),(E03).bH x9 (fun b hb q=>by omega)⟩
     · rw[if_neg c1];refine af ?_;refine aR (fun c2=>?_) (fun c2=>?_)
       · rw[if_pos c2];have htt:decide (bs t=⟨#[116,114,117,101]⟩)=decide (t=kI):=by rw[decide_eq_decide];exact⟨fun q=>bl q,fun q=>by rw[q];rfl⟩
         refine af ?_;refine xp rfl (aA rfl (k53.cell (i:=1) rfl)) ?_;refine af ?_;refine xo rfl (aE rfl (dh _)) ?_;rintro _ h4 ⟨rfl,e4⟩;have z4:=e4.size;rw[htt];refine aM rfl (aY rfl rfl ((k63.ah e4)) gI) ?_;rintro _ h9 ⟨rfl,k9,x9,z9⟩;refine af ?_;refine ct (cj rfl k9.row (eo cq)) ?_;exact⟨_,rfl,_,rfl,(pn _ _ _),((b3.ah e4)).ext x9 (by omega),((E03.trans (e4.mono fun _ _ q=>q.elim))).bH x9 (fun b hb q=>by omega)⟩
       · rw[if_neg c2];refine af ?_;refine aR (fun c3=>?_) (fun c3=>?_)
         · rw[if_pos c3];refine af ?_;refine xp rfl (aA rfl (k53.cell (i:=1) rfl)) ?_;refine xo rfl (aE rfl (G7 I3.en hel t)) ?_;rintro _ h4 ⟨v4,rfl,hv4,e4'⟩;have e4:Ext (fun b=>b=rb) h3 h4:=e4'.mono fun _ _ q=>q.elim
           have b4:=b3.ah e4';have z4:=e4.size;obtain⟨nk',nt',xa',xn',xc',ea',en',ec',rfl,_,hR4,_⟩:=cW.get hv4;refine af ?_;refine aM rfl (aY rfl rfl ((k63.ext e4 (by omega))) gI) ?_;rintro _ h9 ⟨rfl,k9,x9,z9⟩;refine af ?_;refine ct (cj rfl k9.row (eo cq)) ?_;exact⟨_,rfl,_,rfl,cW.of (eV.mv hR4 (cR m3.1 o6 x9)),b4.ext x9 (by omega),(E03.trans e4).bH x9 (fun b hb q=>by omega)⟩
         · rw[if_neg c3];refine af ?_;refine aR (fun c8=>?_) (fun c8=>?_)
           · rw[if_pos c8];subst c8;have hv1:1<=l.length:=hv1;obtain⟨b1,o1',k1,t1,a1,n1,c1',ha1,hb1,hr1,hk1⟩:=iW hks3 (i:=0) (by omega);refine af ?_;refine LR 11 9 ?_;refine aI 0 ?_;refine bI 1 rfl (fun h' e=>aA rfl (e.cell (by dsimp only;omega) (k53.cell (i:=1) rfl))) ?_;refine aI 2 ?_;refine bI 3 rfl (fun h' e=>aA rfl (e.cell (by dsimp only;omega) (k53.cell (i:=2) rfl))) ?_;refine bI 4 rfl (fun h' e=>cz rfl rfl 0 rfl ha1) ?_;refine bI 5 rfl (fun h' e=>bY rfl (e.rowAt (by omega) hr1)) ?_;refine aI 6 ?_;refine dH 7 rfl (aE rfl (gS I3.en hel)) ?_;rintro r4 h4 ⟨ho4,e4⟩;refine⟨fun _=>e4.of,?_⟩;have hen4:=ho4.read (O':=O3) (fun b hb q=>by have:=l3 b q;omega) (fun _ _ q=>q);obtain⟨ua,un,uc,rfl,_⟩:=id hen4.open;have z4:=e4.size;obtain⟨cs',hcs',hRk⟩:=hk1.mv (Mv.ah e4);obtain rfl:[Value.int .i64 k1,.string (bs t1),.slice a1 n1 c1']=cs':=by have:=congrArg (fun v=>match v with|Value.agg c=>c.toList|_=>[]) hcs';simpa using this
             have hRv:eV.R h4 O3 (lG 4 0 t [] k1 t1 a1 n1 c1' ua un uc) (.mk 4 0 t [] (l.getD 0 bJ) env):=A7 hRk hen4;refine bI 8 rfl (fun h' e=>av (H.Bn _ _ _ _ _ _ _ _) rfl) ?_;refine kX 9 rfl (aY rfl rfl ((k63.ah e4)) gI) ?_;rintro _ h9 ⟨rfl,k9,x9,z9⟩;refine⟨nofun,?_⟩;refine aI 10 ?_;refine iT ?_;refine ct (cj rfl k9.row (eo cq)) ?_;exact⟨_,rfl,_,rfl,cW.of (eV.mv hRv (cR m3.1 o6 x9)),(b3.ah e4).ext x9 (by omega),(E03.trans (e4.mono fun _ _ q=>q.elim)).bH x9 (fun b hb q=>by omega)⟩
           · rw[if_neg c8];refine af ?_;refine aR (fun c10=>?_) (fun c10=>?_)
             · rw[if_pos c10]
               have hkids:∀x∈l,Cl bz x/\x.wt<=1000000:=fun x hx=>by
                obtain⟨i,hi,rfl⟩:=List.getElem_of_mem hx;have hgi:l.getD i bJ=l[i]:=getD_at (List.getElem?_eq_getElem hi);have h1:=hc.rR i;have h2:=cS hw i;rw[hgi] at h1 h2;exact⟨h1,h2⟩
               refine af ?_;refine xp rfl (aA rfl (k53.cell (i:=2) rfl)) ?_;refine xo rfl (aE rfl (Da ih I3 hm hks3.shut hkids)) ?_;rintro _ h4 ⟨v4,rfl,hv4,b4,e4⟩;have z4:=e4.size;obtain⟨nk',nt',xa',xn',xc',ea',en',ec',rfl,_,hR4,_⟩:=cW.get hv4;refine af ?_;refine aM rfl (aY rfl rfl ((k63.ext e4 (by omega))) gI) ?_;rintro _ h9 ⟨rfl,k9,x9,z9⟩;refine af ?_;refine ct (cj rfl k9.row (eo cq)) ?_;exact⟨_,rfl,_,rfl,cW.of (eV.mv hR4 (cR m3.1 o6 x9)),b4.ext x9 (by omega),(E03.trans e4).bH x9 (fun b hb q=>by omega)⟩
             · rw[if_neg c10];refine af ?_;refine aR (fun c7=>?_) (fun c7=>?_)
               · rw[if_pos c7];subst c7;refine af ?_;refine xp rfl (bY rfl k53.row) ?_;refine xo rfl (aE rfl (GS ih I3 hm hn3 hc hw)) ?_;rintro _ h4 ⟨v4,rfl,hv4,b4,e4⟩;have z4:=e4.size;obtain⟨nk',nt',xa',xn',xc',ea',en',ec',rfl,_,hR4,_⟩:=cW.get hv4;refine af ?_;refine aM rfl (aY rfl rfl ((k63.ext e4 (by omega))) gI) ?_;rintro _ h9 ⟨rfl,k9,x9,z9⟩;refine af ?_;refine ct (cj rfl k9.row (eo cq)) ?_;exact⟨_,rfl,_,rfl,cW.of (eV.mv hR4 (cR m3.1 o6 x9)),b4.ext x9 (by omega),(E03.trans e4).bH x9 (fun b hb q=>by omega)⟩
               · rw[if_neg c7];refine af ?_;refine aR (fun c6=>?_) (fun c6=>?_)
                 · rw[if_pos c6];subst c6;refine af ?_;refine xp rfl (bY rfl k53.row) ?_;refine xo rfl (aE rfl (Be ih I3 hm hn3 hc hw)) ?_;rintro _ h4 ⟨v4,rfl,hv4,b4,e4⟩;have z4:=e4.size;obtain⟨nk',nt',xa',xn',xc',ea',en',ec',rfl,_,hR4,_⟩:=cW.get hv4;refine af ?_;refine aM rfl (aY rfl rfl ((k63.ext e4 (by omega))) gI) ?_;rintro _ h9 ⟨rfl,k9,x9,z9⟩;refine af ?_;refine ct (cj rfl k9.row (eo cq)) ?_;exact⟨_,rfl,_,rfl,cW.of (eV.mv hR4 (cR m3.1 o6 x9)),b4.ext x9 (by omega),(E03.trans e4).bH x9 (fun b hb q=>by omega)⟩
                 · rw[if_neg c6];refine af ?_;refine aR (fun c9=>?_) (fun c9=>?_)
                   · rw[if_pos c9];subst c9;refine af ?_;refine xp rfl (bY rfl k53.row) ?_;refine xo rfl (aE rfl (EJ hg.ex ih I3 hm hn3 hc hw)) ?_;rintro _ h4 ⟨v4,rfl,hv4,b4,e4⟩;have z4:=e4.size;obtain⟨nk',nt',xa',xn',xc',ea',en',ec',rfl,_,hR4,_⟩:=cW.get hv4;refine af ?_;refine aM rfl (aY rfl rfl ((k63.ext e4 (by omega))) gI) ?_;rintro _ h9 ⟨rfl,k9,x9,z9⟩;refine af ?_;refine ct (cj rfl k9.row (eo cq)) ?_;exact⟨_,rfl,_,rfl,cW.of (eV.mv hR4 (cR m3.1 o6 x9)),b4.ext x9 (by omega),(E03.trans e4).bH x9 (fun b hb q=>by omega)⟩
                   · rw[if_neg c9];refine af ?_;refine aR (fun c4=>?_) (fun c4=>?_)
                     · rw[if_pos c4];subst c4;have hv1:1<=l.length:=hv1;obtain⟨b1,o1',k1,t1,a1,n1,c1',ha1,hb1,hr1,hk1⟩:=iW hks3 (i:=0) (by omega);have hih:=ih I3 hm hk1 (hc.rR 0) (cS hw 0);unfold HO;generalize aU d m env (l.getD 0 bJ)=o at hih ⊢;obtain⟨v,e,m'⟩:=o;dsimp only at hih ⊢;refine af ?_;refine xp rfl (aA rfl (k53.cell (i:=2) rfl)) ?_;refine xp rfl (cz rfl rfl 0 rfl ha1) ?_;refine xp rfl (bY rfl hr1) ?_;refine xo rfl (aE rfl hih) ?_;rintro _ h4 ⟨v4,rfl,hv4,b4,e4⟩;dsimp only at hv4 b4;obtain⟨nk,nt,xa,xn,xc,ea,en,ec,rfl,_,hR4,_⟩:=cW.get hv4;refine af ?_;refine xo rfl (cO) ?_;rintro _ h5 ⟨rfl,k8,e5,z5⟩;refine aM rfl (aY rfl rfl k8 gI) ?_;rintro _ h6 ⟨rfl,k86,x6,z6⟩;have k86:aD h6 h4.size 42 (lG v.kind v.num v.fE v.self nk nt xa xn xc ea en ec):=k86;have e46:aj h4 h6:=aj.only e5 x6 (Nat.le_refl _);have z4:=And.intro e4.size e46.size;have E06:=(E03.trans e4).trans (e46.mono fun _ _ q=>q.elim);have k66:=(k63.ext e4 (by omega)).ah e46;have k56:=(k53.ext e4 (by omega)).ah e46;have b6:=b4.ah e46;refine af ?_;refine aR (fun he=>?_) (fun he=>?_)
                       · rw[if_pos he];refine af ?_;refine xp rfl (av (H.dO ) rfl) ?_;refine af ?_;refine aM rfl (aY rfl rfl k66) ?_;rintro _ h9 ⟨rfl,k9,x9,z9⟩;refine af ?_;refine ct (cj rfl k9.row (eo cq)) ?_;exact⟨_,rfl,_,rfl,gN _ _,(b6).ext x9 (by omega),(E06).bH x9 (fun b hb q=>by omega)⟩
                       · rw[if_neg he];refine af ?_;refine xp rfl (aA rfl (k56.cell (i:=1) rfl)) ?_;refine xp rfl (bY rfl k86.row) ?_;refine xo rfl (aE rfl (BP (O:=O3) (x:=v) (cW.of (eV.mv hR4 (Mv.ah e46))) t)) ?_;rintro _ h7 ⟨v7,rfl,hv7,e7⟩;obtain⟨nk',nt',xa',xn',xc',ea',en',ec',rfl,_,hR7,_⟩:=cW.get hv7;have z7:=e7.size;refine af ?_;refine aM rfl (aY rfl rfl ((k66.ah e7)) gI) ?_;rintro _ h9 ⟨rfl,k9,x9,z9⟩;refine af ?_;refine ct (cj rfl k9.row (eo cq)) ?_;exact⟨_,rfl,_,rfl,cW.of (eV.mv hR7 (cR m3.1 o6 x9)),(b6.ah e7).ext x9 (by omega),(E06.trans (e7.mono fun _ _ q=>q.elim)).bH x9 (fun b hb q=>by omega)⟩
                     · rw[if_neg c4]
                       obtain rfl:k=5:=by
                        rcases hc with q|q
                        · rw[V,cA,Bool.and_eq_true] at q;have h1:=q.1;unfold jJ at h1;simp only[Bool.and_eq_true,decide_eq_true_eq] at h1;omega
                        · cases q;exact absurd rfl c0
                       refine af ?_;refine xp rfl (bY rfl k53.row) ?_;refine xo rfl (aE rfl (Bj ih I3 hm hn3 hc hw)) ?_;rintro _ h4 ⟨v4,rfl,hv4,b4,e4⟩;have z4:=e4.size;obtain⟨nk',nt',xa',xn',xc',ea',en',ec',rfl,_,hR4,_⟩:=cW.get hv4;refine af ?_;refine aM rfl (aY rfl rfl ((k63.ext e4 (by omega))) gI) ?_;rintro _ h9 ⟨rfl,k9,x9,z9⟩;refine af ?_;refine ct (cj rfl k9.row (eo cq)) ?_;exact⟨_,rfl,_,rfl,cW.of (eV.mv hR4 (cR m3.1 o6 x9)),b4.ext x9 (by omega),(E03.trans e4).bH x9 (fun b hb q=>by omega)⟩
theorem wN {hb:ai}(hg:E2 hb) (rb B:Nat):∀d,NF hb rb B d
 | 0=>by
  intro I hm hn hc hw;rename_i O h m ev nv env n;obtain rfl:m=0:=by omega
  exact zJ I hn
 |d+1=>by
  intro I hm hn hc hw;rename_i O h m ev nv env n;cases m with
  |zero=>exact zJ I hn
  |succ m =>
   obtain⟨k,t,l⟩:=n;exact He hg (wN hg rb B d) I (by omega) hn hc hw
def cN (env:List Bd) (n:Tr):Vl×Int×Int:=if cA bz n=true then ((if (aU 2000 2000 env n).2.1=0 then (aU 2000 2000 env n).1 else iV),2000-((aU 2000 2000 env n).2.2:Int),(aU 2000 2000 env n).2.1) else (iV,0,10)
theorem E3 (hg:E2 h){n:Tr}(hv:aT eB h O ev env) (hO:∀b,O b->b<h.size) (hok:vE 90000000 env) (hn:eF h O nv n) (hw:n.wt<=1000000) :
 aq Tryz.prog 22 #[ev,nv] h (bw fun r h'=>∃v,r=packed [v,.int .i64 (cN env n).2.1,.int .i64 (cN env n).2.2]/\cW h' O v (cN env n).1/\aj h h'):=by
 obtain⟨k,t,l⟩:=n;obtain⟨na,nn,nc,rfl,hR,hks⟩:=nQ hn;refine bL ?_;refine af ?_;refine xo rfl (jj) ?_;rintro _ h1 ⟨rfl,k3,e1,z1⟩;refine xo rfl (cO) ?_;rintro _ h2 ⟨rfl,k4,e2,z2⟩;have e12:=e1.trans e2;have k3:aD h2 h.size 39 [.int .i64 k,.string (bs t),.slice na nn nc]:=k3.ah e2;refine af ?_;refine xp rfl (bY rfl k3.row) ?_;refine xo rfl (aE rfl (nA hw (hg.ex.ah e12) (hn.mv (Mv.ah e12)))) ?_;rintro _ h3 ⟨rfl,e3⟩;have e13:=e12.trans e3;have k43:=k4.ah e3;have k33:=k3.ah e3;have zz:=And.intro e12.size e3.size;unfold cN;refine af ?_;refine iM (fun hq=>?_) (fun hq=>?_)
 · have hq:¬cA bz (.mk k t l)=true:=by simpa using hq
   rw[if_neg hq];refine af ?_;refine xp rfl (av (H.dO ) rfl) ?_;refine aM rfl (aY rfl rfl k43) ?_;rintro _ h4 ⟨rfl,k44,x4,z4⟩;refine af ?_;refine ct (cj rfl k44.row (eo (eo cq))) ?_;exact⟨_,rfl,_,rfl,gN _ _,aj.only e13 x4 (by omega)⟩
 · have hq:cA bz (.mk k t l)=true:=by simpa using hq
   rw[if_pos hq];refine af ?_;refine xp rfl (av (H.Nr ) rfl) ?_;refine xo rfl (jj) ?_;rintro _ h4 ⟨rfl,k7,e4,z4⟩;have k7:aD h4 h3.size 103 [.int .i64 (2000-((2000:Nat):Int))]:=k7;have e14:=e13.trans e4;have m4:=cL O h h4;obtain⟨O4,hO4⟩:∃O4,O4=upTo O h h4:=⟨_,rfl⟩
   rw[<-hO4] at m4;have I4:qE h h3.size 100000000 O4 h4 2000 ev env:=⟨e14,k7,fun b q=>by rw[hO4] at q;exact jm hO e14.size b q,by rw[hO4];exact .inr (by omega),hv.mv (m4.tA e14),hok.le (by decide),by decide,Nat.le_refl _,Nat.le_refl _,by omega⟩
   have hih:=wN hg h3.size 100000000 2000 I4 (Nat.le_refl _) (hn.mv (m4.tA e14)) (.inl hq) hw;generalize aU 2000 2000 env (.mk k t l)=o at hih ⊢;obtain⟨v,e,m'⟩:=o;dsimp only at hih ⊢;have k44:=k43.ah e4;refine af ?_;refine xp rfl (bY rfl (k33.ah e4).row) ?_;refine xo rfl (aE rfl hih) ?_;rintro _ h5 ⟨v5,rfl,hv5,b5,e5⟩;dsimp only at hv5 b5;obtain⟨nk,nt,xa,xn,xc,ea,en,ec,rfl,_,hR5,_⟩:=cW.get hv5;refine af ?_;refine aM rfl (aY rfl rfl ((k44.ext e5 (by omega))) gI) ?_;rintro _ h6 ⟨rfl,k46,x6,z6⟩;have k46:aD h6 h1.size 42 (lG v.kind v.num v.fE v.self nk nt xa xn xc ea en ec):=k46;have z5:=e5.size;have z56:=x6.size;have o6:O4 h1.size:=by rw[hO4];exact .inr (by omega)
   have b6:=b5.ext x6 (by omega);have e06:aj h h6:=⟨by omega,fun b hb _=>by rw[x6.block b (by omega) (by omega),e5.block b (by omega) (by omega)];exact e14.block b hb (fun k=>k)⟩
   have hR6:=eV.mv hR5 (cR (fun _ q=>q) o6 x6);have hr6:¬h3.size=h1.size:=by omega
   refine af ?_;refine aR (fun he=>?_) (fun he=>?_)
   · rw[if_neg he];refine af ?_;refine me 9 (fun b=>b=h1.size\/h6.size<=b) (fun i=>Nat.blt i 9) ?_;refine bI 0 rfl (fun h' e=>av (H.dO ) rfl) ?_;refine aI 1 ?_;refine aI 2 ?_;refine aI 3 ?_;refine bI 4 rfl (fun h' e=>aA rfl (e.cell (by dsimp only;omega) (b6.cell (i:=0) rfl))) ?_;refine aI 5 ?_;refine kX 6 rfl (aY rfl rfl k46) ?_;rintro _ h7 ⟨rfl,k47,x7,z7⟩;refine⟨fun _=>x7.mono (fun b _ q=>.inl q),?_⟩;refine aI 7 ?_;refine aI 8 ?_;refine iT ?_;refine ct (cj rfl k47.row (eo (eo cq))) ?_;exact⟨_,rfl,_,rfl,gN _ _,aj.only e06 x7 (by omega)⟩
   · have he:=Classical.not_not.1 he;subst he;rw[if_pos rfl];refine af ?_;refine me 8 (fun b=>h6.size<=b) (fun i=>Nat.blt i 8) ?_;refine bI 0 rfl (fun h' e=>bY rfl (e.rowAt (by omega) k46.row)) ?_;refine aI 1 ?_;refine aI 2 ?_;refine aI 3 ?_;refine bI 4 rfl (fun h' e=>aA rfl (e.cell (by dsimp only;omega) (b6.cell (i:=0) rfl))) ?_;refine kX 5 rfl (aY rfl rfl k46 gI) ?_;rintro _ h7 ⟨rfl,k47,x7,z7⟩;refine⟨fun _=>(jL k46 k47 x7).mono (fun _ _ q=>q.elim),?_⟩;refine aI 6 ?_;refine aI 7 ?_;refine iT ?_;refine ct (cj rfl k47.row (eo (eo cq))) ?_;exact⟨_,rfl,_,rfl,cW.of (eV.mv hR6 (cR m4.1 o6 x7)),aj.only e06 x7 (by omega)⟩
theorem A5 (hg:rM h) (n:Int) (hn : -9223372036854775808<=n/\n<=9223372036854775807) :
 aq Tryz.prog 32 #[.int .i64 n,.int .i64 10] h (bw fun r h'=>r= .string (bs (Lib.itoa n))/\aj h h'):=by
 refine aq.oK fun w hw=>?_
 subst hw;refine(Tryz.strconv_FormatInt_10 n hn.1 hn.2 w hg).mono ?_;rintro e w' ⟨rfl,k,os,rfl⟩;refine⟨_,rfl,⟨rfl,?_⟩,rfl,rfl,rfl⟩;refine⟨by simp[Go.Sort.grow],fun b hb _=>?_⟩;simp[Go.Sort.grow,Array.getElem?_append_left hb]
theorem yu (b:Bool):aq Tryz.prog 33 #[.bool b] h (bw fun r h'=>r= .string (bs (Lib.formatBool b))/\h'=h) :=
 aq.qQ fun w=>Tryz.strconv_FormatBool b w
theorem mK {enc:α->Value}{base:Nat}{T:TypeId}{va:Option Addr}{vn vc:Nat}{xs:List α}(k:bN enc h base T (.slice va vn vc) xs) (i:Nat){x:α}(hx:xs[i]? =some x) :
 ∃g,va=some ⟨g,0,none⟩/\i<vn/\vn=xs.length/\cellAt h ⟨g,0+i*1,none⟩=some (enc x):=by
 obtain⟨g,c,hv,_,_,hc,_⟩:=k.at hx;cases hv;exact⟨g,rfl,(List.getElem?_eq_some_iff.1 hx).1,rfl,hc⟩
theorem MW {l:List α}(h:l.length=1):∃a,l=[a]:=List.length_eq_one_iff.1 h
theorem MV {l:List α}(h:l.length=2):∃a b,l=[a,b]:=by
 match l,h with
 | [a,b],_=>exact⟨a,b,rfl⟩
theorem OL {l:List α}(h:l.length=3):∃a b c,l=[a,b,c]:=by
 match l,h with
 | [a,b,c],_=>exact⟨a,b,c,rfl⟩
theorem KE {k:Int}(hw:(Tr.mk k t l).wt<=1000000) (hva:cA bz (.mk k t l)=true) (hsk:∀y∈l,xK y) (hch:k=6->zU (.mk k t l)):xK (.mk k t l):=by
 intro h O v hg hv;obtain⟨w,rfl,hw0⟩:=id hv.open;obtain⟨a,n,c,rfl,hws⟩:=id hw0.open;have hn:l.length=n:=hws.len;subst hn;have hcap:=hws.cap;have hle:=hws.le;simp only[maxLen] at hcap;have wt0:=E5 k t l;have qt:=aG t
 have hkl:∀y∈l,(bs (bq false y)).size<=1000000:=fun y hy=>by
  have:=rS (k:=k) (t:=t) hy;have:=iN y false;rw[aG];omega
 have hsum:(gP (l.map (bq false))).length<=1000000:=by
  have h1:=wq (gM false 0 l);have h2:=qK l false 0;have h3:=mG l false 0;rw[<-rW l 0];have h4:(Tr.mk k t l).wt=2*t.length+20+nr l:=by rw[Tr.wt]
  omega
 rw[rT,u7,Bool.and_eq_true,Bool.and_eq_true] at hva;obtain⟨⟨hbd,_⟩,hvq⟩:=hva;have hbd:(0<=k/\k<=10)/\(dF k).1<=l.length/\l.length<=(dF k).2:=of_decide_eq_true hbd
 have hll:l.length<=1000000:=by
  have h2:=qK l false 0;have h4:(Tr.mk k t l).wt=2*t.length+20+nr l:=by rw[Tr.wt]
  omega
 have m40:(⟨#[40]⟩:ByteArray).size=1:=rfl;have m41:(⟨#[41]⟩:ByteArray).size=1:=rfl;have m32:(⟨#[32]⟩:ByteArray).size=1:=rfl;have mlet:(⟨#[108,101,116,32]⟩:ByteArray).size=4:=rfl;have mlet2:(⟨#[40,108,101,116,32]⟩:ByteArray).size=5:=rfl;have meq:(⟨#[32,61,32]⟩:ByteArray).size=3:=rfl;have min_:(⟨#[32,105,110,32]⟩:ByteArray).size=4:=rfl;have mfun:(⟨#[40,102,117,110,32]⟩:ByteArray).size=5:=rfl;have marr:(⟨#[32,45,62,32]⟩:ByteArray).size=4:=rfl;have mopn:(⟨#[123,32]⟩:ByteArray).size=2:=rfl;have mcls:(⟨#[32,125]⟩:ByteArray).size=2:=rfl;refine bL ?_;refine af ?_;refine xo rfl (jj) ?_;rintro _ h1 ⟨rfl,k1,e1,z1⟩;have k1:aD h1 h.size 39 (Aa k t a l.length c):=k1;refine af ?_;refine xp rfl (aA rfl (k1.cell (i:=2) rfl)) ?_;refine af ?_;refine gY (σ:=Nat×Value) (fun w=>[(3,w.2),(9,.int .i64 (w.1:Nat))]) (fun w g=>w.1<=l.length/\aj h1 g/\bN encS g h1.size 9 w.2 ((l.map (bq false)).take w.1)) (fun w=>l.length-w.1) ((0,.slice none 0 0)) ⟨Nat.zero_le _,Ext.refl _ _,bN.nil _ _ _ _⟩ rfl ?_;rintro⟨i,ov⟩ g ⟨hi,eg,ho⟩ ih
 try dsimp only
 dsimp only at hi ho;have kg:=k1.ah eg;have e0g:=e1.trans eg;have hho:aB g h1.size 9 1 ov ((l.map (bq false)).take i).length (((l.map (bq false)).take i).map encS):=ho;have hlt0:((l.map (bq false)).take i).length=i:=by rw[List.length_take,List.length_map];omega
 rw[hlt0] at hho;obtain⟨va,vc,rfl,_⟩:=hho.open;refine af ?_;refine aR (fun hlt=>?_) (fun hlt=>?_)
 · have hil:i<l.length:=by omega
   obtain⟨b,o,x,xk,xt,xa,xn,xc,ha,hx,hrow,hnx,_,_⟩:=wk (hws.mv (Mv.ah e0g)) hil;have hxm:x∈l:=List.mem_of_getElem? hx
   iterate 4 refine aX ?_
   refine cD ?_;refine xp rfl (cz rfl rfl i rfl ha) ?_;refine xp rfl (bY rfl hrow) ?_;refine xo rfl (cO) ?_;rintro _ g1 ⟨rfl,kn,e3,z3⟩;refine aM rfl (aY rfl rfl kn lq) ?_;rintro _ g2 ⟨rfl,kx,x2,z2⟩;have kx:aD g2 g.size 39 (Aa xk xt xa xn xc):=kx;have eg2:aj g g2:=aj.only e3 x2 (Nat.le_refl _);have hcall:=hsk x hxm g2 O _ (hg.ah (e0g.trans eg2)) (hnx.mv (Mv.ah eg2));refine af ?_;refine xp rfl (bY rfl kx.row) ?_;refine xo rfl (aE rfl hcall) ?_;rintro _ g3 ⟨rfl,e4⟩;have e24:=eg2.trans e4;refine xo rfl (iL [_]) ?_;rintro _ _ ⟨rfl,rfl⟩;refine xo rfl (uH rfl rfl ((hho.CW e24)) rfl rfl (by omega) (by have:=eg.size;have:=e24.size;omega)) ?_;rintro v5 g5 ⟨ho5,hx5,hx5',hv5⟩
   have ho5:bN encS g5 h1.size 9 v5 ((l.map (bq false)).take (i+1)):=by
    rw[List.take_add_one,List.getElem?_map,hx];exact bN.of ho5 hlt0.symm rfl rfl
   refine af ?_;exact ih (i+1,v5) ⟨hil,Ext.own (eg.trans e24) (hho.CW e24) (Nat.le_refl _) hx5,ho5⟩
 · obtain rfl:i=l.length:=by omega
   rw[show (l.map (bq false)).take l.length=l.map (bq false) from List.take_of_length_le (by simp)] at ho;refine af ?_;refine xp rfl (aA rfl (kg.cell (i:=0) rfl)) ?_;refine af ?_;refine aR (fun c1=>?_) (fun c1=>?_)
   · refine af ?_;refine xp rfl (aA rfl (kg.cell (i:=1) rfl)) ?_;refine xo rfl (aE rfl (Cd (hg.ah e0g).esc t (by omega))) ?_;rintro _ g2 ⟨rfl,e2⟩;refine af ?_;refine bp ?_;exact⟨_,rfl,by rw[ir (by omega),c1];rfl,e0g.trans e2⟩
   · refine af ?_;refine aR (fun c4=>?_) (fun c4=>?_)
     · subst c4;have hbd2:1<=l.length/\l.length<=1:=hbd.2;obtain⟨x0,rfl⟩:=MW (show l.length=1 by omega);have hb0:=hkl x0 (by simp);obtain⟨rg,rfl,_,_,hc0⟩:=mK ho 0 (x:=bq false x0) rfl;refine af ?_;refine cG rfl (aA rfl (kg.cell (i:=1) rfl)) ?_;refine cG rfl (ay.aH rfl rfl (by first|omega|(simp only[ByteArray.size_append];omega))) ?_;refine cG rfl (ay.aH rfl rfl (by first|omega|(simp only[ByteArray.size_append];omega))) ?_;refine ud ?_;refine cG rfl (cz rfl rfl 0 rfl rfl (by simp)) ?_;refine cG rfl (aA rfl hc0) ?_;refine cG rfl (ay.aH rfl rfl (by first|omega|(simp only[ByteArray.size_append];omega))) ?_;refine cG rfl (ay.aH rfl rfl (by first|omega|(simp only[ByteArray.size_append];omega))) ?_;refine af ?_;refine bp ?_;refine⟨_,rfl,?_,e0g⟩;rw[ir (by decide)]
       show Value.string ((((bs [40]++bs t)++bs [32])++bs (bq false x0))++bs [41])=_
       simp only[br];rfl
     · refine af ?_;refine aR (fun c5=>?_) (fun c5=>?_)
       · subst c5;have hbd2:2<=l.length/\l.length<=2:=hbd.2;obtain⟨x0,x1,rfl⟩:=MV (show l.length=2 by omega);have hb0:=hkl x0 (by simp);have hb1:=hkl x1 (by simp);obtain⟨rg,rfl,_,_,hc0⟩:=mK ho 0 (x:=bq false x0) rfl;obtain⟨rg',hrg,_,_,hc1⟩:=mK ho 1 (x:=bq false x1) rfl;cases hrg;refine aX ?_;refine F4 ?_;refine ud ?_;refine cG rfl (cz rfl rfl 0 rfl rfl (by simp)) ?_;refine cG rfl (aA rfl hc0) ?_;refine cG rfl (ay.aH rfl rfl (by first|omega|(simp only[ByteArray.size_append];omega))) ?_;refine cG rfl (ay.aH rfl rfl (by first|omega|(simp only[ByteArray.size_append];omega))) ?_;refine af ?_;refine cG rfl (aA rfl (kg.cell (i:=1) rfl)) ?_;refine cG rfl (ay.aH rfl rfl (by first|omega|(simp only[ByteArray.size_append];omega))) ?_;refine cG rfl (ay.aH rfl rfl (by first|omega|(simp only[ByteArray.size_append];omega))) ?_;refine ud ?_;refine cG rfl (cz rfl rfl 1 rfl rfl (by simp)) ?_;refine cG rfl (aA rfl hc1) ?_;refine cG rfl (ay.aH rfl rfl (by first|omega|(simp only[ByteArray.size_append];omega))) ?_;refine cG rfl (ay.aH rfl rfl (by first|omega|(simp only[ByteArray.size_append];omega))) ?_;refine af ?_;refine bp ?_;refine⟨_,rfl,?_,e0g⟩;rw[ir (by decide)]
         show Value.string ((((((bs [40]++bs (bq false x0))++bs [32])++bs t)++bs [32])++bs (bq false x1))++bs [41])=_
         simp only[br];rfl
       · refine af ?_;refine aR (fun c6=>?_) (fun c6=>?_)
         · subst c6;have hbd2:3<=l.length/\l.length<=3:=hbd.2;have hcall:=hch rfl g O _ (hg.ah e0g) (hv.mv (Mv.ah e0g));have hpl:=iN (.mk 6 t l) true;have hq:=aG (bq true (.mk 6 t l));refine af ?_;refine xp rfl (bY rfl kg.row) ?_;refine xo rfl (aE rfl hcall) ?_;rintro _ g2 ⟨rfl,e2⟩;refine xp rfl (ay.aH rfl rfl (by first|omega|(simp only[ByteArray.size_append];omega))) ?_;refine xp rfl (ay.aH rfl rfl (by first|omega|(simp only[ByteArray.size_append];omega))) ?_;refine af ?_;refine bp ?_;refine⟨_,rfl,?_,e0g.trans e2⟩;obtain⟨x0,x1,x2,rfl⟩:=OL (show l.length=3 by omega);rw[KF,<-B4 t]
           show Value.string ((bs [40]++bs (bq true (.mk 6 t [x0,x1,x2])))++bs [41])=_
           simp only[br]
         · rw[ir c6];refine af ?_;refine aR (fun c7=>?_) (fun c7=>?_)
           · subst c7;have hbd2:1<=l.length/\l.length<=2:=hbd.2;refine af ?_;refine aR (fun hone=>?_) (fun hone=>?_)
             · obtain⟨x0,rfl⟩:=MW (show l.length=1 by omega);have hb0:=hkl x0 (by simp);obtain⟨rg,rfl,_,_,hc0⟩:=mK ho 0 (x:=bq false x0) rfl;refine af ?_;refine cG rfl (aA rfl (kg.cell (i:=1) rfl)) ?_;refine cG rfl (ay.aH rfl rfl (by first|omega|(simp only[ByteArray.size_append];omega))) ?_;refine cG rfl (ay.aH rfl rfl (by first|omega|(simp only[ByteArray.size_append];omega))) ?_;refine ud ?_;refine cG rfl (cz rfl rfl 0 rfl rfl (by simp)) ?_;refine cG rfl (aA rfl hc0) ?_;refine cG rfl (ay.aH rfl rfl (by first|omega|(simp only[ByteArray.size_append];omega))) ?_;refine af ?_;refine bp ?_;refine⟨_,rfl,?_,e0g⟩
               show Value.string (((bs [108,101,116,32]++bs t)++bs [32,61,32])++bs (bq false x0))=_
               simp only[br];rfl
             · obtain⟨x0,x1,rfl⟩:=MV (show l.length=2 by omega);have hb0:=hkl x0 (by simp);have hb1:=hkl x1 (by simp);obtain⟨rg,rfl,_,_,hc0⟩:=mK ho 0 (x:=bq false x0) rfl;obtain⟨rg',hrg,_,_,hc1⟩:=mK ho 1 (x:=bq false x1) rfl;cases hrg;refine af ?_;refine cG rfl (aA rfl (kg.cell (i:=1) rfl)) ?_;refine cG rfl (ay.aH rfl rfl (by first|omega|(simp only[ByteArray.size_append];omega))) ?_;refine cG rfl (ay.aH rfl rfl (by first|omega|(simp only[ByteArray.size_append];omega))) ?_;refine ud ?_;refine cG rfl (cz rfl rfl 0 rfl rfl (by simp)) ?_;refine cG rfl (aA rfl hc0) ?_;refine cG rfl (ay.aH rfl rfl (by first|omega|(simp only[ByteArray.size_append];omega))) ?_;refine cG rfl (ay.aH rfl rfl (by first|omega|(simp only[ByteArray.size_append];omega))) ?_;refine ud ?_;refine cG rfl (cz rfl rfl 1 rfl rfl (by simp)) ?_;refine cG rfl (aA rfl hc1) ?_;refine cG rfl (ay.aH rfl rfl (by first|omega|(simp only[ByteArray.size_append];omega))) ?_;refine cG rfl (ay.aH rfl rfl (by first|omega|(simp only[ByteArray.size_append];omega))) ?_;refine af ?_;refine bp ?_;refine⟨_,rfl,?_,e0g⟩
               show Value.string ((((((bs [40,108,101,116,32]++bs t)++bs [32,61,32])++bs (bq false x0))++bs [32,105,110,32])++bs (bq false x1))++bs [41])=_
               simp only[br];rfl
           · refine af ?_;refine aR (fun c8=>?_) (fun c8=>?_)
             · subst c8;have hbd2:1<=l.length/\l.length<=1:=hbd.2;obtain⟨x0,rfl⟩:=MW (show l.length=1 by omega);have hb0:=hkl x0 (by simp);obtain⟨rg,rfl,_,_,hc0⟩:=mK ho 0 (x:=bq false x0) rfl;refine af ?_;refine cG rfl (aA rfl (kg.cell (i:=1) rfl)) ?_;refine cG rfl (ay.aH rfl rfl (by first|omega|(simp only[ByteArray.size_append];omega))) ?_;refine cG rfl (ay.aH rfl rfl (by first|omega|(simp only[ByteArray.size_append];omega))) ?_;refine ud ?_;refine cG rfl (cz rfl rfl 0 rfl rfl (by simp)) ?_;refine cG rfl (aA rfl hc0) ?_;refine cG rfl (ay.aH rfl rfl (by first|omega|(simp only[ByteArray.size_append];omega))) ?_;refine cG rfl (ay.aH rfl rfl (by first|omega|(simp only[ByteArray.size_append];omega))) ?_;refine af ?_;refine bp ?_;refine⟨_,rfl,?_,e0g⟩
               show Value.string ((((bs [40,102,117,110,32]++bs t)++bs [32,45,62,32])++bs (bq false x0))++bs [41])=_
               simp only[br];rfl
             · refine af ?_;refine aR (fun c9=>?_) (fun c9=>?_)
               · subst c9;have hbd2:2<=l.length/\l.length<=2:=hbd.2;obtain⟨x0,x1,rfl⟩:=MV (show l.length=2 by omega);have hb0:=hkl x0 (by simp);have hb1:=hkl x1 (by simp);obtain⟨rg,rfl,_,_,hc0⟩:=mK ho 0 (x:=bq false x0) rfl;obtain⟨rg',hrg,_,_,hc1⟩:=mK ho 1 (x:=bq false x1) rfl;cases hrg;refine aX ?_;refine F4 ?_;refine ud ?_;refine cG rfl (cz rfl rfl 0 rfl rfl (by simp)) ?_;refine cG rfl (aA rfl hc0) ?_;refine cG rfl (ay.aH rfl rfl (by first|omega|(simp only[ByteArray.size_append];omega))) ?_;refine ud ?_;refine cG rfl (cz rfl rfl 1 rfl rfl (by simp)) ?_;refine cG rfl (aA rfl hc1) ?_;refine cG rfl (ay.aH rfl rfl (by first|omega|(simp only[ByteArray.size_append];omega))) ?_;refine cG rfl (ay.aH rfl rfl (by first|omega|(simp only[ByteArray.size_append];omega))) ?_;refine af ?_;refine bp ?_;refine⟨_,rfl,?_,e0g⟩
                 show Value.string (((bs (bq false x0)++bs [40])++bs (bq false x1))++bs [41])=_
                 simp only[br];rfl
               · refine af ?_;refine aR (fun c10=>?_) (fun c10=>?_)
                 · subst c10;have hq:=aG (gP (l.map (bq false)));refine af ?_;refine xo rfl (aE rfl (E0 (bN.read (h1:=fun _=>rfl) ho (fun _ _ k=>k)) (by omega))) ?_;rintro _ g2 ⟨rfl,e2⟩;refine xp rfl (ay.aH rfl rfl (by first|omega|(simp only[ByteArray.size_append];omega))) ?_;refine xp rfl (ay.aH rfl rfl (by first|omega|(simp only[ByteArray.size_append];omega))) ?_;refine af ?_;refine bp ?_;refine⟨_,rfl,?_,e0g.trans e2⟩
                   show Value.string ((bs [123,32]++bs (gP (l.map (bq false))))++bs [32,125])=_
                   simp only[br];rfl
                 · refine af ?_;refine xp rfl (aA rfl (kg.cell (i:=1) rfl)) ?_;refine af ?_;refine bp ?_;refine⟨_,rfl,?_,e0g⟩;unfold u6;rw[if_neg c1,if_neg c4,if_neg c5,if_neg c6,if_neg c7,if_neg c8,if_neg c9,if_neg c10];rfl
theorem Io:∀(d:Nat) (x:Tr),x.dep<=d->x.wt<=1000000->cA bz x=true->xK x/\(x.kind=6->zU x):=by
 intro d
 induction d with
 |zero=>intro x hx;cases x with|mk k t l=>simp[Tr.dep] at hx
 |succ d ih =>
 intro x hd hw hva;cases x with
 |mk k t l =>
  have hva0:=hva;rw[rT,u7,Bool.and_eq_true,Bool.and_eq_true] at hva;obtain⟨⟨hbd,_⟩,hvq⟩:=hva;have hbd:(0<=k/\k<=10)/\(dF k).1<=l.length/\l.length<=(dF k).2:=of_decide_eq_true hbd;have hk:∀y∈l,xK y/\(y.kind=6->zU y):=fun y hy=>ih y (by have:=FN (k:=k) (t:=t) hy;omega) (by have:=rS (k:=k) (t:=t) hy;omega) (yI hvq hy)
  have hch:k=6->zU (.mk k t l):=fun q=>by
   subst q;have hbd2:3<=l.length/\l.length<=3:=hbd.2;obtain⟨x0,x1,x2,rfl⟩:=OL (show l.length=3 by omega);exact Ho hw (hk x0 (by simp)).1 (hk x1 (by simp)).1 (hk x2 (by simp)).1 (hk x2 (by simp)).2
  exact⟨KE hw hva0 (fun y hy=>(hk y hy).1) hch,hch⟩
def pV (x:Tr):By:=if cA bz x=true then bq false x else []
theorem xJ {x:Tr}(hw:x.wt<=1000000){v:Value}(hg:Hy h) (hv:eF h O v x):aq Tryz.prog 34 #[v] h (bw fun r h'=>r= .string (bs (pV x))/\aj h h'):=by
 obtain⟨k,t,a,n,c,rfl,hR⟩:=id hv.get;refine bL ?_;refine af ?_;refine xo rfl (jj) ?_;rintro _ h1 ⟨rfl,k1,e1,z1⟩;refine af ?_;refine xp rfl (bY rfl k1.row) ?_;refine xo rfl (aE rfl (nA hw (hg.ah e1) (hv.mv (Mv.ah e1)))) ?_;rintro _ h2 ⟨rfl,e2⟩;refine af ?_;refine iM (fun hb=>?_) (fun hb=>?_)
 · have hb:cA bz x=false:=by simpa using hb
   refine af ?_;refine bp ?_;exact⟨_,rfl,by unfold pV;rw[hb];rfl,e1.trans e2⟩
 · have hb:cA bz x=true:=by simpa using hb
   have hcall:=(Io _ x (Nat.le_refl _) hw hb).1 h2 O _ (hg.ah (e1.trans e2)) (hv.mv (Mv.ah (e1.trans e2)));refine af ?_;refine xp rfl (bY rfl (k1.ah e2).row) ?_;refine xo rfl (aE rfl hcall) ?_;rintro _ h3 ⟨rfl,e3⟩;refine af ?_;refine bp ?_;exact⟨_,rfl,by unfold pV;rw[if_pos hb];rfl,(e1.trans e2).trans e3⟩
def je (x:Vl):By:=if x.kind=1 then Lib.itoa x.num else if x.kind=2 then Lib.formatBool (decide (x.num≠0)) else if x.kind=3 then pV (.mk 1 x.fE []) else if x.kind=4 then pV (.mk 8 x.fE [x.body]) else []
theorem tY (hg:E2 h){w:Value}{x:Vl}(hw:cW h O w x) (hn:x.kind=1-> -9223372036854775808<=x.num/\x.num<=9223372036854775807) (ht:x.fE.length<=100000) (hbw:x.body.wt<=700000) :
 aq Tryz.prog 16 #[w] h (bw fun r h'=>r= .string (bs (je x))/\aj h h'):=by
 obtain⟨nk,nt,a,n,c,ea,en,ec,rfl,hb,hR,he⟩:=cW.get hw;unfold je;refine bL ?_;refine af ?_;refine xo rfl (jj) ?_;rintro _ h1 ⟨rfl,k1,e1,z1⟩;have k1:aD h1 h.size 42 (lG x.kind x.num x.fE x.self nk nt a n c ea en ec):=k1;have hg1:=hg.ah e1;refine af ?_;refine xp rfl (aA rfl (k1.cell (i:=0) rfl)) ?_;refine af ?_;refine aR (fun c1=>?_) (fun c1=>?_)
 · rw[if_pos c1];refine af ?_;refine xp rfl (aA rfl (k1.cell (i:=1) rfl)) ?_;refine xo rfl (aE rfl (A5 hg1.ex.lx.tens x.num (hn c1))) ?_;rintro _ h2 ⟨rfl,e2⟩;refine af ?_;refine bp ?_;exact⟨_,rfl,rfl,e1.trans e2⟩
 · rw[if_neg c1];refine af ?_;refine aR (fun c2=>?_) (fun c2=>?_)
   · rw[if_pos c2];refine af ?_;refine xp rfl (aA rfl (k1.cell (i:=1) rfl)) ?_;refine af ?_;refine xo rfl (aE rfl (yu _)) ?_;rintro _ _ ⟨rfl,rfl⟩;refine af ?_;refine bp ?_;exact⟨_,rfl,rfl,e1⟩
   · rw[if_neg c2];refine af ?_;refine aR (fun c3=>?_) (fun c3=>?_)
     · rw[if_pos c3];refine af ?_;refine xp rfl (aA rfl (k1.cell (i:=2) rfl)) ?_;refine xp rfl (av (H.ko _ _) rfl) ?_;refine xo rfl (aE rfl (xJ (x:=.mk 1 x.fE []) (by simp[Tr.wt,nr];omega) hg1.ex (eF.of (O:=O) (rB (aT.nil _ _ _))))) ?_;rintro _ h2 ⟨rfl,e2⟩;refine af ?_;refine bp ?_;exact⟨_,rfl,rfl,e1.trans e2⟩
     · rw[if_neg c3];refine af ?_;refine aR (fun c4=>?_) (fun c4=>?_)
       · rw[if_pos c4];have r4:Lw.rowAt h1 h.size 4 [.int .i64 nk,.string (bs nt),.slice a n c]:=uE (a:=[_,_,_,_]) (m:=[_,_,_]) (c:=[_]) k1;refine af ?_;refine xp rfl (aA rfl (k1.cell (i:=2) rfl)) ?_;refine af ?_;refine xp rfl (bY rfl r4) ?_;refine xo rfl (ue) ?_;rintro _ h2 ⟨rfl,hh2⟩;have e2:aj h1 h2:=by rw[hh2];exact Ext.push _ _ _
         have hkid:aT eN h2 (fun _=>False) (.slice (some ⟨h1.size,0,none⟩) 1 1) [x.body]:=by
          rw[hh2];exact lR (eN.mv hb (Mv.cx e1 fun b _ _=>⟨fun q=>q,fun q=>q⟩)) (fun q=>q)
         refine xp rfl (av (H.kf _ _ _ _ _) rfl) ?_;refine xo rfl (aE rfl (xJ (x:=.mk 8 x.fE [x.body]) (by simp[Tr.wt,nr];omega) (hg1.ah e2).ex (eF.of (rB hkid)))) ?_;rintro _ h3 ⟨rfl,e3⟩;refine af ?_;refine bp ?_;exact⟨_,rfl,rfl,(e1.trans e2).trans e3⟩
       · rw[if_neg c4];refine af ?_;refine bp ?_;exact⟨_,rfl,rfl,e1⟩
end
end Go.Proofs.YtoickfdopobmgaaGreatDoor
namespace Go.Proofs.YtoickfdopobmgaaGreatDoor
open Go Go.Lw
set_option maxRecDepth 100000
abbrev Qh:By:=[97,32,43,32,98,32,45,32,98,32,61,61,32,97]
abbrev Qg:By:=[97,32,45,32,98,32,43,32,98,32,61,61,32,97]
abbrev Qf:By:=[97,32,47,32,98,32,42,32,98,32,43,32,97,32,37,32,98,32,61,61,32,97]
abbrev na:Tr:=.mk 3 [97] []
abbrev nb:Tr:=.mk 3 [98] []
abbrev bi (op:By) (x y:Tr):Tr:=.mk 5 op [x,y]
abbrev nn:Tr:=.mk 3 [110] []
abbrev nf:Tr:=.mk 3 [102] []
abbrev Sb:Tr:=bi [61,61] (bi [45] (bi [43] na nb) nb) na
abbrev Sa:Tr:=bi [61,61] (bi [43] (bi [45] na nb) nb) na
abbrev R9:Tr:=bi [61,61] (bi [43] (bi [42] (bi [47] na nb) nb) (bi [37] na nb)) na
theorem PV:cy Qh (dP Qh).1 (dP Qh).2.1 [Sb] 0 0:=.ok (u:=[(3,[97],0),(6,[43],2),(3,[98],4),(6,[45],6),(3,[98],8),(6,[61,61],10),(3,[97],13)]) (n:=60) (r:=[]) (by decide +kernel) (by kernel_rfl)
theorem PU:cy Qg (dP Qg).1 (dP Qg).2.1 [Sa] 0 0:=.ok (u:=[(3,[97],0),(6,[45],2),(3,[98],4),(6,[43],6),(3,[98],8),(6,[61,61],10),(3,[97],13)]) (n:=60) (r:=[]) (by decide +kernel) (by kernel_rfl)
theorem Qx:cy Qf (dP Qf).1 (dP Qf).2.1 [R9] 0 0:=.ok (u:=[(3,[97],0),(6,[47],2),(3,[98],4),(6,[42],6),(3,[98],8),(6,[43],10),(3,[97],12),(6,[37],14),(3,[98],16),(6,[61,61],18),(3,[97],21)]) (n:=60) (r:=[]) (by decide +kernel) (by kernel_rfl)
theorem BK (n:Int):(∃k:Int,wrap64 n=n+k*18446744073709551616)/\ -9223372036854775808<=wrap64 n/\wrap64 n<=9223372036854775807:=by
  have h64:(2:Int) ^ 64=18446744073709551616:=rfl;have h63:(2:Int) ^ (64-1)=9223372036854775808:=rfl;unfold wrap64;simp only[IntKind.wrap,IntKind.bits,IntKind.signed,h64,h63,Bool.true_and,decide_eq_true_eq];have h:=Int.emod_add_mul_ediv n 18446744073709551616;split
  · exact⟨⟨-(n / 18446744073709551616)-1,by omega⟩,by omega,by omega⟩
  · exact⟨⟨-(n / 18446744073709551616),by omega⟩,by omega,by omega⟩
def Et (a:Int):Prop:= -9223372036854775808<=a/\a<=9223372036854775807
end Go.Proofs.YtoickfdopobmgaaGreatDoor
namespace Go.Proofs.YtoickfdopobmgaaGreatDoor
open Go Go.Lw
section
variable {v:Vl}{k n:Int}
def Rb:Nat->Vl->Prop
  | 0,_=>True
  |d+1,v=>Et v.num/\v.fE.length<=100000/\v.body.wt<=200000/\∀p∈v.env,Rb d p.2
def mz (v:Vl):Prop:=∀d,Rb d v
theorem mz.get (h:mz v):Et v.num/\v.fE.length<=100000/\v.body.wt<=200000/\∀p∈v.env,mz p.2:=⟨(h 1).1,(h 1).2.1,(h 1).2.2.1,fun p hp d=>(h (d+1)).2.2.2 p hp⟩
theorem DV {s f:By}{b:Tr}{e:List Bd}(hn:Et n) (hs:s.length<=100000) (hb:b.wt<=200000) (he:∀p∈e,mz p.2):mz (.mk k n s f b e)
  | 0=>trivial
  |d+1=>⟨hn,hs,hb,fun p hp=>he p hp d⟩
theorem nG {s f:By}(hn:Et n) (hs:s.length<=100000):mz (.mk k n s f bJ []):=DV hn hs (by decide) fun _ h=>by cases h
theorem PW:Et 0:=by unfold Et;omega
theorem ew:mz iV:=nG PW (by decide)
theorem Aq (b:Bool):mz (lI b):=nG (by cases b<;>(unfold Et;decide)) (by simp)
theorem DU (h:Et n):mz (mN n):=nG h (by simp)
theorem Fg (n:Int):mz (mN (wrap64 n)):=DU (BK n).2
def HB (e:List Bd):Prop:=∀p∈e,mz p.2
theorem HB.snoc {e:List Bd}(h:HB e) (hv:mz v) (t:By):HB (e++[(t,v)]):=fun p hp=>by
  rcases List.mem_append.1 hp with hp|hp
  · exact h p hp
  · simp at hp;rw[hp];exact hv
theorem mz.own (h:mz v) (t:By):mz (jQ v t):=by
  unfold jQ;split
  · exact DV h.get.1 h.get.2.1 h.get.2.2.1 h.get.2.2.2
  · exact h
theorem Fh (t:By):∀{e:List Bd},HB e->mz (gR t e).1
  | [],_=>ew
  |p::e,hn=>by
    rw[gR];split
    · exact Fh t (fun x hx=>hn x (by simp[hx]))
    · split
      · exact hn p (by simp)
      · exact ew
theorem Ik (op:By) (w:Int):mz (jb op w).1:=by
  unfold jb
  repeat' split
  all_goals first|exact Aq _|exact ew
theorem MC {a b:Int}(ha:Et a):Et (a.tmod b):=by
  have h:=Int.natAbs_tmod a b;have h2:a.natAbs%b.natAbs<=a.natAbs:=Nat.mod_le _ _;have h3:0<=a->0<=a.tmod b:=fun q=>Int.tmod_nonneg b q
  unfold Et at *
  by_cases q:0<=a
  · have:=h3 q;omega
  · have h4:a.tmod b<=0:=by
      have:=Int.tmod_nonneg b (show 0<= -a by omega);rw[Int.neg_tmod] at this;omega
    omega
theorem KD (op:By){x y:Int}(hx:Et x):mz (dw op x y).1:=by
  unfold dw;dsimp only
  repeat' split
  all_goals first|exact Fg _|exact ew|exact DU (MC hx)|exact Ik _ _|skip
theorem MB (op:By) (v:Vl):mz (Ga op v).1:=by
  unfold Ga
  repeat' split
  all_goals first|exact Aq _|exact Fg _|exact ew
theorem MD (op:By){x y:Vl}(hx:mz x):mz (Bk op x y).1:=by
  unfold Bk
  repeat' split
  all_goals first|exact ew|exact KD _ hx.get.1|exact Ik _ _|exact Aq _|skip
  exact nG PW (by rw[List.length_append];omega)
theorem ID {t:By}{v:Int}(h:Lib.parseIntB 64 t= .ok v):Et v:=by
  unfold Lib.parseIntB at h;split at h
  · cases h
  · dsimp only at h;split at h
    · cases h
    · cases h
    · rename_i u _;split at h
      · cases h
      · rename_i h1;split at h
        · cases h
        · rename_i h2;cases h;unfold Et;split
          · rename_i h3;have:¬2 ^ 63<u:=fun q=>h2 ⟨h3,q⟩
            have e:(2:Nat) ^ 63=9223372036854775808:=by decide
            rw[e] at this;omega
          · rename_i h3;have:¬2 ^ 63<=u:=fun q=>h1 ⟨h3,q⟩
            have e:(2:Nat) ^ 63=9223372036854775808:=by decide
            rw[e] at this;omega
theorem cJ {c:Prop}[Decidable c]{a b:Out}(h1:c->mz a.1) (h2:¬c->mz b.1):mz (if c then a else b).1:=by
  by_cases h:c
  · rw[if_pos h];exact h1 h
  · rw[if_neg h];exact h2 h
theorem uW {ev:Ev}(hev:∀m e n,n.wt<=200000->HB e->mz (ev m e n).1):∀(l:List Tr) (m:Nat) (e:List Bd) (v:Vl),(∀x∈l,x.wt<=200000)->HB e->mz v->mz (gU ev m e l v).1
  | [],m,e,v,_,_,hv=>hv
  |n::r,m,e,v,hl,he,hv=>by
    have h:=hev m e n (hl n (by simp)) he;have hr:∀x∈r,x.wt<=200000:=fun x hx=>hl x (by simp[hx])
    rw[gU];generalize ev m e n=o at h;obtain⟨w,x,m'⟩:=o;dsimp only;refine cJ (fun _=>ew) fun _=>?_
    exact cJ (fun _=>uW hev r _ _ _ hr (he.snoc (h.own _) _) (h.own _)) fun _=>uW hev r _ _ _ hr he h
theorem MX {t:By}{l:List Tr}(h:(Tr.mk k t l).wt<=200000) (i:Nat):(l.getD i bJ).wt<=200000:=by
  rw[List.getD_eq_getElem?_getD];cases hi:l[i]? with
  |none=>decide
  |some x =>
    have:=oG (List.mem_of_getElem? hi);rw[Tr.wt] at h
    show x.wt<=_
    omega
theorem Fi:∀d m e n,n.wt<=200000->HB e->mz (aU d m e n).1
  | 0=>fun m e n _ _=>ew
  |d+1=>fun m e n hn he=>by
    have hev:=Fi d;obtain⟨k,t,l⟩:=n;cases m with
    |zero=>rw[aU];exact ew
    |succ m =>
      have rR:=MX hn;have h1:=hev m e _ (rR 0) he;have htl:t.length<=100000:=by rw[Tr.wt] at hn;omega
      rw[aU]
      refine cJ (fun _=>?_) fun _=>cJ (fun _=>cJ (fun _=>ew) fun _=>nG PW htl) fun _=>cJ (fun _=>Aq _) fun _=>cJ (fun _=>Fh _ he) fun _ =>
        cJ (fun _=>DV PW htl (rR 0) he) fun _=>cJ (fun _=>?_) fun _=>cJ (fun _=>?_) fun _=>cJ (fun _=>?_) fun _=>cJ (fun _=>?_) fun _=>cJ (fun _=>?_) fun _=>?_
      · split
        · rename_i hp;exact DU (ID hp)
        · exact ew
      · refine uW hev l m e iV (fun x hx=>?_) he ew;have:=oG hx;rw[Tr.wt] at hn;omega
      · unfold GU;generalize aU d m e (l.getD 0 bJ)=o at h1;obtain⟨v,x,m'⟩:=o;exact cJ (fun _=>h1) fun _=>hev _ _ _ (rR 1) (he.snoc (mz.own h1 _) _)
      · unfold NK;generalize aU d m e (l.getD 0 bJ)=o at h1;obtain⟨v,x,m'⟩:=o;exact cJ (fun _=>ew) fun _=>cJ (fun _=>ew) fun _=>cJ (fun _=>hev _ _ _ (rR 1) he) fun _=>hev _ _ _ (rR 2) he
      · unfold zM;generalize aU d m e (l.getD 0 bJ)=o at h1;obtain⟨f,x,m1⟩:=o;have h1:mz f:=h1;refine cJ (fun _=>ew) fun _=>?_
        have h2:=hev m1 e _ (rR 1) he;generalize aU d m1 e (l.getD 1 bJ)=o at h2;obtain⟨y,z,m2⟩:=o;have h2:mz y:=h2;refine cJ (fun _=>ew) fun _=>cJ (fun _=>ew) fun _=>cJ (fun _=>ew) fun _=>?_
        refine hev _ _ _ h1.get.2.2.1 (HB.snoc ?_ h2 _);split
        · exact HB.snoc h1.get.2.2.2 h1 _
        · exact h1.get.2.2.2
      · unfold HO;generalize aU d m e (l.getD 0 bJ)=o at h1;obtain⟨v,x,m'⟩:=o;exact cJ (fun _=>ew) fun _=>MB _ _
      · unfold Gc;generalize aU d m e (l.getD 0 bJ)=o at h1;obtain⟨a,x,m1⟩:=o;have h1:mz a:=h1;refine cJ (fun _=>ew) fun _=>?_
        have h2:=hev m1 e _ (rR 1) he;generalize aU d m1 e (l.getD 1 bJ)=o at h2;obtain⟨y,z,m2⟩:=o;have h2:mz y:=h2;exact cJ (fun _=>cJ (fun _=>ew) fun _=>cJ (fun _=>h1) fun _=>cJ (fun _=>ew) fun _=>h2) fun _=>cJ (fun _=>ew) fun _=>MD _ h1
end
end Go.Proofs.YtoickfdopobmgaaGreatDoor
namespace Go.Proofs.YtoickfdopobmgaaGreatDoor
open Go Go.Lw
set_option maxRecDepth 20000
section
variable {o:List By}{env:List Bd}{v:Vl}
def EA:By:=[101,114,114,111,114,32]
def QL:By:=[97,116]
def HD:By:=[105,110]
def ic (e:Int) (w:By) (n:Int):By:=EA++Lib.itoa e++[32]++w++[32]++Lib.itoa n
def iR (env:List Bd) (t:By) (v:Vl):List Bd×Bool :=
  (env.filter (fun y=> !decide (y.1=t))++[(t,jQ v t)],decide ((env.filter (fun y=> !decide (y.1=t))).length<100))
def dD:List By->By
  | []=>[]
  |x::l=>x++l.flatMap fun y=>(10:UInt8)::y
def runK:List Bd->List Tr->Nat->By ⊕ (List Bd×List By)
  |env,[],_=>.inr (env,[])
  |env,n::r,i =>
    if (cN env n).2.2≠0 then .inl (ic (cN env n).2.2 HD i)
    else if n.kind=7/\n.kids.length=1 then (if (iR env n.text (cN env n).1).2=true then runK (iR env n.text (cN env n).1).1 r (i+1) else .inl (ic 60 HD i))
    else match runK env r (i+1) with
      |.inl w=>.inl w
      |.inr (E,o)=>.inr (E,([61,32]++je (cN env n).1)::o)
def dy (env:List Bd) (k:List Tr) (a e:Int):By×List Bd:=if e≠0 then (ic e QL a,env) else match runK env k 1 with
  |.inl w=>(w,env)
  |.inr (E,o)=>(dD o,E)
def gQ (t:By):Bool:=decide (6<t.length) && decide (t.take 6=EA)
theorem jN:∀{k1:List Tr}{env E:List Bd}{o:List By}{i:Nat}(k2:List Tr),runK env k1 i= .inr (E,o) ->
    runK env (k1++k2) i=match runK E k2 (i+k1.length) with|.inl w=>.inl w|.inr (E',o')=>.inr (E',o++o')
  | [],env,E,o,i,k2,h=>by
    rw[runK] at h;cases h;rw[List.nil_append,List.length_nil,Nat.add_zero];cases runK env k2 i with
    |inl w=>rfl
    |inr p=>rfl
  |n::r,env,E,o,i,k2,h=>by
    rw[List.cons_append,runK];rw[runK] at h
    by_cases h1:(cN env n).2.2≠0
    · rw[if_pos h1] at h;cases h
    rw[if_neg h1] at h ⊢;rw[List.length_cons,show i+(r.length+1)=(i+1)+r.length by omega]
    by_cases h2:n.kind=7/\n.kids.length=1
    · rw[if_pos h2] at h ⊢
      by_cases h3:(iR env n.text (cN env n).1).2=true
      · rw[if_pos h3] at h ⊢;exact jN k2 h
      · rw[if_neg h3] at h;cases h
    · rw[if_neg h2] at h ⊢;cases hr:runK env r (i+1) with
      |inl w=>rw[hr] at h;cases h
      |inr p =>
        rw[hr] at h;obtain⟨E',o'⟩:=p;cases h;rw[jN k2 hr];cases runK E k2 (i+1+r.length) with
        |inl w=>rfl
        |inr p=>rfl
theorem vj:∀{k:List Tr}{env:List Bd}{x:List Bd×List By}{i:Nat}(j:Nat),runK env k i= .inr x->runK env k j= .inr x
  | [],env,x,i,j,h=>by rw[runK] at h ⊢;exact h
  |n::r,env,x,i,j,h=>by
    rw[runK] at h ⊢
    by_cases h1:(cN env n).2.2≠0
    · rw[if_pos h1] at h;cases h
    rw[if_neg h1] at h ⊢
    by_cases h2:n.kind=7/\n.kids.length=1
    · rw[if_pos h2] at h ⊢
      by_cases h3:(iR env n.text (cN env n).1).2=true
      · rw[if_pos h3] at h ⊢;exact vj _ h
      · rw[if_neg h3] at h;cases h
    · rw[if_neg h2] at h ⊢;cases hr:runK env r (i+1) with
      |inl w=>rw[hr] at h;cases h
      |inr p=>rw[hr] at h;rw[vj (j+1) hr];exact h
theorem nI:∀{k:List Tr}{env E:List Bd}{o:List By}{i:Nat},runK env k i= .inr (E,o)->∀t∈o,∃r,t=61::r
  | [],env,E,o,i,h,t,ht=>by rw[runK] at h;cases h;cases ht
  |n::r,env,E,o,i,h,t,ht=>by
    rw[runK] at h
    by_cases h1:(cN env n).2.2≠0
    · rw[if_pos h1] at h;cases h
    rw[if_neg h1] at h
    by_cases h2:n.kind=7/\n.kids.length=1
    · rw[if_pos h2] at h
      by_cases h3:(iR env n.text (cN env n).1).2=true
      · rw[if_pos h3] at h;exact nI h t ht
      · rw[if_neg h3] at h;cases h
    · rw[if_neg h2] at h;cases hr:runK env r (i+1) with
      |inl w=>rw[hr] at h;cases h
      |inr p =>
        rw[hr] at h;obtain⟨E',o'⟩:=p;cases h
        rcases List.mem_cons.1 ht with rfl|ht
        · exact⟨_,rfl⟩
        · exact nI hr t ht
theorem Jo (h:∀t∈o,∃r,t=61::r):gQ (dD o)=false:=by
  cases o with
  |nil=>rfl
  |cons t l =>
    obtain⟨r,rfl⟩:=h t (by simp);unfold gQ dD;rw[Bool.and_eq_false_iff];refine .inr (decide_eq_false fun q=>?_);have:=congrArg List.head? q;simp[EA] at this
theorem yS {k:List Tr}{a e:Int}(h:gQ (dy env k a e).1=true):(dy env k a e).2=env:=by
  unfold dy at h ⊢
  by_cases h1:e≠0
  · rw[if_pos h1]
  · rw[if_neg h1] at h ⊢;cases hr:runK env k 1 with
    |inl w=>rfl
    |inr p =>
      rw[hr] at h;obtain⟨E,o⟩:=p;rw[Jo (nI hr)] at h;cases h
theorem Er {l:List By}{x:By}(hl:∀t∈l,t≠[]):eH (l++[x])=(if eH l=[] then eH l else eH l++[59,32])++x:=by
  induction l with
  |nil=>rfl
  |cons y l ih =>
    have hy:=hl y (by simp)
    have hne:eH (y::l)≠[]:=by
      rw[eH];split
      · exact hy
      · simp
    rw[if_neg hne,List.cons_append,eH,if_neg (by simp),ih (fun t ht=>hl t (by simp[ht])),eH]
    by_cases hn:l=[]
    · subst hn;rw[if_pos rfl,if_pos (show eH []=[] from rfl)];simp[eH]
    · have hj:eH l≠[]:=by
        cases l with
        |nil=>exact absurd rfl hn
        |cons z l =>
          have hz:=hl z (by simp);rw[eH];split
          · exact hz
          · simp
      rw[if_neg hn,if_neg hj];simp
theorem Es {x:By}(ho:∀t∈o,t≠[]) (hx:x≠[]):dD (o++[x])=(if dD o=[] then dD o else dD o++[10])++x:=by
  cases o with
  |nil=>simp[dD]
  |cons y l =>
    have hy:=ho y (by simp);have hne:dD (y::l)≠[]:=by rw[dD];simp[hy]
    rw[if_neg hne];simp[dD]
def eW (told t:By):By:=(if told≠[]/\t≠[] then told++[10] else told)++t
def uk (one t:By):By:=(if one≠[] then one++[59,32] else one)++t
structure Bt (L:List Sm) (env:List Bd) (one told:By):Prop where
  one:one=eH (L.map Sm.text)
  run:∃o,runK [] (L.map Sm.node) 1= .inr (env,o)/\told=dD o
theorem Sm.ne (x:Sm):x.text≠[]:=by
  unfold Sm.text
  repeat' split
  all_goals simp
theorem Bt.nil:Bt [] [] [] []:=⟨rfl,[],rfl,rfl⟩
theorem Bt.snoc {L:List Sm}{one told:By}(I:Bt L env one told) (x:Sm) (h:gQ (dy env [x.node] 0 0).1=false) :
    Bt (L++[x]) (dy env [x.node] 0 0).2 (uk one x.text) (eW told (dy env [x.node] 0 0).1):=by
  obtain⟨h1,o,h2,h3⟩:=I;have hne:∀t∈o,t≠[]:=fun t ht=>by obtain⟨r,rfl⟩:=nI h2 t ht;simp
  refine⟨?_,?_⟩
  · rw[List.map_append,List.map_singleton,Er (fun t ht=>by obtain⟨y,_,rfl⟩:=List.mem_map.1 ht;exact y.ne),<-h1];unfold uk
    by_cases q:one=[]
    · rw[if_pos q,if_neg (by simp[q])]
    · rw[if_neg q,if_pos q]
  · unfold dy at h ⊢;rw[if_neg (by simp)] at h ⊢;cases hr:runK env [x.node] 1 with
    |inl w =>
      exfalso;rw[hr] at h
      have hw:∃e n,w=ic e HD n:=by
        rw[runK] at hr;split at hr
        · cases hr;exact⟨_,_,rfl⟩
        · split at hr
          · split at hr
            · rw[runK] at hr;cases hr
            · cases hr;exact⟨_,_,rfl⟩
          · rw[runK] at hr;cases hr
      obtain⟨e,n,rfl⟩:=hw
      revert h
      unfold gQ ic;simp[EA,HD]
    |inr p =>
      obtain⟨E,o'⟩:=p;rw[hr] at h;have hk:=jN [x.node] h2;rw[vj (1+(L.map Sm.node).length) hr] at hk;refine⟨o++o',by rw[List.map_append,List.map_singleton];exact hk,?_⟩
      show eW told (dD o')=_
      have hl:o'=[]\/∃t,o'=[t]/\t≠[]:=by
        have h0:=nI hr;rw[runK] at hr;split at hr
        · cases hr
        · split at hr
          · split at hr
            · rw[runK] at hr;cases hr;exact .inl rfl
            · cases hr
          · rw[runK] at hr;cases hr;exact .inr ⟨_,rfl,by simp⟩
      rcases hl with rfl|⟨t,rfl,ht⟩
      · unfold eW;rw[if_neg (fun q=>q.2 rfl),List.append_nil,h3];exact List.append_nil _
      · rw[Es hne ht,<-h3];unfold eW;rw[show dD [t]=t by simp[dD]]
        by_cases q:told=[]
        · rw[if_pos q,if_neg (fun k=>k.1 q)]
        · rw[if_neg q,if_pos ⟨q,ht⟩]
theorem Bt.all {L:List Sm}{one told:By}(I:Bt L env one told):dy [] (L.map Sm.node) 0 0=(told,env):=by
  obtain⟨_,o,h2,h3⟩:=I;unfold dy;rw[if_neg (by simp),h2,h3]
theorem RN {n:Tr}(hn:n.wt<=200000) (he:HB env):mz (cN env n).1:=by
  unfold cN;split
  · dsimp only;split
    · exact Fi _ _ _ _ hn he
    · exact ew
  · exact ew
structure iD (c:Nat) (env:List Bd):Prop where
  len:env.length<=100
  ok:∀p∈env,okV c p.2
  sm:HB env
theorem iD.nil (c:Nat):iD c []:=⟨Nat.zero_le _,fun _ h=>(by cases h),fun _ h=>(by cases h)⟩
theorem iD.le {c c':Nat}{env:List Bd}(I:iD c env) (h:c<=c'):iD c' env:=⟨I.len,fun p hp=>(I.ok p hp).le h,I.sm⟩
theorem iD.vE {c:Nat}{env:List Bd}(I:iD c env) (h:100<=c):vE c env:=⟨Nat.le_trans I.len h,I.ok⟩
theorem iD.eval {c:Nat}(I:iD c env) (h:100<=c){n:Tr}(hn:n.wt<=200000):okV (c+4000) (cN env n).1/\mz (cN env n).1:=by
  refine⟨?_,RN hn I.sm⟩;have:=iI (c+4000) 2000 2000 env n (by omega) (by rw[show c+4000-2*2000=c by omega];exact I.vE h) (by omega);have:=this.2.1.le (b':=c+4000) (by omega);unfold cN;split
  · dsimp only;split
    · exact this
    · exact cQ _
  · exact cQ _
theorem iD.bind {c:Nat}(I:iD c env){t:By}(hv:okV c v) (hs:mz v) (h:(iR env t v).2=true):iD c (iR env t v).1:=by
  have h:=of_decide_eq_true h;refine⟨?_,fun p hp=>?_,fun p hp=>?_⟩
  · show (_++[_]).length<=100
    rw[List.length_append,List.length_singleton];exact h
  · rcases List.mem_append.1 hp with hp|hp
    · exact I.ok p (List.mem_filter.1 hp).1
    · simp only[List.mem_singleton] at hp;rw[hp];exact mM hv t
  · rcases List.mem_append.1 hp with hp|hp
    · exact I.sm p (List.mem_filter.1 hp).1
    · simp only[List.mem_singleton] at hp;rw[hp];exact hs.own t
theorem uZ (h:mz v):(je v).length<=500000:=by
  obtain⟨h1,h2,h3,_⟩:=h.get
  have sl:∀x:Tr,(pV x).length<=x.wt:=fun x=>by
    unfold pV;split
    · have:=iN x false;omega
    · exact Nat.zero_le _
  unfold je;split
  · unfold Et at h1;have:=Lib.itoa_length_le v.num (by omega) (by omega);omega
  · split
    · cases decide (v.num≠0)<;>decide
    · split
      · have:=sl (.mk 1 v.fE []);simp only[Tr.wt,nr] at this;omega
      · split
        · have:=sl (.mk 8 v.fE [v.body]);simp only[Tr.wt,nr] at this;omega
        · exact Nat.zero_le _
theorem G0 {b:Nat}(h:∀t∈o,t.length<=b):(dD o).length<=(b+1)*o.length:=by
  cases o with
  |nil=>exact Nat.zero_le _
  |cons x l =>
    have hx:=h x (by simp)
    have:∀l:List By,(∀t∈l,t.length<=b)->(l.flatMap fun y=>(10:UInt8)::y).length<=(b+1)*l.length:=by
      intro l
      induction l with
      |nil=>intro _;exact Nat.zero_le _
      |cons y l ih =>
        intro h;have h1:=h y (by simp);have h2:=ih fun t ht=>h t (by simp[ht])
        rw[List.flatMap_cons,List.length_append,List.length_cons,List.length_cons,Nat.mul_add];omega
    have h2:=this l fun t ht=>h t (by simp[ht])
    rw[dD,List.length_append,List.length_cons,Nat.mul_add];omega
def M7 (r:Out):Prop:=0<=r.2.1/\r.2.1<=60
def K9 (r:Vl×Int):Prop:=0<=r.2/\r.2<=60
theorem Jq {c:Prop}[Decidable c]{a b:Vl×Int}(h1:K9 a) (h2:K9 b):K9 (if c then a else b):=by split<;>assumption
theorem b7 {c:Prop}[Decidable c]{a b:Out}(h1:M7 a) (h2:M7 b):M7 (if c then a else b):=by split<;>assumption
theorem wP {e:Int}(h:0<=e/\e<=60):K9 (v,e):=h
theorem FI (t:By):∀e:List Bd,K9 (gR t e)
  | []=>wP (by decide)
  |p::e=>by rw[gR];exact Jq (FI t e) (Jq (wP (by decide)) (wP (by decide)))
theorem JN (op:By) (w:Int):K9 (jb op w):=by
  unfold jb
  repeat' split
  all_goals exact wP (by decide)
theorem K8 (op:By) (x y:Int):K9 (dw op x y):=by
  unfold dw;dsimp only
  repeat' split
  all_goals first|exact JN _ _|exact wP (by decide)
theorem M5 (op:By) (v:Vl):K9 (Ga op v):=by
  unfold Ga
  repeat' split
  all_goals exact wP (by decide)
theorem M6 (op:By) (x y:Vl):K9 (Bk op x y):=by
  unfold Bk
  repeat' split
  all_goals first|exact K8 _ _ _|exact JN _ _|exact wP (by decide)
theorem wQ {ev:Ev}(hev:∀m e n,M7 (ev m e n)):∀(l:List Tr) (m:Nat) (e:List Bd) (v:Vl),M7 (gU ev m e l v)
  | [],m,e,v=>(show (0:Int)<=0/\(0:Int)<=60 from by decide)
  |n::r,m,e,v=>by
    have h:=hev m e n;rw[gU];generalize ev m e n=o at h;obtain⟨w,x,m'⟩:=o;dsimp only;exact b7 h (b7 (wQ hev r _ _ _) (wQ hev r _ _ _))
theorem FJ:∀d m e n,M7 (aU d m e n)
  | 0=>fun m e n=>(show (0:Int)<=60/\(60:Int)<=60 from by decide)
  |d+1=>fun m e n=>by
    have hev:=FJ d;obtain⟨k,t,l⟩:=n;cases m with
    |zero=>rw[aU];exact(show (0:Int)<=60/\(60:Int)<=60 from by decide)
    |succ m =>
      have z:∀{v:Vl}{m:Nat}{e:Int},0<=e/\e<=60->M7 (v,e,m):=fun h=>h
      rw[aU];refine b7 ?_ (b7 (b7 (z (by decide)) (z (by decide))) (b7 (z (by decide)) (b7 (FI t e) (b7 (z (by decide)) (b7 (wQ hev _ _ _ _) (b7 ?_ (b7 ?_ (b7 ?_ (b7 ?_ ?_)))))))))
      · split<;>exact z (by decide)
      · unfold GU;have h:=hev m e (l.getD 0 bJ);generalize aU d m e (l.getD 0 bJ)=o at h;obtain⟨w,x,m'⟩:=o;exact b7 h (hev _ _ _)
      · unfold NK;have h:=hev m e (l.getD 0 bJ);generalize aU d m e (l.getD 0 bJ)=o at h;obtain⟨w,x,m'⟩:=o;exact b7 h (b7 (z (by decide)) (b7 (hev _ _ _) (hev _ _ _)))
      · unfold zM;have h:=hev m e (l.getD 0 bJ);generalize aU d m e (l.getD 0 bJ)=o at h;obtain⟨w,x,m'⟩:=o;refine b7 h ?_;have h2:=hev m' e (l.getD 1 bJ);generalize aU d m' e (l.getD 1 bJ)=o at h2;obtain⟨w2,x2,m2⟩:=o;exact b7 h2 (b7 (z (by decide)) (b7 (z (by decide)) (hev _ _ _)))
      · unfold HO;have h:=hev m e (l.getD 0 bJ);generalize aU d m e (l.getD 0 bJ)=o at h;obtain⟨w,x,m'⟩:=o;exact b7 h (M5 t w)
      · unfold Gc;have h:=hev m e (l.getD 0 bJ);generalize aU d m e (l.getD 0 bJ)=o at h;obtain⟨w,x,m'⟩:=o;refine b7 h (b7 (b7 (z (by decide)) (b7 (z (by decide)) ?_)) ?_)
        · have h2:=hev m' e (l.getD 1 bJ);generalize aU d m' e (l.getD 1 bJ)=o at h2;obtain⟨w2,x2,m2⟩:=o;exact b7 (z (by decide)) h2
        · have h2:=hev m' e (l.getD 1 bJ);generalize aU d m' e (l.getD 1 bJ)=o at h2;obtain⟨w2,x2,m2⟩:=o;exact b7 h2 (M6 t w w2)
theorem CX (E:List Bd) (n:Tr):0<=(cN E n).2.2/\(cN E n).2.2<=60:=by
  unfold cN;split
  · exact FJ 2000 2000 E n
  · decide
end
end Go.Proofs.YtoickfdopobmgaaGreatDoor
namespace Go.Proofs.YtoickfdopobmgaaGreatDoor
open Go.Proofs.Tryz
open Go Go.Lw
set_option maxRecDepth 20000 set_option maxHeartbeats 4000000
section
variable {h:ai}{O:Nat->Prop}{b kb c:Nat}{env xs:List Bd}{t:By}{v:Value}
def jz (h:ai) (O:Nat->Prop) (b:Nat) (env:List Bd):Prop :=
 ∃h0 p v,(E2 h0/\oC h0 p/\aj h0 h/\h0.size<=b/\∀y,O y->h0.size<=y)/\¬O b/\aD h b 48 [p,v]/\aT eB h (fun y=>y=b\/O y) v env
theorem jz.lt {h:ai}{O:Nat->Prop}{b:Nat}{env:List Bd}(k:jz h O b env):b<h.size:=by
 obtain⟨h0,p,v,_,_,kb,_⟩:=k;exact kb.lt
theorem jz.Rk (k:jz h O b env):E2 h:=by
 obtain⟨h0,p,v,⟨h1,_,h3,_⟩,_⟩:=k;exact h1.ah h3
theorem jz.ext {h h':ai}{O:Nat->Prop}{b:Nat}{env:List Bd}(k:jz h O b env) (e:Ext O h h'):jz h' O b env:=by
 obtain⟨h0,p,v,⟨h1,h2,h3,h4,h5⟩,h6,h7,h8⟩:=k;exact⟨h0,p,v,⟨h1,h2,⟨Nat.le_trans h3.size e.size,fun y hy _=>(e.block y (Nat.lt_of_lt_of_le hy h3.size) (fun q=>Nat.not_lt.2 (h5 y q) hy)).trans (h3.block y hy (fun k=>k))⟩,h4,h5⟩,h6,h7.ext e h6,h8.mv (Mv.cx e fun y _ q=>⟨fun k=>q (.inr k),q⟩)⟩
theorem jz.ah {h':ai}(k:jz h O b env) (e:aj h h'):jz h' O b env:=k.ext (e.mono fun _ _ q=>q.elim)
theorem iE (k:jz h O b env):aq Tryz.prog 17 #[ptr b] h (bw fun r h'=>r= .bool false/\h'=h):=by
 obtain⟨h0,p,v,⟨_,⟨lb,vm,rfl,_⟩,_⟩,_,kb,_⟩:=k;refine bL ?_;refine aX ?_;refine cD ?_;refine aW ?_;refine cX ?_;refine aX ?_;refine fL [(2,.bool false)] rfl ?_ ?_
 · refine aW ?_;refine xp rfl (ay.n8 underlying26 rfl rfl) ?_;refine af ?_;refine RW.cV (d:=5) (b':=false) rfl (rfl) ?_;refine af ?_;refine xp rfl (aA rfl (kb.cell (i:=0) rfl)) ?_;refine xp rfl (ay.n8 underlying45 rfl rfl) ?_;refine af ?_;exact aF rfl ⟨au rfl (rfl),sb rfl⟩
 · refine bp ?_;exact⟨_,rfl,rfl,rfl⟩
theorem jq (hg:E2 h):aq Tryz.prog 6 #[] h (bw fun r h'=>∃b,r=ptr b/\h.size<=b/\jz h' (fun _=>False) b []/\aj h h'):=by
 obtain⟨lim,hl1,hl2⟩:=hg.ex.lx.sg;refine bL ?_;refine af ?_;refine xo rfl (aE rfl (GL hl2 hl1 hg.ex.lx.tens hg.ex.lx.rules)) ?_;rintro p h1 ⟨kx,e1⟩;obtain⟨lb,vm,rfl,k1,k2⟩:=id kx;refine xp rfl (av (H.Nl _) rfl) ?_;refine xo rfl (jj) ?_;rintro _ h2 ⟨rfl,k3,e2,z2⟩;refine af ?_;refine bp ?_;exact⟨_,rfl,_,rfl,e1.size,⟨h1,_,_,⟨hg.ah e1,kx,e2,Nat.le_refl _,fun y q=>q.elim⟩,fun q=>q,k3,aT.nil _ _ _⟩,e1.trans e2⟩
theorem ny (hg:rM h) (e:Int) (he : -9223372036854775808<=e/\e<=9223372036854775807) (w:By) (hw:w.length<=1000) (n:Int) (hn : -9223372036854775808<=n/\n<=9223372036854775807) :
 aq Tryz.prog 21 #[.int .i64 e,.string (bs w),.int .i64 n] h (bw fun r h'=>r= .string (bs (ic e w n))/\aj h h'):=by
 have q1:=aG (Lib.itoa e);have q2:=aG (Lib.itoa n);have q3:=aG w;have q4:=Lib.itoa_length_le e he.1 he.2;have q5:=Lib.itoa_length_le n hn.1 hn.2;have c6:(⟨#[101,114,114,111,114,32]⟩:ByteArray).size=6:=rfl;have c1:(⟨#[32]⟩:ByteArray).size=1:=rfl;refine bL ?_;refine af ?_;refine xo rfl (aE rfl (qh hg e he)) ?_;rintro _ h1 ⟨rfl,e1⟩;refine aW ?_;refine xp rfl (ay.aH rfl rfl (by simp only[ByteArray.size_append];omega)) ?_;refine aW ?_;refine xp rfl (ay.aH rfl rfl (by simp only[ByteArray.size_append];omega)) ?_;refine xp rfl (ay.aH rfl rfl (by simp only[ByteArray.size_append];omega)) ?_;refine af ?_;refine xo rfl (aE rfl (qh (hg.ah e1) n hn)) ?_;rintro _ h2 ⟨rfl,e2⟩;refine xp rfl (ay.aH rfl rfl (by simp only[ByteArray.size_append];omega)) ?_;refine af ?_;refine bp ?_;refine⟨_,rfl,?_,e1.trans e2⟩
 show Value.string (bs EA++bs (Lib.itoa e)++bs [32]++bs w++bs [32]++bs (Lib.itoa n))=_
 rw[br,br,br,br,br];rfl
theorem GK {g:ai}(kk:aD g kb 9 [.string (bs t)]) (y:Bd){nk:Int}{nt:By}{a:Option Addr}{m:Nat}{ea:Option Addr}{en ec:Nat} :
 aq Tryz.prog 44 #[.agg (BC y nk nt a m c ea en ec).toArray,ptr kb] g (bw fun r h'=>r= .bool (decide (y.1=t))/\aj g h'):=by
 refine bL ?_;refine af ?_;refine xo rfl (jj) ?_;rintro _ h1 ⟨rfl,k2,e1,z1⟩;have k2:aD h1 g.size 52 (BC y nk nt a m c ea en ec):=k2;refine af ?_;refine xp rfl (aA rfl (k2.cell (i:=0) rfl)) ?_;refine xp rfl (aA rfl ((kk.ah e1).cell (i:=0) rfl)) ?_;refine af ?_;refine bp ?_;exact⟨_,rfl,congrArg Value.bool (by rw[decide_eq_decide];exact⟨fun q=>bl q,fun q=>by rw[q]⟩),e1⟩
theorem GJ {g:ai}(kk:aD g kb 9 [.string (bs t)]) (y:Bd){nk:Int}{nt:By}{a:Option Addr}{m:Nat}{ea:Option Addr}{en ec:Nat} :
 aq Tryz.prog 27 #[.agg (BC y nk nt a m c ea en ec).toArray,ptr kb] g (bw fun r h'=>r= .bool (decide (y.1=t))/\aj g h'):=by
 refine bL ?_;refine af ?_;refine xo rfl (jj) ?_;rintro _ h1 ⟨rfl,k2,e1,z1⟩;have k2:aD h1 g.size 52 (BC y nk nt a m c ea en ec):=k2;refine af ?_;refine xp rfl (aA rfl (k2.cell (i:=0) rfl)) ?_;refine xp rfl (aA rfl ((kk.ah e1).cell (i:=0) rfl)) ?_;refine af ?_;refine bp ?_;exact⟨_,rfl,congrArg Value.bool (by rw[decide_eq_decide];exact⟨fun q=>bl q,fun q=>by rw[q]⟩),e1⟩
def P0 (gf:FuncId) (kb:Nat) (t:By):Prop:=LN Tryz.prog gf/\∀(g:ai),aD g kb 9 [.string (bs t)]->∀(y:Bd) (nk:Int) (nt:By) (a:Option Addr) (m c:Nat) (ea:Option Addr) (en ec:Nat),
 aq Tryz.prog gf #[.agg (BC y nk nt a m c ea en ec).toArray,ptr kb] g (bw fun r h'=>r= .bool (decide (y.1=t))/\aj g h')
theorem R3 (kb:Nat) (t:By):P0 44 kb t:=⟨⟨_,func44,rfl,by kernel_rfl⟩,fun _ kk y _ _ _ _ _ _ _ _=>GK kk y⟩
theorem R2 (kb:Nat) (t:By):P0 27 kb t:=⟨⟨_,func27,rfl,by kernel_rfl⟩,fun _ kk y _ _ _ _ _ _ _ _=>GJ kk y⟩
def Ml (t:By) (xs:List Bd) (i:Int):Prop:=(i= -1/\∀y∈xs,y.1≠t)\/∃(k:Nat) (y:Bd),i=k/\xs[k]? =some y/\y.1=t/\∀(j:Nat) (z:Bd),j<k->xs[j]? =some z->z.1≠t
theorem rq {gf:FuncId}(hf:P0 gf kb t) (kk:aD h kb 9 [.string (bs t)]) (hv:aT eB h O v xs) :
 aq Tryz.prog 26 #[v,.func (.func gf) #[] #[ptr kb]] h (bw fun r h'=>(∃i,r= .int .i64 i/\Ml t xs i)/\aj h h'):=by
 obtain⟨va,vn,vc,rfl,hvs⟩:=hv.open;have hvl:xs.length=vn:=hvs.len;subst hvl;have hvm:=hvs.cap;have hvc:=hvs.le;simp only[maxLen] at hvm;refine bL ?_;refine af ?_;refine gY (σ:=Nat) (fun i=>[(8,.int .i64 (i:Nat))]) (fun i h'=>aj h h'/\i<=xs.length/\∀(j:Nat) (z:Bd),j<i->xs[j]? =some z->z.1≠t) (fun i=>xs.length-i) (0) ⟨Ext.refl _ _,Nat.zero_le _,fun j z hj=>by omega⟩ rfl ?_;rintro i g ⟨eg,hi,hin⟩ ih;refine af ?_;refine aR (fun hlt=>?_) (fun hlt=>?_)
 · have hil:i<xs.length:=by omega
   obtain⟨b,o,y,nk,nt,a,m,c',ea,en,ec,ha,hy,hrow,_⟩:=FU (hvs.mv (Mv.ah eg)) hil;have hpt:=hf.2 _ (kk.ah eg) y nk nt a m c' ea en ec
   iterate 4 refine aX ?_
   refine cD ?_
   iterate 2 refine aW ?_
   refine cX ?_;refine aX ?_;refine cD ?_
   iterate 3 refine aW ?_
   refine xp rfl (cz rfl rfl i rfl ha) ?_;refine xp rfl (bY rfl hrow) ?_;refine xo rfl (aQ.FR (vs:=[_]) rfl hf.1 rfl (aq.HV (hpt))) ?_;rintro _ g1 ⟨rfl,e1⟩;refine af ?_;refine iM (fun hb=>?_) (fun hb=>?_)
   · have hb:y.1=t:=of_decide_eq_true hb;refine af ?_;refine bp ?_;exact⟨_,rfl,⟨i,rfl,.inr ⟨i,y,rfl,hy,hb,hin⟩⟩,eg.trans e1⟩
   · have hb:¬y.1=t:=of_decide_eq_false hb;refine af ?_
     exact ih (i+1) ⟨eg.trans e1,by omega,fun j z hj hz=>by
      rcases Nat.lt_or_ge j i with k|k
      · exact hin j z k hz
      · obtain rfl:j=i:=(by omega)
        rw[hy] at hz;cases hz;exact hb⟩ (by omega)
 · obtain rfl:i=xs.length:=by omega
   refine af ?_;refine bp ?_
   exact⟨_,rfl,⟨-1,rfl,.inl ⟨rfl,fun y hy q=>by
    obtain⟨j,hj⟩:=List.getElem?_of_mem hy;exact hin j y (List.getElem?_eq_some_iff.1 hj).1 hj q⟩⟩,eg⟩
theorem Fx {base:Nat}{T:TypeId}{ys:List Bd}(k:cH eB O h base T v ys){j:Nat}{y:Bd}(hj:ys[j]? =some y) :
 ∃b c nk nt a m c' ea en ec,v= .slice (some ⟨b,0,none⟩) ys.length c/\base<=b/\b<h.size/\Lw.rowAt h b (0+j*9) (BC y nk nt a m c' ea en ec)/\eB.R h (fun b=>cv v.ownBlock b\/O b) (BC y nk nt a m c' ea en ec) y:=by
 obtain⟨b,c,cs,hv,h1,h2,hr,_,⟨cs',rfl,hR⟩,_⟩:=k.put hj;obtain⟨nk,nt,a,m,c',ea,en,ec,hq,_,hR',_⟩:=cW.get (cW.of hR)
 have hcs:cs'=lG y.2.kind y.2.num y.2.fE y.2.self nk nt a m c' ea en ec:=by
  have:=congrArg (fun v=>match v with|Value.agg c=>c.toList|_=>[]) hq;simpa using this
 rw[hcs] at hr hR;exact⟨b,c,nk,nt,a,m,c',ea,en,ec,hv,h1,h2,hr,_,rfl,hR⟩
theorem MO {g sz:Nat}:cw (some ⟨g,0,none⟩) 0 sz c=some ⟨g,0,none⟩:=by
 unfold cw;split<;>simp[Addr.add]
theorem KG {g i sz:Nat}(h:i<c):cw (some ⟨g,0,none⟩) i sz c=some ⟨g,0+i*sz,none⟩:=by
 unfold cw;rw[if_neg (by omega)];simp only[Option.map_some,Addr.add];split
 · rename_i q;rw[q]
 · rfl
def jr (t:By) (y:Bd):Bool:= !decide (y.1=t)
theorem EC {gf:FuncId}(hf:P0 gf kb t) (kk:aD h kb 9 [.string (bs t)]){base:Nat}(ho:cH eB O h base 52 v xs) (hkb:kb<base) (hx:xs.length<=100000000) :
 aq Tryz.prog 43 #[v,.func (.func gf) #[] #[ptr kb]] h (bw fun r h'=>cH eB O h' base 52 r (xs.filter (jr t))/\Ext (cv v.ownBlock) h h'/\r.ownBlock=v.ownBlock):=by
 have hv:aT eB h (fun _=>False) v xs:=ho.vq (fun _ _ q=>q) (fun _ _ q=>q.elim);refine bL ?_;refine af ?_;refine xo rfl (aE rfl (rq hf kk hv)) ?_;rintro _ h1 ⟨⟨i,rfl,hi⟩,e1⟩;refine af ?_;refine aR (fun hm=>?_) (fun hm=>?_)
 · have hall:∀y∈xs,y.1≠t:=by
    rcases hi with ⟨_,q⟩|⟨k,_,q,_⟩
    · exact q
    · omega
   have hfl:xs.filter (jr t)=xs:=List.filter_eq_self.2 fun y hy=>by unfold jr;rw[decide_eq_false (hall y hy)];rfl
   rw[hfl];refine af ?_;refine bp ?_;exact⟨_,rfl,ho.ah e1,e1.mono (fun _ _ q=>q.elim),rfl⟩
 · obtain⟨k,y0,rfl,hk,hyt,hfst⟩:=hi.resolve_left (fun q=>hm q.1);obtain⟨b,c,_,_,_,_,_,_,_,_,rfl,hbb,hbl,_⟩:=Fx ho hk;have hkl:k<xs.length:=(List.getElem?_eq_some_iff.1 hk).1;have ho1:=ho.ah e1;obtain⟨_,_,_,hnc,_⟩:=ho1.cut rfl (i:=0) (Nat.zero_le _)
   have hcap:c<=maxLen:=by
    obtain⟨_,_,_,hv',_,_,hcm,_⟩:=hv;cases hv';exact hcm
   unfold maxLen at hcap
   have hini:xs.take k=(xs.take (k+1)).filter (jr t):=by
    rw[List.take_add_one,hk,List.filter_append]
    have h1:(xs.take k).filter (jr t)=xs.take k:=List.filter_eq_self.2 fun y hy=>by
     obtain⟨j,hj⟩:=List.getElem?_of_mem hy;have hjk:j<k:=by have:=(List.getElem?_eq_some_iff.1 hj).1;rw[List.length_take] at this;omega
     rw[List.getElem?_take_of_lt hjk] at hj;unfold jr;rw[decide_eq_false (hfst j y hjk hj)];rfl
    rw[h1];simp[jr,hyt]
   refine af ?_;refine gY (σ:=Nat×Nat×List Bd) (fun w=>[(5,.int .i64 (w.1:Nat)),(6,.int .i64 (w.2.1:Nat))]) (fun w g=>Ext (fun y=>y=b) h1 g/\cH eB O g base 52 (.slice (some ⟨b,0,none⟩) xs.length c) w.2.2/\w.2.2.length=xs.length/\w.1<w.2.1/\w.2.1<=xs.length/\w.2.2.take w.1=(xs.take w.2.1).filter (jr t)/\w.2.2.drop w.2.1=xs.drop w.2.1) (fun w=>xs.length-w.2.1) ((k,k+1,xs)) ⟨Ext.refl _ _,ho1,rfl,Nat.lt_succ_self _,hkl,hini,rfl⟩ rfl ?_;rintro⟨i,j,ys⟩ g ⟨eg,hox,hyl,hij,hjn,htk,hdr⟩ ih
   try dsimp only
   dsimp only at hox hyl hij hjn htk hdr;have zz:=And.intro e1.size eg.size;have hbn:¬kb=b:=by omega
   have kg:=(kk.ah e1).ext eg hbn;refine af ?_;refine aR (fun hlt=>?_) (fun hlt=>?_)
   · have hjl:j<xs.length:=by omega
     obtain⟨y,hy⟩:∃y,xs[j]? =some y:=⟨_,List.getElem?_eq_getElem hjl⟩
     have hyj:ys[j]? =some y:=by
      have:=congrArg (·[0]?) hdr;simpa [hy] using this
     obtain⟨b',c',nk,nt,a,m,c'',ea,en,ec,hve,_,_,hrow,hRy⟩:=Fx hox hyj;simp only[Value.slice.injEq,Option.some.injEq,Addr.mk.injEq] at hve;have hbe:b=b':=hve.1.1;subst hbe;have hrow:Lw.rowAt g b (0+j*9) (BC y nk nt a m c'' ea en ec):=hrow
     iterate 4 refine aX ?_
     refine cD ?_
     iterate 2 refine aW ?_
     refine xp rfl (cz rfl rfl j rfl rfl) ?_;refine xp rfl (bY rfl hrow) ?_;refine xo rfl (cO) ?_;rintro _ g1 ⟨rfl,k7,f1,y1⟩;refine aM rfl (aY rfl rfl k7 PZ) ?_;rintro _ g2 ⟨rfl,k72,x2,z2⟩;have k72:aD g2 g.size 52 (BC y nk nt a m c'' ea en ec):=k72;have f02:aj g g2:=aj.only f1 x2 (Nat.le_refl _);have z02:=f02.size;refine af ?_;refine xp rfl (bY rfl k72.row) ?_;refine xo rfl (aQ.FR (vs:=[_]) rfl hf.1 rfl (aq.HV ((hf.2 _ (kg.ah f02) y nk nt a m c'' ea en ec)))) ?_;rintro _ g3 ⟨rfl,f3⟩;have f03:=f02.trans f3;have k73:=k72.ah f3;have hox3:=hox.ah f03;have e03:Ext (fun y=>y=b) h1 g3:=eg.trans (f03.mono fun _ _ q=>q.elim);have hxs1:xs.take (j+1)=xs.take j++[y]:=by rw[List.take_add_one,hy];rfl
     have hdr1:ys.drop (j+1)=xs.drop (j+1):=by
      have:=congrArg (List.drop 1) hdr
      rwa [List.drop_drop,List.drop_drop] at this
     refine af ?_;refine iM (fun hb=>?_) (fun hb=>?_)
     · have hb:jr t y=true:=hb;obtain⟨cur,q1,q2,q3,q4,q5⟩:=hox3.putRow hyl (i:=i) (by omega);have hR3:=eB.mv hRy (Mv.cx (O':=fun b'=>cv (Value.slice (some ⟨b,0,none⟩) xs.length c).ownBlock b'\/O b') f03 fun b' _ q=>⟨fun k=>k,q⟩);have q6:=q5 _ _ hR3;have q2:cur.size=c*9:=q2;refine af ?_;refine xp rfl (bY rfl k73.row) ?_;refine xp rfl (cz rfl rfl i rfl rfl) ?_;refine aM rfl (aQ.BW H.DO rfl rfl rfl q1 (by rw[q2];show 0+i*9+9<=c*9;omega) PZ) ?_;rintro _ g4 ⟨rfl,hg4⟩;have x4:Ext (fun y=>y=b) g3 g4:=by rw[hg4];exact Ext.setRow _ _ _ rfl
       have hox4:cH eB O g4 base 52 (.slice (some ⟨b,0,none⟩) xs.length c) (ys.set i y):=by rw[hg4];exact q6
       clear hg4 q6 q5;refine af ?_
       exact ih (i+1,j+1,ys.set i y) ⟨e03.trans x4,hox4,by show (ys.set i y).length=_;rw[List.length_set];exact hyl,Nat.succ_lt_succ hij,hjl,by
        show (ys.set i y).take (i+1)=(xs.take (j+1)).filter (jr t)
        rw[hxs1,List.filter_append,<-htk,List.take_add_one,List.getElem?_set_self (by omega),List.take_set_of_le (Nat.le_refl _)];simp[hb],by
        show (ys.set i y).drop (j+1)=xs.drop (j+1)
        rw[List.drop_set_of_lt (by omega)];exact hdr1⟩ (by show xs.length-(j+1)<xs.length-j;omega)
     · have hb:jr t y=false:=hb;refine af ?_
       exact ih (i,j+1,ys) ⟨e03,hox3,hyl,Nat.lt_succ_of_lt hij,hjl,by
        show ys.take i=(xs.take (j+1)).filter (jr t)
        rw[hxs1,List.filter_append,<-htk];simp[hb],hdr1⟩ (by show xs.length-(j+1)<xs.length-j;omega)
   · obtain rfl:j=xs.length:=by omega
     rw[List.take_length] at htk;obtain⟨cur,q1,q2,q3,q4,q5⟩:=hox.cut hyl (i:=i) (by omega);have q2:cur.size=c*9:=q2;refine af ?_;refine xp rfl (ay.mD underlying40 H.DO rfl rfl i rfl (by omega)) ?_;rw[KG (show i<c by omega)];refine aM rfl (aQ.JU underlying40 H.Mn rfl (by omega) q1 (by rw[q2];show 0+i*9+(xs.length-i)*9<=c*9;omega) (by decide)) ?_;rintro _ g1 ⟨cs,hg1,h2,h3⟩;have x1:Ext (fun y=>y=b) g g1:=by rw[hg1];exact Ext.setRow _ _ _ rfl
     have hox1:cH eB O g1 base 52 (.slice (some ⟨b,0,none⟩) i c) (xs.filter (jr t)):=by
      rw[hg1,<-htk];exact q5 cs h2 (by rw[Nat.zero_add] at h3;exact h3)
     refine af ?_;refine xp rfl (ay.mE underlying40 H.DO rfl rfl i rfl (by omega)) ?_;rw[MO];refine af ?_;refine bp ?_;exact⟨_,rfl,hox1,(e1.mono fun _ _ q=>q.elim).trans ((eg.trans x1).mono fun y _ (q:y=b)=>by rw[q];rfl),rfl⟩
theorem J0 (xs:List Bd) (t:By) (x:Vl):iR xs t x=(xs.filter (jr t)++[(t,jQ x t)],decide ((xs.filter (jr t)).length<100)):=rfl
theorem EL {ev vv:Value}{x:Vl}(hv:aT eB h O ev xs) (hx:xs.length<=100000000) (t:By) (hw:cW h O vv x) :
 aq Tryz.prog 23 #[ev,.string (bs t),vv] h (bw fun r h'=>∃v,r=packed [v,.bool (iR xs t x).2]/\cH eB O h' h.size 52 v (iR xs t x).1/\aj h h'):=by
 obtain⟨nk,nt,a,n,c,ea,en,ec,rfl,hb,hR,he⟩:=cW.get hw;rw[J0];refine bL ?_;refine af ?_;refine xo rfl (jj) ?_;rintro _ h1 ⟨rfl,k4,e1,z1⟩;refine xo rfl (jj) ?_;rintro _ h2 ⟨rfl,k5,e2,z2⟩;have e12:=e1.trans e2;have k4:aD h2 h.size 9 [.string (bs t)]:=k4.ah e2;have k5:aD h2 h1.size 42 (lG x.kind x.num x.fE x.self nk nt a n c ea en ec):=k5;have zz:=And.intro e1.size e2.size;have hfl:(xs.filter (jr t)).length<=xs.length:=List.length_filter_le _ _;have hv2:aT eB h2 (fun b=>O b\/h.size<=b/\b<h2.size) ev xs:=hv.mv (Mv.cx e12 fun b hb q=>⟨fun k=>k,fun k=>k.elim q (fun k=>by omega)⟩);refine af ?_;refine xo rfl (aE rfl (gS hv2 hx)) ?_;rintro v3 h3 ⟨ho3,e3⟩;refine xp rfl (ay.makeFunc (vs:=[_]) rfl) ?_;refine xo rfl (aE rfl (EC (R3 h.size t) (k4.ah e3) ho3 (by omega) hx)) ?_;rintro v4 h4 ⟨ho4,x4,hob⟩;have z34:=And.intro e3.size x4.size;obtain⟨_,_,hw3,_⟩:=id ho3;have own3:∀b,v3.ownBlock=some b->h2.size<=b/\b<h3.size:=fun b q=>hw3.lt q
 have own4:∀b,v4.ownBlock=some b->h2.size<=b/\b<h3.size:=fun b q=>own3 b (hob▸q)
 have k44:=(k4.ah e3).ext x4 (fun q=>by have:=own3 _ q.symm;omega);have k54:=(k5.ah e3).ext x4 (fun q=>by have:=own3 _ q.symm;omega);have m4:aj h h4:=⟨by omega,fun b hb _=>((x4.block b (by omega) (fun q=>by have:=own3 b q.symm;omega)).trans (e3.block b (by omega) (fun k=>k))).trans (e12.block b hb (fun k=>k))⟩
 have hR4:eV.R h4 (fun b=>cv v4.ownBlock b\/(O b\/h.size<=b/\b<h2.size)) (lG x.kind x.num x.fE x.self nk nt a n c ea en ec) x :=
  eV.mv hR (Mv.cx m4 fun b hb q=>⟨fun k=>k,fun k=>k.elim (fun k=>by have:=own4 b k.symm;omega) (fun k=>k.elim q (fun k=>by omega))⟩)
 have key:∀{g h':ai}{v6:Value}{cs:List Value}{css:List (List Value)}{y:Vl},css.length=(xs.filter (jr t)).length ->
  (∀(i:Nat) (cs:List Value) (z:Bd),css[i]? =some cs->(xs.filter (jr t))[i]? =some z->eB.R g (fun b=>cv v4.ownBlock b\/(O b\/h.size<=b/\b<h2.size)) cs z)->aj h g ->
  aB h' h2.size 52 eB.sz v6 ((xs.filter (jr t)).length+1) (css.flatten++(.string (bs t)::cs))->Ext (cv v4.ownBlock) g h'->(∀b,v6.ownBlock=some b->v4.ownBlock=some b\/g.size<=b) ->
  eV.R g (fun b=>cv v4.ownBlock b\/(O b\/h.size<=b/\b<h2.size)) cs y->cH eB O h' h.size 52 v6 (xs.filter (jr t)++[(t,y)])/\aj h h':=fun {g h' v6 cs css y} q1 q2 eg q3 q4 q5 q6=>by
  have:=cH.gq (y:=((t,y):Bd)) q1 q2 q3 q4 q5 ⟨_,rfl,q6⟩;refine⟨cH.lower (this.qD (Ext.refl (fun _=>False) _) (fun _ _ q=>q) (fun _ _ q=>q.elim) (fun b _ q=>.inl q)) (by omega),⟨by have:=eg.size;have:=q4.size;omega,fun b hb _=>(q4.block b (by have:=eg.size;omega) (fun q=>by have:=own4 b q.symm;omega)).trans (eg.block b hb (fun k=>k))⟩⟩
 refine aW ?_;refine cX ?_
 iterate 2 refine aX ?_
 refine fL [(20,.bool (decide (x.kind=4/\x.self=[])))] rfl ?_ ?_
 · refine af ?_;refine xp rfl (aA rfl (k54.cell (i:=0) rfl)) ?_;refine af ?_;refine dG 16 (fun p=>?_) (fun p=>?_)
   · have p:=of_decide_eq_true p;refine af ?_;refine xp rfl (aA rfl (k54.cell (i:=3) rfl)) ?_;refine af ?_;exact aF rfl ⟨au rfl (by rw[decide_eq_decide];exact⟨fun q=>⟨p,bl (m:=[]) q⟩,fun q=>by rw[q.2];rfl⟩),sb rfl⟩
   · have p:=of_decide_eq_false p;refine af ?_;exact aF rfl ⟨au rfl (by rw[decide_eq_false (fun q=>p q.1)]),sb rfl⟩
 · refine aR (fun hs=>?_) (fun hs=>?_)
   · have hox:jQ x t= .mk x.kind x.num x.fE t x.body x.env:=if_pos hs;rw[hox];refine af ?_;refine xp rfl (aA rfl (k44.cell (i:=0) rfl)) ?_;refine af ?_;refine aM rfl (mj rfl rfl k54) ?_;rintro _ h5 ⟨rfl,k55,x5,z5⟩;have k55:aD h5 h1.size 42 (lG x.kind x.num x.fE t nk nt a n c ea en ec):=k55;have k45:=k44.ext x5 (by omega);have ho5:=ho4.qD (O':=fun b=>O b\/h.size<=b/\b<h2.size) x5 (fun b q k=>by have:=own4 b q;omega) (fun b _ q=>.inr (by omega)) (fun _ _ q=>q);have z45:=x5.size
     have hR5:eV.R h5 (fun b=>cv v4.ownBlock b\/(O b\/h.size<=b/\b<h2.size)) (lG x.kind x.num x.fE t nk nt a n c ea en ec) (.mk x.kind x.num x.fE t x.body x.env) :=
      IJ (f:=x.self) (by
       rw[show Vl.mk x.kind x.num x.fE x.self x.body x.env=x by cases x;rfl];exact eV.mv hR4 (Mv.cx x5 fun b _ q=>⟨fun(k:b=h1.size)=>q (.inr (.inr (by omega))),q⟩)) t
     obtain⟨css,hc1,hc2,hc3⟩:=id ho5;obtain⟨va,vc,hvf,_⟩:=hc2.open;refine af ?_;refine xp rfl (aA rfl (k45.cell (i:=0) rfl)) ?_;refine xp rfl (bY rfl k55.row) ?_;refine xp rfl (av (H.xw _ _ _ _ _ _ _ _ _) rfl) ?_;refine xo rfl (ue) ?_;rintro _ _ ⟨rfl,rfl⟩;refine xo rfl (uH rfl rfl hc2 rfl rfl) ?_;rintro v6 h6 ⟨ho6,hx6,hx6',hv6⟩;obtain⟨hfin,efin⟩:=key hc1 hc3 (aj.only m4 x5 (by omega)) ho6 hx6 hv6 hR5;rw[hvf];refine af ?_;refine bp ?_;exact⟨_,rfl,v6,by rw[show decide (((xs.filter (jr t)).length:Int)<100)=decide ((xs.filter (jr t)).length<100) by rw[decide_eq_decide];omega],hfin,efin⟩
   · have hox:jQ x t=x:=if_neg hs;rw[hox];obtain⟨css,hc1,hc2,hc3⟩:=id ho4;obtain⟨va,vc,hvf,_⟩:=hc2.open;refine af ?_;refine xp rfl (aA rfl (k44.cell (i:=0) rfl)) ?_;refine xp rfl (bY rfl k54.row) ?_;refine xp rfl (av (H.xw _ _ _ _ _ _ _ _ _) rfl) ?_;refine xo rfl (ue) ?_;rintro _ _ ⟨rfl,rfl⟩;refine xo rfl (uH rfl rfl hc2 rfl rfl) ?_;rintro v6 h6 ⟨ho6,hx6,hx6',hv6⟩;obtain⟨hfin,efin⟩:=key hc1 hc3 m4 ho6 hx6 hv6 hR4;rw[hvf];refine af ?_;refine bp ?_;exact⟨_,rfl,v6,by rw[show decide (((xs.filter (jr t)).length:Int)<100)=decide ((xs.filter (jr t)).length<100) by rw[decide_eq_decide];omega],hfin,efin⟩
end
end Go.Proofs.YtoickfdopobmgaaGreatDoor
namespace Go.Proofs.YtoickfdopobmgaaGreatDoor
open Go Go.Lw
set_option maxRecDepth 20000
section
variable {e:Int}
def L4 (b:Int):PS->Prop
  |.ok r=>∀u∈r,0<=u.2.2/\u.2.2<=b
  |.bad m=>0<=m/\m<=b
theorem zG (he:0<=e){s:PS}(h:L4 e s):L4 e (cI e s):=by
  cases s with
  |bad m=>exact h
  |ok r=>cases r with
    |nil=>exact⟨he,Int.le_refl _⟩
    |cons u r=>exact h u (by simp)
theorem MP (he:0<=e){n:Nat}{j:Dp}{s:PS}{t:Tr}{s':PS}(h:pM e n j s=some (t,s')) (k:L4 e s):L4 e s' :=
  Ea e (fun s s'=>L4 e s->L4 e s') (fun _ q=>q) (fun p q r=>q (p r)) (fun q u hu=>q u (List.mem_cons_of_mem _ hu)) (zG he) n j s t s' h k
theorem pY {e:Int}(he:0<=e):∀{n:Nat}{l:List Tr}{s:PS}{K:List Tr}{F:PS},cg e n l s=some (K,F)->L4 e s->L4 e F
  | 0,_,_,_,_,h,_=>by cases h
  |n+1,l,s,K,F,h,k=>by
    rw[cg] at h
    by_cases h0:s.len=0
    · rw[if_pos h0] at h;cases h;exact k
    rw[if_neg h0] at h;cases hp:pM e n .stmt s with
    |none=>rw[hp] at h;cases h
    |some p =>
      rw[hp] at h;simp only[Option.bind_some] at h;have k1:=MP he hp k
      rcases hi:bW 6 [[59]] p.2 with ⟨o,s2⟩
      rw[hi] at h;cases o with
      |some x =>
        refine pY he h ?_;obtain⟨u,r,h1,rfl,_⟩:=lW hi;rw[h1] at k1;exact fun v hv=>k1 v (List.mem_cons_of_mem _ hv)
      |none =>
        refine pY he h ?_;have:=aJ hi;subst this;split
        · exact k1
        · exact zG he k1
theorem xE {b:Int}{x:By}:∀{l:List Un},(∀u∈l,0<=u.2.2/\u.2.2<=b)->∀u∈iB x l,0<=u.2.2/\u.2.2<=b
  | [],_,_,hu=>by cases hu
  | [v],h,u,hu=>by
    simp only[iB,List.mem_singleton] at hu;subst hu;exact h v (by simp)
  |v::w::l,h,u,hu=>by
    rcases List.mem_cons.1 (show u∈v::iB x (w::l) from hu) with rfl|hu
    · exact h _ (by simp)
    · exact xE (fun z hz=>h z (List.mem_cons_of_mem _ hz)) u hu
def IN (b:Int):UR->Prop
  |.er a e=>(0<=a/\a<=b)/\0<=e/\e<=10
  |.go out _=>∀u∈out,0<=u.2.2/\u.2.2<=b
theorem su {b:Int}{c:Prop}[Decidable c]{x y:UR}(h1:IN b x) (h2:IN b y):IN b (if c then x else y):=by
  split<;>assumption
theorem F9 {s:By}{t:Tok}(ht:yp s t=true){out:List Un}{op:Bool}(h:∀u∈out,0<=u.2.2/\u.2.2<=(s.length:Int)):IN s.length (fR s out op t):=by
  unfold yp at ht;simp only[Bool.and_eq_true,decide_eq_true_eq] at ht;have hp:0<=t.2.1/\t.2.1<=(s.length:Int):=by omega
  unfold fR;refine su ⟨hp,by decide,by decide⟩ (su (su h (su (xE h) (xE h))) (su h (su ⟨hp,by decide,by decide⟩ fun u hu=>?_)))
  rcases List.mem_append.1 hu with hu|hu
  · exact h u hu
  · simp only[List.mem_singleton] at hu;rw[hu];exact hp
theorem yJ {s:By}:∀{l:List Tok}{out:List Un}{op:Bool},(∀t∈l,yp s t=true)->(∀u∈out,0<=u.2.2/\u.2.2<=(s.length:Int))->IN s.length (dX s l out op)
  | [],_,_,_,h=>by rw[dX];exact h
  |t::l,out,op,ht,h=>by
    rw[dX];have:=F9 (op:=op) (ht t (by simp)) h;generalize fR s out op t=r at this;cases r with
    |er a e=>exact this
    |go out' op'=>exact yJ (fun x hx=>ht x (List.mem_cons_of_mem _ hx)) this
theorem D9 {s:By}{l:List Tok}{m:Int}{k:List Tr}{a:Int}(h:cy s l m k a e):(0<=a/\a<=(s.length:Int))/\0<=e/\e<=10:=by
  have hu:(∀a e,eR s l m= .inl (a,e)->(0<=a/\a<=(s.length:Int))/\0<=e/\e<=10)/\∀u,eR s l m= .inr u->∀x∈u,0<=x.2.2/\x.2.2<=(s.length:Int):=by
    unfold eR;split
    · rename_i hall;have:=yJ (out:=[]) (op:=false) (List.all_eq_true.1 hall) (fun _ q=>by cases q);generalize dX s l [] false=r at this;cases r with
      |er a e =>
        refine⟨fun a' e' q=>?_,fun u q=>(by cases q)⟩;cases q;exact this
      |go out op =>
        dsimp only;split
        · refine⟨fun a' e' q=>?_,fun u q=>(by cases q)⟩;cases q;exact⟨⟨by omega,Int.le_refl _⟩,by decide,by decide⟩
        · refine⟨fun a' e' q=>(by cases q),fun u q=>?_⟩;cases q;exact this
    · refine⟨fun a' e' q=>?_,fun u q=>(by cases q)⟩;cases q;exact⟨⟨Int.le_refl _,by omega⟩,by decide,by decide⟩
  cases h with
  |units h=>exact hu.1 _ _ h
  |bad h hp =>
    have:=pY (e:=s.length) (by omega) hp (hu.2 _ h);exact⟨this,by decide,by decide⟩
  |ok _ _=>exact⟨⟨Int.le_refl _,by omega⟩,by decide,by decide⟩
end
end Go.Proofs.YtoickfdopobmgaaGreatDoor
namespace Go.Proofs.YtoickfdopobmgaaGreatDoor
open Go.Proofs.Tryz
open Go Go.Lw
set_option maxRecDepth 20000 set_option maxHeartbeats 4000000
abbrev NN:fQ By:=.flat (fun x=>.string (bs x)) (fun _=>rfl)
theorem zB:∀ws:List By,(dD ws).length=gp ws+(ws.length-1)
 | []=>rfl
 |x::xs=>by
  have:∀l:List By,(l.flatMap fun y=>(10:UInt8)::y).length=gp l+l.length:=by
   intro l
   induction l with
   |nil=>rfl
   |cons y l ih=>rw[List.flatMap_cons,List.length_append,ih];simp[gp];omega
  rw[dD,List.length_append,this];simp[gp];omega
theorem CR {h:ai}{O:Nat->Prop}{v:Value}{ws:List By}(hv:aT NN h O v ws) (hb:(dD ws).length<=1000000000) :
 aq Tryz.prog 24 #[v,.string (bs [10])] h (bw fun r h'=>r= .string (bs (dD ws))/\aj h h'):=by
 obtain⟨oa,n,c,rfl,hsl⟩:=hv.open;have hn:=hsl.len;subst hn;have hjl:=zB ws;have h10:(bs [10]).size=1:=rfl;refine bL ?_;refine af ?_;refine aR (fun h0=>?_) (fun h0=>?_)
 · have:ws=[]:=List.eq_nil_of_length_eq_zero (by omega);subst this;refine af ?_;refine bp ?_;exact⟨_,rfl,rfl,Ext.refl _ _⟩
 · refine af ?_;refine aR (fun h1=>?_) (fun h1=>?_)
   · obtain⟨x,rfl⟩:∃x,ws=[x]:=List.length_eq_one_iff.1 (by omega);obtain⟨b,o,y,ha,_,hy,hc⟩:=hsl.at (show 0 < [x].length from Nat.one_pos);cases hy;refine aX ?_;refine cD ?_;refine aW ?_;refine xp rfl (cz rfl rfl 0 rfl ha Nat.one_pos) ?_;refine xp rfl (aA rfl hc) ?_;refine af ?_;refine bp ?_;exact⟨_,rfl,by simp[dD];rfl,Ext.refl _ _⟩
   · refine af ?_;refine fF rfl (by decide) ?_
     have hq:((9223372036854775807:Int).tdiv ((ws.length:Int)-1))>=2:=by
      rw[Int.tdiv_eq_ediv_of_nonneg (by decide)];exact(Int.le_ediv_iff_mul_le (by omega)).2 (by omega)
     have hq2:((9223372036854775807:Int).tdiv ((ws.length:Int)-1))<=9223372036854775807:=by
      rw[Int.tdiv_eq_ediv_of_nonneg (by decide)];exact Int.ediv_le_self _ (by decide)
     have hq3:IntKind.i64.wrap ((9223372036854775807:Int).tdiv ((ws.length:Int)-1))=((9223372036854775807:Int).tdiv ((ws.length:Int)-1)):=wrap_i64 ⟨by omega,by omega⟩
     iterate 2 refine aX ?_
     refine cD ?_
     iterate 5 refine aW ?_
     refine xp rfl (kU rfl rfl (by omega)) ?_;refine af ?_;refine fe rfl (by rw[hq3];simp;omega) ?_;refine aX ?_;refine cD ?_
     iterate 6 refine aW ?_
     refine xp rfl (ay.IZ rfl rfl ⟨by rw[h10];omega,by rw[h10];omega⟩) ?_;refine xp rfl (ay.xF rfl rfl ⟨by rw[h10];omega,by rw[h10];omega⟩) ?_;refine af ?_;rw[show (0:Int)+((bs [10]).size:Int)*((ws.length:Int)-1)=((ws.length-1+gp (ws.take 0):Nat):Int) by rw[h10,List.take_zero];show _=((ws.length-1+0:Nat):Int);omega];refine Bx (σ:=Nat) (fun i=>[(0,.slice oa ws.length c),(1,.string (bs [10])),(5,.int .i64 ((ws.length-1+gp (ws.take i):Nat):Int)),(39,.slice oa ws.length c),(40,.int .i64 (ws.length:Nat)),(41,.int .i64 (i:Nat))]) (fun i h'=>i<=ws.length/\h'=h) (fun i=>ws.length-i) (0) rfl ⟨rfl,rfl,rfl,rfl,rfl,rfl,trivial⟩ ⟨Nat.zero_le _,rfl⟩ ?_;rintro i g ⟨hi,hg⟩ ih;subst hg;have hsle:=oI ws (i+1);refine Q7 func24 1 [0,1,5,39,40,41,42] rfl ?_;refine kW rfl ?_;refine Kk rfl rfl (fun hlt=>?_) (fun hlt=>?_)
     · have hil:i<ws.length:=by omega
       obtain⟨w,hw⟩:∃w,ws[i]? =some w:=⟨_,List.getElem?_eq_getElem hil⟩
       have hst:=yM hw;have hwz:=aG w;obtain⟨b,o,y,ha,_,hy,hc⟩:=hsl.at hil;rw[hw] at hy;cases hy;refine qB rfl ?_;refine kW rfl ?_;refine G.block rfl rfl ?_;refine xr func24 rfl ?_;refine xp rfl (ay.jZ underlying22 H.Ds rfl rfl i rfl ha (by omega)) ?_;refine xp rfl (dR H.Ns rfl hc) ?_;refine Kv 1 [0,1,5,7,39,40,41,42] rfl ?_;refine kW rfl ?_;refine Q8 func24 1 rfl ?_;refine xp rfl (ay.lV underlying9 rfl) ?_;refine PL 1 rfl rfl (ay.Ie rfl rfl ⟨by omega,by omega⟩) ?_;refine Kv 1 [0,1,5,7,39,40,41,42,49] rfl ?_;refine sU rfl rfl (fun hc=>absurd hc (by simp;omega)) (fun _=>?_);refine qB rfl ?_;refine G.mJ func24 rfl ?_;refine PL 2 rfl rfl (ay.lV underlying9 rfl) ?_;refine xp rfl (ay.xF rfl rfl ⟨by omega,by omega⟩) ?_;refine Kv 1 [0,1,5,7,39,40,41,42,49] rfl ?_;refine G.qx ?_;refine G.mJ func24 rfl ?_;refine xp rfl (ay.xF rfl rfl ⟨by omega,by omega⟩) ?_;refine Kv 1 [0,1,5,7,39,40,41,42,49] rfl ?_;exact ih (i+1) _ _ ⟨rfl,rfl,congrArg (fun x:Int=>some (Value.int .i64 x)) (by rw[hst,hwz];omega),rfl,rfl,rfl,trivial⟩ ⟨by omega,rfl⟩ (by omega)
     · have hie:ws.take i=ws:=List.take_of_length_le (by omega);rw[hie];refine af ?_;refine xo rfl (cO) ?_;rintro _ h1 ⟨rfl,k1,e1,z1⟩;refine af ?_;have k1:aD h1 g.size 109 [.pointer none,.slice none 0 0]:=k1;obtain⟨x,tl,rfl⟩:∃x tl,ws=x::tl:=by cases ws with|nil=>simp at h0|cons x tl=>exact⟨x,tl,rfl⟩
       refine xo rfl (aE rfl (xS k1 _ (by omega))) ?_;rintro _ h2 ⟨hb2,x2⟩;refine af ?_;have e02:=aj.only e1 x2 (Nat.le_refl _);have hxz:=aG x;have hxl:x.length<=gp (x::tl):=by simp[gp]
       obtain⟨b,o,y,ha,_,hy,hc⟩:=(hsl.mv (Mv.ah e02)).at (show 0<(x::tl).length by simp);cases hy;refine xp rfl (cz rfl rfl 0 rfl ha (by simp)) ?_;refine xp rfl (aA rfl hc) ?_;refine xo rfl (aE rfl (cu (bs x) hb2 (by rw[hxz];simp only[List.length_nil];omega))) ?_;rintro _ h3 ⟨rfl,hb3,x3⟩;refine af ?_;rw[eD,List.nil_append] at hb3;have e03:=cM e02 x3 (Nat.le_refl _);have hpart:=hsl.part (i:=1) (j:=(x::tl).length) (by simp) (Nat.le_refl _);rw[List.take_length,List.drop_one,List.tail_cons] at hpart;refine xp rfl (ay.mD underlying22 H.Ds rfl rfl 1 rfl (by simp)) ?_;refine af ?_;refine gY (σ:=Nat) (fun i=>[(65,.int .i64 (i:Nat))]) (fun i h'=>i<=tl.length/\kG h' g.size 109 5 (dD (x::tl.take i))/\aj g h') (fun i=>tl.length-i) (0) ⟨Nat.zero_le _,by simpa [dD] using hb3,e03⟩ rfl ?_;rintro i g4 ⟨hi,hb4,e04⟩ ih;have hjt:=zB (x::tl.take i);have hst:=oI (x::tl) (i+1);rw[List.take_succ_cons] at hst;simp only[List.length_cons,List.length_take] at hjt;simp only[List.length_cons] at hb hjl;have hlc:(x::tl).length-1=tl.length:=rfl;refine af ?_;refine aR (fun hlt4=>?_) (fun hlt4=>?_)
       · have hil:i<tl.length:=by omega
         obtain⟨w,hw⟩:∃w,tl[i]? =some w:=⟨_,List.getElem?_eq_getElem hil⟩
         have hwz:=aG w;have hst2:=oI (x::tl) (i+2);rw[List.take_succ_cons] at hst2;have htk:tl.take (i+1)=tl.take i++[w]:=by rw[List.take_add_one,hw];rfl
         have hs2:gp (x::tl.take (i+1))=gp (x::tl.take i)+w.length:=by rw[htk];simp[gp];omega
         have hjn:dD (x::tl.take (i+1))=(dD (x::tl.take i)++[10])++w:=by rw[htk];simp[dD]
         obtain⟨b5,o5,y5,ha5,_,hy5,hc5⟩:=(hpart.mv (Mv.ah e04)).at (show i<(x::tl).length-1 by omega);rw[hw] at hy5;cases hy5
         iterate 4 refine aX ?_
         refine cD ?_;refine xp rfl (cz rfl rfl i rfl ha5) ?_;refine xp rfl (aA rfl hc5) ?_;refine af ?_;refine xo rfl (aE rfl (cu (bs [10]) hb4 (by rw[h10];omega))) ?_;rintro _ h5 ⟨rfl,hb5,x5⟩;refine af ?_;rw[eD] at hb5;refine xo rfl (aE rfl (cu (bs w) hb5 (by rw[hwz,List.length_append];simp only[List.length_cons,List.length_nil];omega))) ?_;rintro _ h6 ⟨rfl,hb6,x6⟩;refine af ?_;rw[eD,<-hjn] at hb6;exact ih (i+1) ⟨by omega,hb6,cM (cM e04 x5 (Nat.le_refl _)) x6 (Nat.le_refl _)⟩
       · have hie:tl.take i=tl:=List.take_of_length_le (by omega);rw[hie] at hb4;refine af ?_;refine xo rfl (aE rfl (iK hb4 (by omega))) ?_;rintro _ h5 ⟨rfl,x5⟩;refine af ?_;refine bp ?_;exact⟨_,rfl,rfl,cM e04 x5 (Nat.le_refl _)⟩
end Go.Proofs.YtoickfdopobmgaaGreatDoor

/- Part 27. -/
import Derived.Test.YtnjahnbpnpkmhaaGreatDoorQz

namespace Go.Proofs.YtnjahnbpnpkmhaaGreatDoor
open Go.Proofs.Tryz
open Go Go.Lw
set_option maxRecDepth 20000 set_option maxHeartbeats 4000000
section
variable {h:aq}{acc o:Nat}
theorem qc (I:Bool) (b:UInt8) (r:By):Bu I (b::r)=if b=92 then gL r else if b∈bH/\(I=true\/(b≠45/\b≠94)) then none else some (b,r):=rfl
theorem lQ (s:By) (i:Nat) (_hi:i<=s.length) (hs:s.length<=1000000) (inb:Bool):au prog 163 #[.string (bs s),.int .i64 (i:Nat),.bool inb] h (bK λr h'=>Qu s (Bu inb (s.drop i)) r/\h'=h):=by
 have hz:=aJ s;refine bJ ?_;refine af ?_;refine xo rfl (aE rfl (fQ s i)) ?_;rintro _ _ ⟨rfl,rfl⟩;refine af ?_;refine aN (λhneg=>?_) (λhneg=>?_)
 · have hd:s.drop i=[]:=by
    rcases cN s i with ⟨_,hd,_⟩|⟨c,_,_,_,ha⟩
    · exact hd
    · omega
   rw[hd];refine af ?_;refine aP ?_;exact⟨_,rfl,⟨0,rfl⟩,rfl⟩
 · obtain⟨c,hc,hlt,hd,ha⟩:∃c,s[i]? =some c/\i<s.length/\s.drop i=c::s.drop (i+1)/\vF s i=(c.toNat:Nat):=by
    rcases cN s i with ⟨_,_,ha⟩|k
    · omega
    · exact k
   have hcl:=c.toNat_lt;rw[hd,ha];rw[ha] at hneg;refine af ?_;refine aN (λhne=>?_) (λhne=>?_)
   · have hne:¬c=92:=λe=>hne (by rw[e];rfl)
     iterate 2 refine aQ ?_
     refine dU [(30,.bool (decide (c∈bH/\(inb=true\/(c≠45/\c≠94)))))] rfl ?_ ?_
     · refine af ?_;refine xo rfl (aE rfl (vN c▸uD c)) ?_;rintro _ _ ⟨rfl,rfl⟩;refine af ?_;refine cX 20 (λhsp=>?_) (λhsp=>?_)
       · have hsp:c∈bH:=of_decide_eq_true hsp;refine af ?_;refine cX 22 (λhin=>?_) (λhin=>?_)
         · refine af ?_;exact aD rfl ⟨ai rfl (by simp[hsp,hin]),sb rfl⟩
         · refine af ?_;refine cX 25 (λh45=>?_) (λh45=>?_)
           · have h45:c≠45:=λe=>(of_decide_eq_true h45) ((bz rfl).2 e)
             refine af ?_;exact aD rfl ⟨ai rfl (by simp only[hin,hsp,true_and];simp only[Bool.false_eq_true,false_or,ne_eq,h45,not_false_eq_true,true_and];exact decide_eq_decide.2 (not_congr (bz rfl))),sb rfl⟩
           · have h45:c=45:=(bz rfl).1 (Classical.not_not.1 (of_decide_eq_false h45));refine af ?_;exact aD rfl ⟨ai rfl (by simp[hin,h45]),sb rfl⟩
       · have hsp:¬c∈bH:=of_decide_eq_false hsp;refine af ?_;exact aD rfl ⟨ai rfl (by simp[hsp]),sb rfl⟩
     · refine aN (λhno=>?_) (λhno=>?_)
       · have hl:Bu inb (c::s.drop (i+1))=none:=by rw[qc,if_neg hne,if_pos hno]
         refine af ?_;refine aP ?_;exact⟨_,rfl,by rw[hl];exact⟨0,rfl⟩,rfl⟩
       · have hl:Bu inb (c::s.drop (i+1))=some (c,s.drop (i+1)):=by rw[qc,if_neg hne,if_neg hno]
         refine af ?_;refine aP ?_;exact⟨_,rfl,by rw[hl];exact⟨i+1,by omega,rfl,by rw[vN];rfl⟩,rfl⟩
   · have he92:c=92:=(bz rfl).1 (Classical.not_not.1 hne);have hl:Bu inb (c::s.drop (i+1))=gL (s.drop (i+1)):=by rw[qc,if_pos he92]
     rw[hl];refine af ?_;refine xo rfl (aE rfl (OK s (i+1) rfl)) ?_;rintro _ _ ⟨rfl,rfl⟩;refine af ?_
     rcases cN s (i+1) with ⟨hlen,hd1,ha1⟩|⟨d,hdc,hlt1,hd1,ha1⟩
     · rw[hd1,ha1];refine dB rfl (by decide) ?_;refine af ?_;refine dB rfl (by decide) ?_;refine af ?_;refine dB rfl (by decide) ?_
       iterate 3 refine aQ ?_
       refine dU [(75,.bool false)] rfl ?_ ?_
       · refine af ?_;refine RW.bw (d:=53) (b':=false) rfl (decide_eq_false (by decide)) ?_;refine af ?_;exact aD rfl ⟨ai rfl (rfl),sb rfl⟩
       · refine dB rfl (by decide) ?_
         iterate 3 refine aQ ?_
         refine dU [(97,.bool false)] rfl ?_ ?_
         · refine af ?_;refine RW.bw (d:=93) (b':=false) rfl (decide_eq_false (by decide)) ?_;refine af ?_;exact aD rfl ⟨ai rfl (rfl),sb rfl⟩
         · refine dB rfl (by decide) ?_;refine af ?_;refine aP ?_;exact⟨_,rfl,⟨0,rfl⟩,rfl⟩
     · have hdl:=d.toNat_lt;rw[hd1,ha1,show i+1+1=i+2 from rfl];refine aN (λe1=>?_) (λe1=>?_)
       · have e1:d=110:=(bz rfl).1 e1;refine af ?_;refine aP ?_;exact⟨_,rfl,by rw[show gL (d::s.drop (i+2))=some (10,s.drop (i+2)) by unfold gL;simp[e1]];exact⟨i+2,by omega,rfl,rfl⟩,rfl⟩
       · have e1:¬d=110:=λe=>e1 ((bz rfl).2 e)
         refine af ?_;refine aN (λe2=>?_) (λe2=>?_)
         · have e2:d=116:=(bz rfl).1 e2;refine af ?_;refine aP ?_;exact⟨_,rfl,by rw[show gL (d::s.drop (i+2))=some (9,s.drop (i+2)) by unfold gL;simp[e2]];exact⟨i+2,by omega,rfl,rfl⟩,rfl⟩
         · have e2:¬d=116:=λe=>e2 ((bz rfl).2 e)
           refine af ?_;refine aN (λe3=>?_) (λe3=>?_)
           · have e3:d=114:=(bz rfl).1 e3;refine af ?_;refine aP ?_;exact⟨_,rfl,by rw[show gL (d::s.drop (i+2))=some (13,s.drop (i+2)) by unfold gL;simp[e3]];exact⟨i+2,by omega,rfl,rfl⟩,rfl⟩
           · have e3:¬d=114:=λe=>e3 ((bz rfl).2 e)
             iterate 3 refine aQ ?_
             refine dU [(75,.bool (decide (d=120/\((s[i+2]?).bind de).isSome=true/\((s[i+3]?).bind de).isSome=true)))] rfl ?_ ?_
             · refine af ?_;refine cX 53 (λh120=>?_) (λh120=>?_)
               · have h120:d=120:=(bz rfl).1 (of_decide_eq_true h120);refine af ?_;refine cX 60 (λhlen3=>?_) (λhlen3=>?_)
                 · have hlen3:i+3<s.length:=by have:=of_decide_eq_true hlen3;omega
                   have hx:s[i+2]? =some s[i+2]:=List.getElem?_eq_getElem (by omega);have hy:s[i+3]? =some s[i+3]:=List.getElem?_eq_getElem hlen3;generalize s[i+2]=x at hx;generalize s[i+3]=y at hy;refine af ?_;refine xp rfl (tq rfl rfl (i+2) rfl (eH hx)) ?_;refine xo rfl (aE rfl (nO x)) ?_;rintro _ _ ⟨rfl,rfl⟩;refine af ?_;refine cX 68 (λhdx=>?_) (λhdx=>?_)
                   · obtain⟨m,hm,_,_⟩:=tR.1 (of_decide_eq_true hdx);refine af ?_;refine xp rfl (tq rfl rfl (i+3) rfl (eH hy)) ?_;refine xo rfl (aE rfl (nO y)) ?_;rintro _ _ ⟨rfl,rfl⟩;refine af ?_;exact aD rfl ⟨ai rfl (by rw[decide_eq_decide];rw[hx,hy];exact⟨λk=>by obtain⟨n,hn,_,_⟩:=tR.1 k;exact⟨h120,by simp[hm],by simp[hn]⟩,fun⟨_,_,a3⟩=>by obtain⟨n',a4⟩:=Option.isSome_iff_exists.1 a3;exact tR.2 ⟨n',a4,mM a4,by unfold ry;rw[show de y=some n' from a4]⟩⟩),sb rfl⟩
                   · have hdx:=Hr (of_decide_eq_false hdx);refine af ?_;exact aD rfl ⟨ai rfl (by rw[eq_comm,decide_eq_false_iff_not,hx];rintro⟨_,a2,_⟩;simp[hdx] at a2),sb rfl⟩
                 · have hlen3:¬i+3<s.length:=by have:=of_decide_eq_false hlen3;omega
                   refine af ?_;exact aD rfl ⟨ai rfl (by rw[eq_comm,decide_eq_false_iff_not];rintro⟨_,_,a3⟩;rw[List.getElem?_eq_none (by omega)] at a3;cases a3),sb rfl⟩
               · have h120:¬d=120:=λe=>(of_decide_eq_false h120) ((bz rfl).2 e)
                 refine af ?_;exact aD rfl ⟨ai rfl (by simp[h120]),sb rfl⟩
             · refine aN (λhx=>?_) (λhx=>?_)
               · obtain⟨h120,x,y,m,n,hx,hy,hm,hn⟩:d=120/\∃x y m n,s[i+2]? =some x/\s[i+3]? =some y/\de x=some m/\de y=some n:=by
                  obtain⟨a1,a2,a3⟩:=hx;cases hx2:s[i+2]? with
                  |none=>rw[hx2] at a2;cases a2
                  |some x =>
                   cases hx3:s[i+3]? with
                   |none=>rw[hx3] at a3;cases a3
                   |some y =>
                    rw[hx2] at a2;rw[hx3] at a3;obtain⟨m,hm⟩:=Option.isSome_iff_exists.1 a2;obtain⟨n,hn⟩:=Option.isSome_iff_exists.1 a3;exact⟨a1,x,y,m,n,rfl,rfl,hm,hn⟩
                 have hm16:=mM hm;have hn16:=mM hn;have hix:ry x=m:=by unfold ry;rw[hm]
                 have hiy:ry y=n:=by unfold ry;rw[hn]
                 have hlx:=(List.getElem?_eq_some_iff.1 hx)
                 have hly:=(List.getElem?_eq_some_iff.1 hy)
                 have hdx:s.drop (i+2)=x::s.drop (i+3):=by rw[List.drop_eq_getElem_cons hlx.1,hlx.2]
                 have hdy:s.drop (i+3)=y::s.drop (i+4):=by rw[List.drop_eq_getElem_cons hly.1,hly.2]
                 have hl2:=hly.1;refine af ?_;refine rP ?_;refine af ?_;refine bF rfl (tq rfl rfl (i+2) rfl (eH hx)) ?_;refine Pd (nO x) ?_;refine bF rfl (az.Jg rfl rfl ⟨by rw[hix];omega,by rw[hix];omega⟩) ?_;refine af ?_;refine bF rfl (tq rfl rfl (i+3) rfl (eH hy)) ?_;refine Pd (nO y) ?_;refine bF rfl (az.ow rfl rfl ⟨by rw[hix,hiy];omega,by rw[hix,hiy];omega⟩) ?_;refine af ?_;refine aP ?_;exact⟨_,rfl,by rw[show gL (d::s.drop (i+2))=some (UInt8.ofNat (m*16+n),s.drop (i+4)) by rw[hdx,hdy];unfold gL;simp[h120,hm,hn]];exact⟨i+4,by omega,rfl,by rw[hix,hiy,P7 hm16 hn16];rfl⟩,rfl⟩
               · iterate 3 refine aQ ?_
                 refine dU [(97,.bool (decide (d∈bH)))] rfl ?_ ?_
                 · refine af ?_;refine RW.bw (d:=93) (b':=true) rfl (decide_eq_true (by omega)) ?_;refine af ?_;refine xo rfl (aE rfl (vN d▸uD d)) ?_;rintro _ _ ⟨rfl,rfl⟩;refine af ?_;exact aD rfl ⟨ai rfl (rfl),sb rfl⟩
                 · have hno:d=120->gL (d::s.drop (i+2))=none:=λh120=>by
                    subst h120;unfold gL;simp only[show ¬((120:UInt8)=110) by decide,show ¬((120:UInt8)=116) by decide,show ¬((120:UInt8)=114) by decide,if_false,if_true];split
                    · rename_i x y t ht;have h2:s[i+2]? =some x:=by have:=congrArg (·[0]?) ht;simpa using this
                      have h3:s[i+3]? =some y:=by have:=congrArg (·[1]?) ht;simpa using this
                      split
                      · rename_i m n hm hn;exact absurd ⟨rfl,by rw[h2];simp[hm],by rw[h3];simp[hn]⟩ hx
                      · rfl
                    · rfl
                   refine aN (λhsp=>?_) (λhsp=>?_)
                   · refine af ?_;refine aP ?_;have h120:¬d=120:=λe=>by rw[e] at hsp;revert hsp;decide
                     exact⟨_,rfl,by rw[show gL (d::s.drop (i+2))=some (d,s.drop (i+2)) by unfold gL;simp[e1,e2,e3,h120,hsp]];exact⟨i+2,by omega,rfl,by rw[vN];rfl⟩,rfl⟩
                   · have hfin:gL (d::s.drop (i+2))=none:=by
                      by_cases h120:d=120
                      · exact hno h120
                      · unfold gL;simp[e1,e2,e3,h120,hsp]
                     refine af ?_;refine aP ?_;exact⟨_,rfl,by rw[hfin];exact⟨0,rfl⟩,rfl⟩
theorem NC (x:Nat):((x:Nat):Int).tmod 2=((x%2:Nat):Int):=by rw[Int.tmod_eq_emod_of_nonneg (Int.natCast_nonneg _)];omega
theorem kK (s:Nat):∀v∈cn s,v.oneCell'=true:=by
 intro v I;simp[cn,dW] at I
 rcases I with rfl|rfl|rfl|rfl<;>rfl
theorem uW (s q:Nat) (I:q<4):(cn s)[0+q*1]? =some (dW s q):=by
 match q,I with
 | 0,_=>rfl
 | 1,_=>rfl
 | 2,_=>rfl
 | 3,_=>rfl
theorem DF (s:Nat) (i:Nat) (hi:i<256):(cn s).set (0+i / 64*1) (.int .u64 ((zE s (i / 64) ||| 2 ^ (i%64):Nat):Int))=cn (s |||(1 <<< i)):=by
 have h:=C3 0 s (.bool true) i hi;have I:=congrArg (λl=>(l.drop 1).take 4) h;have J:i / 64<4:=by omega
 generalize i / 64=q at *
 match q,J with
 | 0,_=>exact I
 | 1,_=>exact I
 | 2,_=>exact I
 | 3,_=>exact I
theorem rA (s:Nat) (b:UInt8):au prog 132 #[.agg (cn s).toArray,.int .u8 (b.toNat:Nat)] h (bK λr h'=>r= .bool (s.testBit b.toNat)/\aj h h'):=by
 have hb:=b.toNat_lt;have hq:b.toNat / 64<4:=by omega
 have hcv:IntKind.i64.wrap ((b.toNat:Nat):Int)=((b.toNat:Nat):Int):=wrap_i64 ⟨by omega,by omega⟩
 have hdiv:IntKind.i64.wrap (((b.toNat:Int)).tdiv 64)=((b.toNat / 64:Nat):Int):=by
  rw[Int.tdiv_eq_ediv_of_nonneg (by omega),wrap_i64 ⟨by omega,by omega⟩];omega
 have hmod:((b.toNat:Int)).tmod 64=((b.toNat%64:Nat):Int):=by rw[Int.tmod_eq_emod_of_nonneg (by omega)];omega
 have hm64:b.toNat%64<64:=Nat.mod_lt _ (by decide);refine bJ ?_;refine af ?_;refine xo rfl (mh) ?_;rintro _ h1 ⟨rfl,hk,he,hz⟩;have hk:aC h1 h.size 102 (cn s):=hk;refine aR ?_;refine cO ?_;refine aQ ?_;refine cI ?_;refine aR ?_;refine xp rfl (AA rfl hcv) ?_;refine xp rfl (gw rfl rfl (by decide)) ?_;refine xp rfl (y8 rfl rfl (b.toNat / 64) hdiv hq) ?_;refine xp rfl (aA rfl (hk.cell (uW s _ hq))) ?_;refine aR ?_;refine xp rfl (AA rfl hcv) ?_;refine xp rfl (iB rfl rfl (by decide)) ?_;refine xp rfl (Gi rfl rfl (by rw[hmod];omega)) ?_;refine xp rfl (iB rfl rfl (by decide)) ?_;refine af ?_;refine aP ?_;refine⟨_,rfl,?_,he⟩
 show Value.bool _=_
 rw[hmod,LS _ _ hm64,NC,Fw];cases s.testBit b.toNat<;>rfl
theorem Ke {x k:Nat}(hx:x<2 ^ 64) (hk:k<64) (I:x.testBit k=false):x+2 ^ k=x ||| 2 ^ k:=by
 have h2:2 ^ k<2 ^ 64:=Nat.pow_lt_pow_right (by decide) hk
 have hand:(BitVec.ofNat 65 x) &&& (BitVec.ofNat 65 (2 ^ k))=0#65:=by
  apply BitVec.eq_of_toNat_eq
  rw[BitVec.toNat_and,BitVec.toNat_ofNat,BitVec.toNat_ofNat,Nat.mod_eq_of_lt (by omega),Nat.mod_eq_of_lt (by omega)]
  apply Nat.eq_of_testBit_eq
  intro i;rw[Nat.testBit_and,Nat.testBit_two_pow]
  by_cases e:k=i
  · subst e;simp[I]
  · simp[e]
 have h:=congrArg BitVec.toNat (BitVec.add_eq_or_of_and_eq_zero _ _ hand);rw[BitVec.toNat_add,BitVec.toNat_or,BitVec.toNat_ofNat,BitVec.toNat_ofNat,Nat.mod_eq_of_lt (show x<2 ^ 65 by omega),Nat.mod_eq_of_lt (show 2 ^ k<2 ^ 65 by omega),Nat.mod_eq_of_lt (by omega)] at h;exact h
theorem KN {s i:Nat}(h:s.testBit i=true):s |||(1 <<< i)=s:=by
 apply Nat.eq_of_testBit_eq
 intro j;rw[Nat.testBit_or,Nat.one_shiftLeft,Nat.testBit_two_pow]
 by_cases e:i=j
 · subst e;simp[h]
 · simp[e]
theorem iK (s a b:Nat) (hb:b<=255) (ha:a<=256):au prog 162 #[.agg (cn s).toArray,.int .i64 (a:Nat),.int .i64 (b:Nat)] h (bK λr h'=>r= .agg (cn (jF s a (b+1-a))).toArray/\aj h h'):=by
 refine bJ ?_;refine af ?_;refine xo rfl (mh) ?_;rintro _ h1 ⟨rfl,hk,he,hz⟩;refine xo rfl (cL) ?_;rintro _ h2 ⟨rfl,hk2,he2,hz2⟩;have hk:aC h1 h.size 102 (cn s):=hk;have hk1:=hk.ah he2;have hk2:aC h2 h1.size 102 (cn 0):=hk2;refine af ?_;refine fK (σ:=Nat×Nat) (λq=>[(7,.int .i64 (q.1:Nat))]) (λq h'=>aC h' h.size 102 (cn q.2)/\aC h' h1.size 102 (cn 0)/\aj h h'/\q.1<=256/\jF q.2 q.1 (b+1-q.1)=jF s a (b+1-a)) (λq=>b+1-q.1) ((a,s)) ⟨hk1,hk2,he.trans he2,ha,rfl⟩ rfl ?_;rintro⟨i,s'⟩ h3 ⟨hk3,hk33,he3,hi,hsp⟩ ih
 try dsimp only
 dsimp only at hk3 hi hsp;refine af ?_;refine aN (λhle=>?_) (λhle=>?_)
 · rw[wo _ _ _ (by omega)] at hsp;have hi8:i<256:=by omega
   have hub:(UInt8.ofNat i).toNat=i:=by simp;omega
   have hcv:IntKind.u8.wrap ((i:Nat):Int)=(((UInt8.ofNat i).toNat:Nat):Int):=by rw[hub];exact wrap_u8 (by omega)
   have hq:i / 64<4:=by omega
   have hdiv:IntKind.i64.wrap (((i:Int)).tdiv 64)=((i / 64:Nat):Int):=by
    rw[Int.tdiv_eq_ediv_of_nonneg (by omega),wrap_i64 ⟨by omega,by omega⟩];omega
   have hmod:((i:Int)).tmod 64=((i%64:Nat):Int):=by rw[Int.tmod_eq_emod_of_nonneg (by omega)];omega
   refine af ?_;refine xp rfl (cj rfl hk3.row) ?_;refine af ?_;refine xo rfl (aE rfl (hcv▸rA s' (UInt8.ofNat i))) ?_;rintro _ h4 ⟨rfl,he4⟩;refine af ?_;have hk4:=hk3.ah he4;have hk44:=hk33.ah he4;rw[hub];refine jS (λhnot=>?_) (λhnot=>?_)
   · have hbit:s'.testBit i=false:=by simpa using hnot
     have hw:=AN s' (i / 64);have hk4':aC h4 h.size 102 [dW s' 0,dW s' 1,dW s' 2,dW s' 3]:=hk4;refine Gn 12 11 ?_;refine aF 0 ?_;refine bq 1 rfl (λh' e=>gw rfl rfl (by decide)) ?_;refine aF 2 ?_;refine bq 3 rfl (λh' e=>gw rfl rfl (by decide)) ?_;refine bq 4 rfl (λh' e=>y8 rfl rfl (i / 64) hdiv hq) ?_;refine bq 5 rfl (λh' e=>aA rfl (e.old (hk4.cell (uW s' _ hq)))) ?_;refine aF 6 ?_;refine bq 7 rfl (λh' e=>iB rfl rfl (by decide)) ?_;refine bq 8 rfl (λh' e=>B3 rfl rfl (by rw[hmod];omega)) ?_;refine bq 9 rfl (λh' e=>az.add rfl rfl) ?_;refine bq 10 rfl (λh' e=>y8 rfl rfl (i / 64) hdiv hq) ?_;refine gU 11 rfl (iG rfl rfl hk4') ?_;rintro _ h5 ⟨rfl,hk5,hx5,hz5⟩;refine⟨nofun,?_⟩;refine fV ?_;refine af ?_
     have hval:IntKind.u64.wrap (((zE s' (i / 64):Nat):Int)+IntKind.u64.wrap (1*2 ^ min (((i:Int)).tmod 64).toNat IntKind.u64.bits))=((zE s' (i / 64) ||| 2 ^ (i%64):Nat):Int):=by
      have hm64:i%64<64:=Nat.mod_lt _ (by decide)
      have hbw:(zE s' (i / 64)).testBit (i%64)=false:=by
       rw[lq,show 64*(i / 64)+i%64=i from Nat.div_add_mod i 64,hbit];simp
      rw[hmod,LU,<-Ke hw hm64 hbw];have h2:2 ^ (i%64)<2 ^ 64:=Nat.pow_lt_pow_right (by decide) hm64;have h3:zE s' (i / 64) ||| 2 ^ (i%64)<2 ^ 64:=Nat.or_lt_two_pow hw h2;rw[<-Ke hw hm64 hbw] at h3;generalize 2 ^ (i%64)=p at *;rw[mj ⟨by omega,by omega⟩];omega
     have hk5:aC h5 h.size 102 (cn (s' |||(1 <<< i))):=by rw[<-DF s' i hi8,<-hval];exact hk5
     exact ih (i+1,s' |||(1 <<< i)) ⟨hk5,hk44.ext hx5 (by show ¬_=_;omega),aj.only (he3.trans he4) hx5 (Nat.le_refl _),by show i+1<=256;omega,by show jF _ (i+1) (b+1-(i+1))=_;rw[<-hsp];rfl⟩
   · have hbit:s'.testBit i=true:=by simpa using hnot
     rw[KN hbit] at hsp;refine af ?_;exact ih (i+1,s') ⟨hk4,hk44,he3.trans he4,by show i+1<=256;omega,by show jF _ (i+1) (b+1-(i+1))=_;rw[<-hsp];rfl⟩
 · have h0:b+1-i=0:=by omega
   rw[h0] at hsp;have hsp:s'=jF s a (b+1-a):=hsp;subst hsp;refine af ?_;refine xp rfl (cj rfl hk3.row) ?_;refine aO rfl (aZ rfl rfl hk33 (kK _)) ?_;rintro _ h4 ⟨rfl,hk4,hx4,hz4⟩;refine af ?_;have hk4:aC h4 h1.size 102 (cn (jF s a (b+1-a))):=hk4;refine cE (cz rfl hk4.row cD) ?_;exact⟨_,rfl,rfl,aj.only he3 hx4 (by omega)⟩
theorem CD:∀(n s a:Nat),s<2 ^ 256->a+n<=256->jF s a n<2 ^ 256
 | 0,s,a,h,_=>h
 |n+1,s,a,h,hn=>CD n _ _ (Nat.or_lt_two_pow h (by rw[Nat.one_shiftLeft];exact Nat.pow_lt_pow_right (by decide) (by omega))) (by omega)
def HU (n0:Nat) (h':aq) (s:By) (p:Option (Nd×By)) (r:Value):Prop :=
 match p with
 |none=>∃(k st:Nat) (w:Value),w.oneCell'=true/\r= .tuple #[.agg (bP k st w).toArray,.int .i64 (-1)]
 |some (x,t)=>∃(w:Value) (k:Nat),k<=s.length/\t=s.drop k/\r= .tuple #[.agg (bP x.kind x.set w).toArray,.int .i64 (k:Nat)]/\aI h' (B8 n0) (bP x.kind x.set w) x
theorem CE (a b:UInt8) (h:acc<2 ^ 256) (hab:a.toNat<=b.toNat+1):j9 acc a b<2 ^ 256:=CD _ _ _ h (by have:=a.toNat_lt;have:=b.toNat_lt;omega)
theorem GZ (J:acc<2 ^ 256) (I:∀i,o.testBit i=(decide (i<256) && !acc.testBit i)):o=jt acc:=by
 apply Nat.eq_of_testBit_eq
 intro i;unfold jt;rw[I,Nat.testBit_xor,show Fb=2 ^ 256-1 from rfl,Nat.testBit_two_pow_sub_one]
 by_cases hi:i<256
 · simp[hi]
 · have:acc.testBit i=false:=Nat.testBit_lt_two_pow (Nat.lt_of_lt_of_le J (Nat.pow_le_pow_right (by decide) (by omega)));simp[hi,this]
theorem fR (s:By) (j:Nat) (c:UInt8):(vF s j=(c.toNat:Nat))↔(s.drop j).head? =some c:=by
 rcases cN s j with ⟨_,I,J⟩|⟨d,_,_,I,J⟩
 · rw[I,J];constructor
   · intro e;omega
   · intro e;cases e
 · rw[I,J];simp only[List.head?_cons,Option.some.injEq];exact⟨λe=>UInt8.toNat_inj.1 (by omega),λe=>by rw[e]⟩
theorem tail_drop (s:By) (j:Nat):(s.drop j).tail=s.drop (j+1):=by rw[List.tail_drop]
theorem wY (k s:Nat) (w:Value):∀(j:Nat) (v:Value),(cn s)[j]? =some v->(bP k s w)[1+j]? =some v
 | 0,_,h=>h
 | 1,_,h=>h
 | 2,_,h=>h
 | 3,_,h=>h
 |_+4,_,h=>by simp[cn] at h
theorem HH {b:Nat}(h:∀i,o.testBit i=(decide (i<b) && !acc.testBit i)) (J:acc.testBit b=false) (i:Nat):(o |||(1 <<< b)).testBit i=(decide (i<b+1) && !acc.testBit i):=by
 rw[Nat.testBit_or,h,Nat.one_shiftLeft,Nat.testBit_two_pow]
 by_cases e:b=i
 · subst e;simp[J]
 · by_cases I:i<b
   · simp[e,I,show i<b+1 by omega]
   · simp[e,I,show ¬i<b+1 by omega]
theorem HI {b:Nat}(h:∀i,o.testBit i=(decide (i<b) && !acc.testBit i)) (J:acc.testBit b=true) (i:Nat):o.testBit i=(decide (i<b+1) && !acc.testBit i):=by
 rw[h]
 by_cases e:b=i
 · subst e;simp[J]
 · by_cases I:i<b
   · simp[I,show i<b+1 by omega]
   · simp[I,show ¬i<b+1 by omega]
theorem yq (s:By) (i:Nat) (hi:i<=s.length) (hs:s.length<=1000000):au prog 161 #[.string (bs s),.int .i64 (i:Nat)] h (bK λr h'=>HU h.size h' s (dw (s.drop i)) r/\aj h h'):=by
 have hbr:=qJ (s.drop i);refine bJ ?_;refine af ?_;refine xo rfl (cL) ?_;rintro _ h1 ⟨rfl,hkr,he1,hz1⟩;refine af ?_;refine xp rfl (av (H.Lh _) rfl) ?_;refine xo rfl (cL) ?_;rintro _ h2 ⟨rfl,hk2,he2,hz2⟩;refine aO rfl (aZ rfl rfl hk2) ?_;rintro _ h3 ⟨rfl,hk3,hx3,hz3⟩;have hk3:aC h3 h1.size 182 (bP 1 0 (.slice none 0 0)):=hk3;have hkr:aC h1 h.size 182 (bP 0 0 (.slice none 0 0)):=hkr;have e3:aj h h3:=aj.only (he1.trans he2) hx3 (by omega);have hkr3:aC h3 h.size 182 (bP 0 0 (.slice none 0 0)):=(hkr.ah he2).ext hx3 (by show ¬_=_;omega);refine af ?_;refine xo rfl (aE rfl (fQ s i)) ?_;rintro _ h3 ⟨rfl,rfl⟩;refine af ?_
 have go:∀(nt:Bool) (i1:Nat) (h':aq) (ρ':Env),Sub [(0,.string (bs s)),(1,.int .i64 (i1:Nat)),(4,.pointer (some ⟨h.size,0,none⟩)),(6,.pointer (some ⟨h1.size,0,none⟩)),(7,.bool nt)] ρ'->h'=h3->nt=decide ((s.drop i).head? =some 94)->i1<=s.length->s.drop i1=(if (s.drop i).head? =some 94 then (s.drop i).tail else s.drop i)->G prog 161 f161 [.code [1,1,1,1]] ρ' h' (bK λr h'=>HU h.size h' s (dw (s.drop i)) r/\aj h h'):=by
  rintro nt i1 h3 ρ' hsub rfl hnt hi1 hd1;rw[<-hd1] at hbr;generalize htg:mP true 0 (s.drop i1)=tgt at hbr;refine G.sub (ρ':=[(0,.string (bs s)),(1,.int .i64 (i1:Nat)),(4,.pointer (some ⟨h.size,0,none⟩)),(6,.pointer (some ⟨h1.size,0,none⟩)),(7,.bool nt)]) hsub ?_;refine af ?_;refine fK (σ:=Nat×Nat×Nat) (λq=>[(1,.int .i64 (q.2.2:Nat)),(8,.int .i64 (q.1:Nat))]) (λq h'=>aC h' h1.size 182 (bP 1 q.2.1 (.slice none 0 0))/\aC h' h.size 182 (bP 0 0 (.slice none 0 0))/\aj h h'/\(q.2.2<=s.length/\q.1<=q.2.2/\q.2.1<2 ^ 256)/\mP (q.1 ==0) q.2.1 (s.drop q.2.2)=tgt) (λq=>s.length-q.2.2) ((0,0,i1)) ⟨hk3,hkr3,e3,⟨hi1,Nat.zero_le _,by show (0:Nat)<2 ^ 256;decide⟩,htg⟩ rfl ?_;rintro⟨many,acc,j⟩ h5 ⟨hk5,hkr5,e5,⟨hj,hmj,hacc⟩,hcon⟩ ih
  try dsimp only
  dsimp only at hk5 hj hmj hacc hcon;have hlt5:=hk5.lt
  iterate 2 refine aQ ?_
  refine dU [(29,.bool (decide (¬((many ==0)=false/\(s.drop j).head? =some 93))))] rfl ?_ ?_
  · refine af ?_;refine cX 24 (λhm=>?_) (λhm=>?_)
    · have hm:many=0:=by have:=of_decide_eq_true hm;omega
      refine af ?_;exact aD rfl ⟨ai rfl (by simp[hm]),sb rfl⟩
    · have hm:¬many=0:=by have:=of_decide_eq_false hm;omega
      refine af ?_;refine xo rfl (aE rfl (fQ s j)) ?_;rintro _ h5 ⟨rfl,rfl⟩;refine af ?_;exact aD rfl ⟨ai rfl (by simp only[show (many ==0)=false by simpa using hm,true_and];exact decide_eq_decide.2 (not_congr (fR s j 93))),sb rfl⟩
  · refine aN (λhgo=>?_) (λhgo=>?_)
    · refine af ?_;refine xo rfl (aE rfl (lQ s j hj hs true)) ?_;rintro _ h5 ⟨hl,rfl⟩;rw[Ad] at hl
      rcases hp:nF (s.drop j) with _|⟨a,r⟩<;>rw[hp] at hl
      · obtain⟨b0,rfl⟩:=hl;have hnone:dw (s.drop i)=none:=by rw[hbr,<-hcon,iV hgo (L6 hp)];rfl
        refine af ?_;refine dc rfl (by decide) ?_;refine af ?_;refine xp rfl (cj rfl hk5.row) ?_;refine aO rfl (aZ rfl rfl hkr5 (aI.one (b8 h5 (λ_=>False) 1 acc))) ?_;rintro _ h6 ⟨rfl,hk6,hx6,hz6⟩;refine af ?_;have hk6:aC h6 h.size 182 (bP 1 acc (.slice none 0 0)):=hk6;refine cE (cz rfl hk6.row (rO cD)) ?_;exact⟨_,rfl,by rw[hnone];exact⟨1,acc,_,rfl,rfl⟩,aj.only e5 hx6 (Nat.le_refl _)⟩
      · obtain⟨k,hk,rfl,rfl⟩:=hl;have hrl:=mJ hp;simp only[List.length_drop] at hrl;refine af ?_;refine dB rfl (by simp) ?_;refine af ?_;refine xo rfl (aE rfl (fQ s k)) ?_;rintro _ h5 ⟨rfl,rfl⟩;refine af ?_;refine aN (λh45=>?_) (λh45=>?_)
        · have a1:=(fR s k 45).1 h45
          have hk1:k+1<=s.length:=by
           rcases cN s k with ⟨_,hd,_⟩|⟨_,_,hlt,_,_⟩
           · rw[hd] at a1;cases a1
           · exact hlt
          refine af ?_;refine xo rfl (aE rfl (lQ s (k+1) hk1 hs true)) ?_;rintro _ h5 ⟨hl2,rfl⟩;rw[Ad] at hl2
          rcases hp2:nF (s.drop (k+1)) with _|⟨b,r2⟩<;>rw[hp2] at hl2
          · obtain⟨b0,rfl⟩:=hl2;have hnone:dw (s.drop i)=none:=by rw[hbr,<-hcon,iV hgo (L3 hp a1 (by rw[tail_drop];exact hp2))];rfl
            iterate 5 refine aR ?_
            refine cO ?_;refine aQ ?_;refine dU [(59,.bool true)] rfl ?_ ?_
            · refine af ?_;refine RW.bw (d:=55) (b':=true) rfl (decide_eq_true (by decide)) ?_;refine af ?_;exact aD rfl ⟨ai rfl (rfl),sb rfl⟩
            · refine dc rfl (by decide) ?_;refine af ?_;refine xp rfl (cj rfl hk5.row) ?_;refine aO rfl (aZ rfl rfl hkr5 (aI.one (b8 h5 (λ_=>False) 1 acc))) ?_;rintro _ h6 ⟨rfl,hk6,hx6,hz6⟩;refine af ?_;have hk6:aC h6 h.size 182 (bP 1 acc (.slice none 0 0)):=hk6;refine cE (cz rfl hk6.row (rO cD)) ?_;exact⟨_,rfl,by rw[hnone];exact⟨1,acc,_,rfl,rfl⟩,aj.only e5 hx6 (Nat.le_refl _)⟩
          · obtain⟨k2,hk2',rfl,rfl⟩:=hl2;have hbl:=mJ hp2;simp only[List.length_drop] at hbl;have hf4:=L0 hp a1 (by rw[tail_drop];exact hp2);have hbt:=b.toNat_lt;have hat:=a.toNat_lt
            iterate 5 refine aR ?_
            refine cO ?_;refine aQ ?_;refine dU [(59,.bool (decide (b.toNat<a.toNat)))] rfl ?_ ?_
            · refine af ?_;refine RW.bw (d:=55) (b':=false) rfl (decide_eq_false (by simp)) ?_;refine af ?_;exact aD rfl ⟨ai rfl (by simp),sb rfl⟩
            · refine aN (λhlow=>?_) (λhlow=>?_)
              · rw[if_pos hlow] at hf4;have hnone:dw (s.drop i)=none:=by rw[hbr,<-hcon,iV hgo hf4];rfl
                refine af ?_;refine xp rfl (cj rfl hk5.row) ?_;refine aO rfl (aZ rfl rfl hkr5 (aI.one (b8 h5 (λ_=>False) 1 acc))) ?_;rintro _ h6 ⟨rfl,hk6,hx6,hz6⟩;refine af ?_;have hk6:aC h6 h.size 182 (bP 1 acc (.slice none 0 0)):=hk6;refine cE (cz rfl hk6.row (rO cD)) ?_;exact⟨_,rfl,by rw[hnone];exact⟨1,acc,_,rfl,rfl⟩,aj.only e5 hx6 (Nat.le_refl _)⟩
              · rw[if_neg hlow] at hf4;have hsp:=nP (acc:=acc) hgo hf4;refine af ?_;refine xp rfl (cj rfl (show Lw.rowAt h5 h1.size 1 (cn acc) from hk5.part 1 (wY _ _ _))) ?_;refine aR ?_;refine xp rfl (AA rfl (wrap_i64 ⟨by omega,by omega⟩)) ?_;refine aR ?_;refine xp rfl (AA rfl (wrap_i64 ⟨by omega,by omega⟩)) ?_;refine xo rfl (aE rfl (iK acc a.toNat b.toNat (by omega) (by omega))) ?_;rintro _ h6 ⟨rfl,he6⟩;refine af ?_;refine aO rfl (aZ rfl rfl ((hk5.ah he6)) (kK _)) ?_;rintro _ h7 ⟨rfl,hk7,hx7,hz7⟩;refine af ?_;have hk7:aC h7 h1.size 182 (bP 1 (j9 acc a b) (.slice none 0 0)):=hk7;exact ih (many+1,j9 acc a b,k2) ⟨hk7,(hkr5.ah he6).ext hx7 (by show ¬_=_;omega),aj.only (e5.trans he6) hx7 (by omega),⟨hk2',by show many+1<=k2;omega,CE a b hacc (by omega)⟩,by rw[<-hcon,hsp];rfl⟩
        · have a1:(s.drop k).head? ≠some 45:=λe=>h45 ((fR s k 45).2 e)
          have hf2:=L4 hp a1;have hat:=a.toNat_lt;have hsp:=nP (acc:=acc) hgo hf2;refine af ?_;refine xp rfl (cj rfl (show Lw.rowAt h5 h1.size 1 (cn acc) from hk5.part 1 (wY _ _ _))) ?_;refine aR ?_;refine xp rfl (AA rfl (wrap_i64 ⟨by omega,by omega⟩)) ?_;refine aR ?_;refine xp rfl (AA rfl (wrap_i64 ⟨by omega,by omega⟩)) ?_;refine xo rfl (aE rfl (iK acc a.toNat a.toNat (by omega) (by omega))) ?_;rintro _ h6 ⟨rfl,he6⟩;refine af ?_;refine aO rfl (aZ rfl rfl ((hk5.ah he6)) (kK _)) ?_;rintro _ h7 ⟨rfl,hk7,hx7,hz7⟩;refine af ?_;have hk7:aC h7 h1.size 182 (bP 1 (j9 acc a a) (.slice none 0 0)):=hk7;exact ih (many+1,j9 acc a a,k) ⟨hk7,(hkr5.ah he6).ext hx7 (by show ¬_=_;omega),aj.only (e5.trans he6) hx7 (by omega),⟨hk,by show many+1<=k;omega,CE a a hacc (by omega)⟩,by rw[<-hcon,hsp];rfl⟩
    · have hgo:=Classical.not_not.1 hgo;have htgt:tgt=some (acc,s.drop (j+1)):=by rw[<-hcon];unfold mP;rw[if_pos hgo,tail_drop]
      have hj1:j+1<=s.length:=by
       have a1:=hgo.2
       rcases cN s j with ⟨_,hd,_⟩|⟨_,_,hlt,_,_⟩
       · rw[hd] at a1;cases a1
       · exact hlt
      rw[htgt] at hbr;refine af ?_
      have fin:∀(fs:Nat) (h':aq) (ρ':Env),Sub [(1,.int .i64 (j:Nat)),(4,.pointer (some ⟨h.size,0,none⟩)),(6,.pointer (some ⟨h1.size,0,none⟩))] ρ'->aC h' h1.size 182 (bP 1 fs (.slice none 0 0))->aC h' h.size 182 (bP 0 0 (.slice none 0 0))->aj h h'->dw (s.drop i)=some (.mk 1 fs [],s.drop (j+1))->G prog 161 f161 [.code [1,1,1,1,1,1]] ρ' h' (bK λr h'=>HU h.size h' s (dw (s.drop i)) r/\aj h h'):=by
       rintro fs h8 ρ' hsub hk8 hkr8 e8 hb8;refine G.sub (ρ':=[(1,.int .i64 (j:Nat)),(4,.pointer (some ⟨h.size,0,none⟩)),(6,.pointer (some ⟨h1.size,0,none⟩))]) hsub ?_;refine af ?_;refine xp rfl (cj rfl hk8.row) ?_;refine af ?_;refine aO rfl (aZ rfl rfl hkr8 (aI.one (b8 h8 (λ_=>False) 1 fs))) ?_;rintro _ h9 ⟨rfl,hk9,hx9,hz9⟩;refine af ?_;have hk9:aC h9 h.size 182 (bP 1 fs (.slice none 0 0)):=hk9;refine cE (cz rfl hk9.row (rO cD)) ?_;exact⟨_,rfl,by rw[hb8];exact⟨_,j+1,hj1,rfl,rfl,b8 _ _ _ _⟩,aj.only e8 hx9 (Nat.le_refl _)⟩
      refine jS (λhb=>?_) (λhb=>?_)
      · have hnt':(s.drop i).head? =some 94:=by rw[hnt] at hb;exact of_decide_eq_true hb
        simp only[hnt',if_true] at hbr;refine af ?_;refine xo rfl (cL) ?_;rintro _ h6 ⟨rfl,hk6,he6,hz6⟩;refine af ?_;have hk6:aC h6 h5.size 102 (cn 0):=hk6;refine fK (σ:=Nat×Nat) (λq=>[(13,.int .i64 (q.1:Nat))]) (λq h'=>aC h' h1.size 182 (bP 1 acc (.slice none 0 0))/\aC h' h.size 182 (bP 0 0 (.slice none 0 0))/\aC h' h5.size 102 (cn q.2)/\aj h h'/\q.1<=256/\∀i,q.2.testBit i=(decide (i<q.1) && !acc.testBit i)) (λq=>256-q.1) ((0,0)) ⟨hk5.ah he6,hkr5.ah he6,hk6,e5.trans he6,by decide,by simp⟩ rfl ?_;rintro⟨b,o⟩ h7 ⟨hk7,hkr7,ho7,e7,hb256,hbits⟩ ih2
        try dsimp only
        dsimp only at ho7 hb256 hbits;refine af ?_;refine aN (λhlt=>?_) (λhlt=>?_)
        · have hlt':b<256:=by omega
          have hub:(UInt8.ofNat b).toNat=b:=by simp;omega
          have hcv:IntKind.u8.wrap ((b:Nat):Int)=(((UInt8.ofNat b).toNat:Nat):Int):=by rw[hub];exact wrap_u8 (by omega)
          refine af ?_;refine xp rfl (cj rfl (show Lw.rowAt h7 h1.size 1 (cn acc) from hk7.part 1 (wY _ _ _))) ?_;refine af ?_;refine xo rfl (aE rfl (hcv▸rA acc (UInt8.ofNat b))) ?_;rintro _ h8 ⟨rfl,he8⟩;refine af ?_;rw[hub];refine jS (λhnot=>?_) (λhnot=>?_)
          · have hbit:acc.testBit b=false:=by simpa using hnot
            refine af ?_;refine xp rfl (cj rfl (ho7.ah he8).row) ?_;refine af ?_;refine xo rfl (aE rfl (iK o b b (by omega) (by omega))) ?_;rintro _ h9 ⟨rfl,he9⟩;refine aO rfl (aZ rfl rfl (((ho7.ah he8).ah he9)) (kK _)) ?_;rintro _ h10 ⟨rfl,hk10,hx10,hz10⟩;refine af ?_;have hsp:jF o b (b+1-b)=o |||(1 <<< b):=by rw[show b+1-b=1 by omega];rfl
            have hk10:aC h10 h5.size 102 (cn (o |||(1 <<< b))):=by rw[<-hsp];exact hk10
            exact ih2 (b+1,o |||(1 <<< b)) ⟨((hk7.ah he8).ah he9).ext hx10 (by show ¬_=_;omega),((hkr7.ah he8).ah he9).ext hx10 (by show ¬_=_;omega),hk10,aj.only ((e7.trans he8).trans he9) hx10 (by omega),by show b+1<=256;omega,HH hbits hbit⟩
          · have hbit:acc.testBit b=true:=by simpa using hnot
            refine af ?_;exact ih2 (b+1,o) ⟨hk7.ah he8,hkr7.ah he8,ho7.ah he8,e7.trans he8,by show b+1<=256;omega,HI hbits hbit⟩
        · obtain rfl:b=256:=by omega
          have hno:=GZ hacc hbits;refine af ?_;refine xp rfl (cj rfl ho7.row) ?_;refine af ?_;refine aO rfl (aZ rfl rfl hk7 (kK _)) ?_;rintro _ h8 ⟨rfl,hk8,hx8,hz8⟩;refine cO ?_;have hk8:aC h8 h1.size 182 (bP 1 (jt acc) (.slice none 0 0)):=by rw[<-hno];exact hk8
          exact fin (jt acc) _ _ (by exact sb rfl) hk8 (hkr7.ext hx8 (by show ¬_=_;omega)) (aj.only e7 hx8 (by omega)) hbr
      · have hnt':¬(s.drop i).head? =some 94:=by rw[hnt] at hb;exact of_decide_eq_false hb
        simp only[hnt',if_false] at hbr;refine aQ ?_;exact fin acc _ _ (by exact sb rfl) hk5 hkr5 e5 hbr
 refine jS (λhb=>?_) (λhb=>?_)
 · have hb:vF s i=94:=of_decide_eq_true hb;have a1:=(fR s i 94).1 hb
   have hi1:i+1<=s.length:=by
    rcases cN s i with ⟨_,hd,_⟩|⟨_,_,hlt,_,_⟩
    · rw[hd] at a1;cases a1
    · exact hlt
   refine cI ?_
   iterate 3 refine aR ?_
   refine cO ?_;exact go _ (i+1) _ _ (by exact sb rfl) rfl (by rw[hb];simp[a1]) hi1 (by rw[if_pos a1,tail_drop])
 · have hb:¬vF s i=94:=of_decide_eq_false hb;have a1:¬(s.drop i).head? =some 94:=λe=>hb ((fR s i 94).2 e)
   refine aQ ?_;exact go _ i _ _ (by exact sb rfl) rfl (by rw[decide_eq_false hb];exact(decide_eq_false a1).symm) hi (by rw[if_neg a1])
theorem xM {O:Nat->Prop}{v:Value}{xs:List Nd}(kind:Nat) (hv:aL mX h O v xs):au prog 146 #[.int .i64 (kind:Nat),v] h (bK λr h'=>(∃w,r= .agg (bP (bg kind xs).kind (bg kind xs).set w).toArray/\aI h' O (bP (bg kind xs).kind (bg kind xs).set w) (bg kind xs))/\aj h h'):=by
 obtain⟨oa,n,c,rfl,hsl⟩:=hv.open;have hn:=hsl.len;refine bJ ?_;refine af ?_;refine xo rfl (cL) ?_;rintro _ h1 ⟨rfl,hk,he,hz⟩;refine af ?_;have hk:aC h1 h.size 182 (bP 0 0 (.slice none 0 0)):=hk;have hsl1:=hsl.mv (Mv.ah he);have hv1:=hv.ah he;refine aN (λe0=>?_) (λe0=>?_)
 · obtain rfl:n=0:=by omega
   have hx:xs=[]:=List.eq_nil_of_length_eq_zero hn;subst hx;refine af ?_;refine xp rfl (av (H.yA ) rfl) ?_;refine aO rfl (aZ rfl rfl hk) ?_;rintro _ h2 ⟨rfl,hk2,hx2,hz2⟩;refine af ?_;have hk2:aC h2 h.size 182 (bP 0 0 (.slice none 0 0)):=hk2;refine cE (cz rfl hk2.row cD) ?_;exact⟨_,rfl,⟨_,rfl,b8 _ _ 0 0⟩,aj.only he hx2 (Nat.le_refl _)⟩
 · refine af ?_;refine aN (λe1=>?_) (λe1=>?_)
   · obtain rfl:n=1:=by omega
     obtain⟨x,rfl⟩:=List.length_eq_one_iff.1 hn;obtain⟨b,o,cs,ha,ho,hr,hR⟩:=hsl.get 0 x rfl;have hr:=he.rowAt (λk=>k) hr;obtain⟨w,rfl,hw⟩:=aI.open hR;refine aQ ?_;refine cI ?_;refine aR ?_;refine xp rfl (bZ rfl rfl 0 rfl ha (by decide)) ?_;refine xp rfl (cj rfl hr) ?_;refine aO rfl (aZ rfl rfl hk (mX.one hR)) ?_;rintro _ h2 ⟨rfl,hk2,hx2,hz2⟩;refine af ?_;have hk2:aC h2 h.size 182 (bP x.kind x.set w):=hk2;refine cE (cz rfl hk2.row cD) ?_;exact⟨_,rfl,⟨w,rfl,aI.ah hR (aj.only he hx2 (Nat.le_refl _))⟩,aj.only he hx2 (Nat.le_refl _)⟩
   · refine af ?_;refine xp rfl (av (H.qj _ _ _ _) rfl) ?_;refine aO rfl (aZ rfl rfl hk) ?_;rintro _ h2 ⟨rfl,hk2,hx2,hz2⟩;refine af ?_;have hk2:aC h2 h.size 182 (bP kind 0 (.slice oa n c)):=hk2;refine cE (cz rfl hk2.row cD) ?_
     have hj:bg kind xs= .mk kind 0 xs:=by
      unfold bg;split
      · simp at hn;omega
      · simp at hn;omega
      · rfl
     rw[hj];exact⟨_,rfl,⟨.slice oa n c,rfl,aI.of kind 0 (hv.ah (aj.only he hx2 (Nat.le_refl _)))⟩,aj.only he hx2 (Nat.le_refl _)⟩
def qy (c:Int):Nat:=if c=42 then 4 else if c=43 then 5 else if c=63 then 6 else 0
theorem lD (c:Int):au prog 148 #[.int .i64 c] h (bK λr h'=>r= .int .i64 (qy c:Nat)/\h'=h):=by
 refine bJ ?_;refine af ?_;refine aN (λI=>?_) (λI=>?_)
 · refine af ?_;refine aP ?_;exact⟨_,rfl,by unfold qy;rw[if_pos I];rfl,rfl⟩
 · refine af ?_;refine aN (λJ=>?_) (λJ=>?_)
   · refine af ?_;refine aP ?_;exact⟨_,rfl,by unfold qy;rw[if_neg I,if_pos J];rfl,rfl⟩
   · refine af ?_;refine aN (λU=>?_) (λU=>?_)
     · refine af ?_;refine aP ?_;exact⟨_,rfl,by unfold qy;rw[if_neg I,if_neg J,if_pos U];rfl,rfl⟩
     · refine af ?_;refine aP ?_;exact⟨_,rfl,by unfold qy;rw[if_neg I,if_neg J,if_neg U];rfl,rfl⟩
theorem se (s:By) (j:Nat):qy (vF s j)=ck ((s.drop j).head?.getD 0):=by
 rcases cN s j with ⟨_,I,J⟩|⟨c,_,_,I,J⟩
 · rw[I,J];rfl
 · rw[I,J];simp only[List.head?_cons,Option.getD_some];unfold qy ck;have Z:(((c.toNat:Nat):Int)=42)↔c=42:=bz rfl;have Y:(((c.toNat:Nat):Int)=43)↔c=43:=bz rfl;have U:(((c.toNat:Nat):Int)=63)↔c=63:=bz rfl;simp only[Z,Y,U]
def BY (d:Nat):Prop:=∀(h:aq) (s:By) (i:Nat),i<=s.length->(s.drop i).length<d->s.length<=1000000 ->
 au prog 128 #[.string (bs s),.int .i64 (i:Nat)] h (bK λr h'=>HU h.size h' s (ct d (s.drop i)) r/\aj h h')
theorem iq {k st:Nat}{w:Value}(hw:w.oneCell'=true):∀v∈bP k st w,v.oneCell'=true:=by
 intro v I;simp[bP,dW] at I
 rcases I with rfl|rfl|rfl|rfl|rfl|rfl<;>first|rfl|exact hw
theorem DT {d:Nat}(ih:BY d) (s:By) (i:Nat) (hi:i<=s.length) (hd:(s.drop i).length<=d) (hs:s.length<=1000000):au prog 147 #[.string (bs s),.int .i64 (i:Nat)] h (bK λr h'=>HU h.size h' s (cU (ct d) (s.drop i)) r/\aj h h'):=by
 refine bJ ?_;refine af ?_;refine xo rfl (cL) ?_;rintro _ h1 ⟨rfl,hkr,he1,hz1⟩;refine af ?_;refine xo rfl (aE rfl (fQ s i)) ?_;rintro _ h1 ⟨rfl,rfl⟩;refine af ?_;have hkr:aC h1 h.size 182 (bP 0 0 (.slice none 0 0)):=hkr;refine aN (λc1=>?_) (λc1=>?_)
 · have a1:=(fR s i 40).1 c1
   obtain⟨hlt,hdr⟩:i<s.length/\s.drop i=40::s.drop (i+1):=by
    rcases cN s i with ⟨_,hd,_⟩|⟨c,_,hlt,hd,_⟩
    · rw[hd] at a1;cases a1
    · rw[hd] at a1;simp at a1;subst a1;exact⟨hlt,hd⟩
   rw[hdr];rw[hdr] at hd;simp only[List.length_cons] at hd;refine af ?_;refine xo rfl (aE rfl (ih h1 s (i+1) (by omega) (by omega) hs)) ?_;rintro _ h2 ⟨hv,he2⟩;have hz2:=he2.size;have hkr2:=hkr.ah he2
   rcases hp:ct d (s.drop (i+1)) with _|⟨x,t⟩<;>rw[hp] at hv
   · obtain⟨k,st,w,hw,rfl⟩:=hv;have hat:cU (ct d) (40::s.drop (i+1))=none:=by unfold cU;simp[hp]
     refine af ?_;refine xo rfl (cL) ?_;rintro _ h3 ⟨rfl,hk3,he3,hz3⟩;refine aO rfl (aZ rfl rfl hk3 (iq hw)) ?_;rintro _ h4 ⟨rfl,hk4,hx4,hz4⟩;refine aR ?_;refine cO ?_
     iterate 2 refine aQ ?_
     have hk4:aC h4 h2.size 182 (bP k st w):=hk4;refine dU [(29,.bool true)] rfl ?_ ?_
     · refine af ?_;refine RW.bw (d:=24) (b':=true) rfl (decide_eq_true (by decide)) ?_;refine af ?_;exact aD rfl ⟨ai rfl (rfl),sb rfl⟩
     · refine dc rfl (by decide) ?_;refine af ?_;refine xp rfl (cj rfl hk4.row) ?_;refine aO rfl (aZ rfl rfl (((hkr2.ah he3).ext hx4 (by show ¬_=_;omega))) (iq hw)) ?_;rintro _ h5 ⟨rfl,hk5,hx5,hz5⟩;refine af ?_;have hk5:aC h5 h.size 182 (bP k st w):=hk5;refine cE (cz rfl hk5.row (rO cD)) ?_;exact⟨_,rfl,by rw[hat];exact⟨k,st,w,hw,rfl⟩,aj.only (aj.only ((he1.trans he2).trans he3) hx4 (by omega)) hx5 (Nat.le_refl _)⟩
   · obtain⟨w,k,hk,rfl,rfl,hnd⟩:=hv;refine af ?_;refine xo rfl (cL) ?_;rintro _ h3 ⟨rfl,hk3,he3,hz3⟩;refine aO rfl (aZ rfl rfl hk3 (aI.one hnd)) ?_;rintro _ h4 ⟨rfl,hk4,hx4,hz4⟩;refine aR ?_;refine cO ?_
     iterate 2 refine aQ ?_
     have hk4:aC h4 h2.size 182 (bP x.kind x.set w):=hk4;have hkr4:=(hkr2.ah he3).ext hx4 (by show ¬_=_;omega);have e24:aj h2 h4:=aj.only he3 hx4 (Nat.le_refl _);have hnd4:=hnd.ah e24;have e4:=(he1.trans he2).trans e24;refine dU [(29,.bool (decide (¬(s.drop k).head? =some 41)))] rfl ?_ ?_
     · refine af ?_;refine RW.bw (d:=24) (b':=false) rfl (decide_eq_false (by simp)) ?_;refine af ?_;refine xo rfl (aE rfl (fQ s k)) ?_;rintro _ h4 ⟨rfl,rfl⟩;refine af ?_;exact aD rfl ⟨ai rfl (by exact decide_eq_decide.2 (not_congr (fR s k 41))),sb rfl⟩
     · refine aN (λhno=>?_) (λhno=>?_)
       · have hat:cU (ct d) (40::s.drop (i+1))=none:=by
          unfold cU;simp only[if_true,hp];split
          · rename_i heq;rw[heq] at hno;exact absurd rfl hno
          · rfl
         refine af ?_;refine xp rfl (cj rfl hk4.row) ?_;refine aO rfl (aZ rfl rfl hkr4 (aI.one hnd4)) ?_;rintro _ h5 ⟨rfl,hk5,hx5,hz5⟩;refine af ?_;have hk5:aC h5 h.size 182 (bP x.kind x.set w):=hk5;refine cE (cz rfl hk5.row (rO cD)) ?_;exact⟨_,rfl,by rw[hat];exact⟨x.kind,x.set,w,by obtain⟨w',hw',oa,n,c,rfl,_⟩:=aI.open hnd4;simp[bP] at hw';rw[hw'];rfl,rfl⟩,aj.only e4 hx5 (Nat.le_refl _)⟩
       · have hno:=Classical.not_not.1 hno
         obtain⟨hk1,hdk⟩:k<s.length/\s.drop k=41::s.drop (k+1):=by
          rcases cN s k with ⟨_,hd,_⟩|⟨c,_,hlt,hd,_⟩
          · rw[hd] at hno;cases hno
          · rw[hd] at hno;simp at hno;subst hno;exact⟨hlt,hd⟩
         have hat:cU (ct d) (40::s.drop (i+1))=some (x,s.drop (k+1)):=by unfold cU;simp only[if_true,hp,hdk]
         refine af ?_;refine xp rfl (cj rfl hk4.row) ?_;refine af ?_;refine aO rfl (aZ rfl rfl hkr4 (aI.one hnd4)) ?_;rintro _ h5 ⟨rfl,hk5,hx5,hz5⟩;refine af ?_;have hk5:aC h5 h.size 182 (bP x.kind x.set w):=hk5;refine cE (cz rfl hk5.row (rO cD)) ?_;exact⟨_,rfl,by rw[hat];exact⟨w,k+1,by omega,rfl,rfl,eP hnd4 (by omega) hx5 (λb _ (hb:b=h.size)=>by omega)⟩,aj.only e4 hx5 (Nat.le_refl _)⟩
 · have a1:¬(s.drop i).head? =some 40:=λe=>c1 ((fR s i 40).2 e)
   refine af ?_;refine aN (λc2=>?_) (λc2=>?_)
   · have a2:=(fR s i 91).1 c2
     obtain⟨hlt,hdr⟩:i<s.length/\s.drop i=91::s.drop (i+1):=by
      rcases cN s i with ⟨_,hd,_⟩|⟨c,_,hlt,hd,_⟩
      · rw[hd] at a2;cases a2
      · rw[hd] at a2;simp at a2;subst a2;exact⟨hlt,hd⟩
     have hat:cU (ct d) (s.drop i)=dw (s.drop (i+1)):=by rw[hdr];unfold cU;simp
     rw[hat];refine af ?_;refine xo rfl (aE rfl (yq s (i+1) (by omega) hs)) ?_;rintro _ h2 ⟨hv,he2⟩;have hz2:=he2.size;have hkr2:=hkr.ah he2
     rcases hp:dw (s.drop (i+1)) with _|⟨x,t⟩<;>rw[hp] at hv
     · obtain⟨k,st,w,hw,rfl⟩:=hv;refine af ?_;refine aO rfl (aZ rfl rfl hkr2 (iq hw)) ?_;rintro _ h3 ⟨rfl,hk3,hx3,hz3⟩;refine af ?_;have hk3:aC h3 h.size 182 (bP k st w):=hk3;refine cE (cz rfl hk3.row (rO cD)) ?_;exact⟨_,rfl,⟨k,st,w,hw,rfl⟩,aj.only (he1.trans he2) hx3 (Nat.le_refl _)⟩
     · obtain⟨w,k,hk,rfl,rfl,hnd⟩:=hv;refine af ?_;refine aO rfl (aZ rfl rfl hkr2 (aI.one hnd)) ?_;rintro _ h3 ⟨rfl,hk3,hx3,hz3⟩;refine af ?_;have hk3:aC h3 h.size 182 (bP x.kind x.set w):=hk3;refine cE (cz rfl hk3.row (rO cD)) ?_;exact⟨_,rfl,⟨w,k,hk,rfl,rfl,eP hnd (by omega) hx3 (λb _ (hb:b=h.size)=>by omega)⟩,aj.only (he1.trans he2) hx3 (Nat.le_refl _)⟩
   · have a2:¬(s.drop i).head? =some 91:=λe=>c2 ((fR s i 91).2 e)
     refine af ?_;refine aN (λc3=>?_) (λc3=>?_)
     · have a3:=(fR s i 46).1 c3
       obtain⟨hlt,hdr⟩:i<s.length/\s.drop i=46::s.drop (i+1):=by
        rcases cN s i with ⟨_,hd,_⟩|⟨c,_,hlt,hd,_⟩
        · rw[hd] at a3;cases a3
        · rw[hd] at a3;simp at a3;subst a3;exact⟨hlt,hd⟩
       have hat:cU (ct d) (s.drop i)=some (DG,s.drop (i+1)):=by rw[hdr];unfold cU;simp
       rw[hat];refine af ?_;refine xp rfl (av (H.E8 ) rfl) ?_;refine xo rfl (aE rfl (iK 0 0 9 (by decide) (by decide))) ?_;rintro _ h2 ⟨rfl,he2⟩;refine xo rfl (aE rfl (iK (jF 0 0 10) 11 255 (by decide) (by decide))) ?_;rintro _ h3 ⟨rfl,he3⟩;refine xp rfl (av (H.Aq _ _ _ _ _) rfl) ?_;refine af ?_;refine aO rfl (aZ rfl rfl (((hkr.ah he2).ah he3)) (aI.one (b8 h3 (λ_=>False) 1 DG.set))) ?_;rintro _ h4 ⟨rfl,hk4,hx4,hz4⟩;refine af ?_;have hk4:aC h4 h.size 182 (bP 1 DG.set (.slice none 0 0)):=hk4;refine cE (cz rfl hk4.row (rO cD)) ?_;exact⟨_,rfl,⟨.slice none 0 0,i+1,by omega,rfl,rfl,b8 _ _ _ _⟩,aj.only ((he1.trans he2).trans he3) hx4 (Nat.le_refl _)⟩
     · have a3:¬(s.drop i).head? =some 46:=λe=>c3 ((fR s i 46).2 e)
       have hat:cU (ct d) (s.drop i)=(Bu false (s.drop i)).map λp=>(rH p.1,p.2):=by
        rcases cN s i with ⟨_,hd,_⟩|⟨c,_,hlt,hd,_⟩
        · rw[hd];rfl
        · rw[hd] at a1 a2 a3 ⊢;simp only[List.head?_cons,Option.some.injEq] at a1 a2 a3;rw[qc];unfold cU;simp only[a1,a2,a3,if_false]
          by_cases h92:c=92
          · simp[h92]
          · simp only[h92,if_false]
            have hiff:(c∈[(41:UInt8),93,124,42,43,63])↔(c∈bH/\(false=true\/(c≠45/\c≠94))):=by
             have key:∀n:Fin 256,(UInt8.ofNat n.val≠40->UInt8.ofNat n.val≠91->UInt8.ofNat n.val≠46->UInt8.ofNat n.val≠92->((UInt8.ofNat n.val∈[(41:UInt8),93,124,42,43,63])↔(UInt8.ofNat n.val∈bH/\(false=true\/(UInt8.ofNat n.val≠45/\UInt8.ofNat n.val≠94))))):=by decide +kernel
             have:=key ⟨c.toNat,c.toNat_lt⟩;simp only[UInt8.ofNat_toNat] at this;exact this a1 a2 a3 h92
            by_cases hm:c∈[(41:UInt8),93,124,42,43,63]
            · rw[if_pos hm,if_pos (hiff.1 hm)];rfl
            · rw[if_neg hm,if_neg (λk=>hm (hiff.2 k))];rfl
       rw[hat];refine af ?_;refine xo rfl (aE rfl (lQ s i hi hs false)) ?_;rintro _ h1 ⟨hl,rfl⟩
       rcases hp:Bu false (s.drop i) with _|⟨b,t⟩<;>rw[hp] at hl
       · obtain⟨b0,rfl⟩:=hl;refine af ?_;refine dc rfl (by decide) ?_;refine af ?_;refine xp rfl (av (H.yA ) rfl) ?_;refine aO rfl (aZ rfl rfl hkr) ?_;rintro _ h2 ⟨rfl,hk2,hx2,hz2⟩;refine af ?_;have hk2:aC h2 h.size 182 (bP 0 0 (.slice none 0 0)):=hk2;refine cE (cz rfl hk2.row (rO cD)) ?_;exact⟨_,rfl,⟨0,0,_,rfl,rfl⟩,aj.only he1 hx2 (Nat.le_refl _)⟩
       · obtain⟨k,hk,rfl,rfl⟩:=hl;have hbl:=b.toNat_lt;refine af ?_;refine dB rfl (by simp) ?_;refine af ?_;refine xp rfl (av (H.E8 ) rfl) ?_;refine aR ?_;refine xp rfl (AA rfl (wrap_i64 ⟨by omega,by omega⟩)) ?_;refine aR ?_;refine xp rfl (AA rfl (wrap_i64 ⟨by omega,by omega⟩)) ?_;refine xo rfl (aE rfl (iK 0 b.toNat b.toNat (by omega) (by omega))) ?_;rintro _ h2 ⟨rfl,he2⟩;refine xp rfl (av (H.Aq _ _ _ _ _) rfl) ?_;refine af ?_;refine aO rfl (aZ rfl rfl ((hkr.ah he2)) (aI.one (b8 h2 (λ_=>False) 1 (rH b).set))) ?_;rintro _ h3 ⟨rfl,hk3,hx3,hz3⟩;refine af ?_;have hk3:aC h3 h.size 182 (bP 1 (rH b).set (.slice none 0 0)):=hk3;refine cE (cz rfl hk3.row (rO cD)) ?_;exact⟨_,rfl,⟨.slice none 0 0,k,hk,rfl,rfl,b8 _ _ _ _⟩,aj.only (he1.trans he2) hx3 (Nat.le_refl _)⟩
theorem uu {O O':Nat->Prop}{cs:List Value}{x:Nd}(k:aI h O cs x) (U:∀b,b<h.size->O' b->O b):aI h O' cs x:=k.mv ⟨Nat.le_refl _,λb J I=>⟨rfl,λk=>I (U b J k)⟩⟩
theorem GP (s:By) (j:Nat):iQ (s.drop j)=decide (vF s j<0\/vF s j=41\/vF s j=124):=by
 rcases cN s j with ⟨_,I,J⟩|⟨c,_,_,I,J⟩
 · rw[I,J];rfl
 · rw[I,J];have Y:(((c.toNat:Nat):Int)=41)↔c=41:=bz rfl;have U:(((c.toNat:Nat):Int)=124)↔c=124:=bz rfl;have h0:¬(((c.toNat:Nat):Int)<0):=by omega
   rw[Bool.eq_iff_iff];simp only[iQ,Bool.or_eq_true,beq_iff_eq,decide_eq_true_eq,Y,U,h0,false_or];exact Or.comm
theorem Ev {d:Nat}(ih:BY d) (s:By) (i:Nat) (hi:i<=s.length) (hd:(s.drop i).length<=d) (hs:s.length<=1000000):au prog 128 #[.string (bs s),.int .i64 (i:Nat)] h (bK λr h'=>HU h.size h' s (ct (d+1) (s.drop i)) r/\aj h h'):=by
 have hrl:∀{s x r},ct d s=some (x,r)->r.length<=s.length:=λh=>jT d h
 have hrows:ct (d+1) (s.drop i)=fX (ct d) ((s.drop i).length+1) [] [] (s.drop i):=rfl;generalize htg:fX (ct d) ((s.drop i).length+1) [] [] (s.drop i)=tgt at hrows;rw[hrows];refine bJ ?_;refine af ?_;refine xo rfl (cL) ?_;rintro _ h1 ⟨rfl,hkr,he1,hz1⟩;refine af ?_;have hkr:aC h1 h.size 182 (bP 0 0 (.slice none 0 0)):=hkr;refine fK (σ:=List Nd×List Nd×Value×Value×Nat) (λq=>[(1,.int .i64 (q.2.2.2.2:Nat)),(6,q.2.2.1),(7,q.2.2.2.1)]) (λq h'=>cH mX (λb=>b<h1.size\/bU q.2.2.2.1.ownBlock b) h' h1.size 182 q.2.2.1 q.1/\cH mX (λb=>b<h1.size\/bU q.2.2.1.ownBlock b) h' h1.size 182 q.2.2.2.1 q.2.1/\(∀b,q.2.2.1.ownBlock=some b->q.2.2.2.1.ownBlock=some b->False)/\aC h' h.size 182 (bP 0 0 (.slice none 0 0))/\aj h h'/\(q.2.2.2.2<=s.length/\i<=q.2.2.2.2/\q.1.length+q.2.1.length<=q.2.2.2.2)/\fX (ct d) ((s.drop q.2.2.2.2).length+1) q.1 q.2.1 (s.drop q.2.2.2.2)=tgt) (λq=>s.length-q.2.2.2.2) (([],[],.slice none 0 0,.slice none 0 0,i)) ⟨cH.nil _ _ _ _ _,cH.nil _ _ _ _ _,λb hb=>by simp[Value.ownBlock] at hb,hkr,he1,⟨hi,Nat.le_refl _,Nat.zero_le _⟩,htg⟩ rfl ?_;rintro⟨all,row,va,vr,j⟩ h5 ⟨hva,hvr,hdis,hkr5,e5,⟨hj,hij,hlens⟩,hcon⟩ ih'
 try dsimp only
 dsimp only at hva hvr hdis hj hij hlens hcon;have hz5:=hkr5.lt;have hze5:=e5.size;obtain⟨ca,ha1,ha2,ha3⟩:=id hva;obtain⟨cr,hr1,hr2,hr3⟩:=id hvr;have hoa:∀b,va.ownBlock=some b->h1.size<=b/\b<h5.size:=λb hb=>ha2.lt hb
 have hor:∀b,vr.ownBlock=some b->h1.size<=b/\b<h5.size:=λb hb=>hr2.lt hb
 have hdl:(s.drop j).length=s.length-j:=by simp
 have hdl0:(s.drop i).length=s.length-i:=by simp
 refine af ?_;refine xo rfl (aE rfl (fQ s j)) ?_;rintro _ h5 ⟨rfl,rfl⟩;refine aR ?_;refine cO ?_
 iterate 2 refine aQ ?_
 have hre:=GP s j;rw[fX] at hcon;refine dU [(23,.bool (iQ (s.drop j)))] rfl ?_ ?_
 · refine af ?_;refine cX 16 (λg1=>?_) (λg1=>?_)
   · refine af ?_;exact aD rfl ⟨ai rfl (by rw[hre,eq_comm,decide_eq_true_eq];exact .inl (of_decide_eq_true g1)),sb rfl⟩
   · refine af ?_;refine cX 20 (λg2=>?_) (λg2=>?_)
     · refine af ?_;exact aD rfl ⟨ai rfl (by rw[hre,eq_comm,decide_eq_true_eq];exact .inr (.inl (of_decide_eq_true g2))),sb rfl⟩
     · refine af ?_;exact aD rfl ⟨ai rfl (by rw[hre,decide_eq_decide];have g1:=of_decide_eq_false g1;have g2:=of_decide_eq_false g2;exact⟨λk=>.inr (.inr k),λk=>by rcases k with k|k|k;exact absurd k g1;exact absurd k g2;exact k⟩),sb rfl⟩
 · refine jS (λhend=>?_) (λhend=>?_)
   · rw[if_pos hend] at hcon;have hslr:aL mX h5 (λb=>b<h1.size\/bU va.ownBlock b) vr row:=hvr.wO (λb hb k=>by rcases k with k|k;have:=hor b hb;omega;exact hdis b k.symm hb) (λb _ k=>k);refine af ?_;refine xo rfl (aE rfl (xM 2 hslr)) ?_;rintro _ h6 ⟨⟨w,rfl,hnd6⟩,he6⟩;have hz6:=he6.size;have ha36:∀(i:Nat) (cs:List Value) (x:Nd),ca[i]? =some cs->all[i]? =some x->mX.R h6 (λb=>bU va.ownBlock b\/b<h1.size) cs x:=λi cs x h1' h2'=>aI.ah (uu (ha3 i cs x h1' h2') (λb _ k=>k.imp id .inl)) he6
     have hnd6':mX.R h6 (λb=>bU va.ownBlock b\/b<h1.size) (bP (bg 2 row).kind (bg 2 row).set w) (bg 2 row):=uu hnd6 (λb _ k=>k.symm);refine xo rfl (lg) ?_;rintro _ _ ⟨rfl,rfl⟩;refine xo rfl (aV.dA underlying180 H.JP rfl rfl ((ha2.gR he6)) rfl rfl (aI.one hnd6) (by omega) (by decide) (by omega)) ?_;rintro v7 h7 ⟨ho7,hx7,-,hv7⟩;refine af ?_;have hva7:cH mX (B8 h1.size) h7 h1.size 182 v7 (all++[bg 2 row]):=cH.eC ha1 ha36 ho7 hx7 hv7 hnd6';have hr7:¬bU va.ownBlock h.size:=λk=>by have:=hoa _ k.symm;omega
     have e7:aj h h7:=⟨by have:=hx7.size;omega,λb hb hn=>by rw[hx7.block b (by omega) (λk=>by have:=hoa b k.symm;omega),he6.block b (by omega) (λk=>k)];exact e5.block b hb hn⟩
     have hkr7:=(hkr5.ah he6).ext hx7 hr7;have h124:=fR s j 124;refine aN (λhbar=>?_) (λhbar=>?_)
     · have hbar':¬(s.drop j).head? =some 124:=λe=>hbar (h124.2 e)
       rw[if_neg hbar'] at hcon;have hsla:aL mX h7 (B8 h1.size) v7 (all++[bg 2 row]):=hva7.read (λb hb (k:b<h1.size)=>by omega) (λb _ k=>k);refine af ?_;refine xo rfl (aE rfl (xM 3 hsla)) ?_;rintro _ h8 ⟨⟨w8,rfl,hnd8⟩,he8⟩;refine af ?_;refine aO rfl (aZ rfl rfl ((hkr7.ah he8)) (aI.one hnd8)) ?_;rintro _ h9 ⟨rfl,hk9,hx9,hz9⟩;refine af ?_;have hk9:aC h9 h.size 182 (bP (bg 3 (all++[bg 2 row])).kind (bg 3 (all++[bg 2 row])).set w8):=hk9;refine cE (cz rfl hk9.row (rO cD)) ?_;exact⟨_,rfl,by rw[<-hcon];exact⟨w8,j,hj,rfl,rfl,eP hnd8 (by omega) hx9 (λb _ (hb:b=h.size)=>by omega)⟩,aj.only (e7.trans he8) hx9 (Nat.le_refl _)⟩
     · have hbar':=h124.1 (Classical.not_not.1 hbar)
       have hlt:j<s.length:=by
        rcases cN s j with ⟨_,hd,_⟩|⟨_,_,hlt,_,_⟩
        · rw[hd] at hbar';cases hbar'
        · exact hlt
       rw[if_pos hbar',tail_drop] at hcon
       have hcon':fX (ct d) ((s.drop (j+1)).length+1) (all++[bg 2 row]) [] (s.drop (j+1))=tgt:=by
        rw[<-hcon];exact nw hrl _ _ _ _ _ _ (Nat.le_refl _) (Nat.lt_succ_self _) (by simp only[List.length_drop];omega)
       refine af ?_;exact ih' (all++[bg 2 row],[],v7,.slice none 0 0,j+1) ⟨hva7.kU (Ext.refl (λ_=>False) _) (λb _ k=>k) (λb _ k=>k.elim) (λb _ k=>by rcases k with k|k;exact k;simp[bU,Value.ownBlock] at k),cH.nil _ _ _ _ _,λb _ hb=>by simp[Value.ownBlock] at hb,hkr7,e7,⟨hlt,by show i<=j+1;omega,by show (all++[bg 2 row]).length+0<=j+1;rw[List.length_append,List.length_singleton];omega⟩,hcon'⟩
   · rw[if_neg (by rw[hend];decide)] at hcon;refine af ?_;refine xo rfl (aE rfl (DT ih s j hj (by omega) hs)) ?_;rintro _ h6 ⟨hv,he6⟩;have hz6:=he6.size;have hkr6:=hkr5.ah he6;have hpc:fN (ct d) (s.drop j)=(cU (ct d) (s.drop j)).map λp=>dL p.1 p.2:=rfl
     rcases hp:cU (ct d) (s.drop j) with _|⟨x0,t0⟩<;>rw[hp] at hv hpc
     · obtain⟨k,st,w,hw,rfl⟩:=hv;have hnone:tgt=none:=by rw[<-hcon,hpc];rfl
       rw[hnone];refine af ?_;refine xo rfl (cL) ?_;rintro _ h7 ⟨rfl,hk7,he7,hz7⟩;refine aO rfl (aZ rfl rfl hk7 (iq hw)) ?_;rintro _ h8 ⟨rfl,hk8,hx8,hz8⟩;refine af ?_;have hk8:aC h8 h6.size 182 (bP k st w):=hk8;refine dc rfl (by decide) ?_;refine af ?_;refine xp rfl (cj rfl hk8.row) ?_;refine aO rfl (aZ rfl rfl (((hkr6.ah he7).ext hx8 (by show ¬_=_;omega))) (iq hw)) ?_;rintro _ h9 ⟨rfl,hk9,hx9,hz9⟩;refine af ?_;have hk9:aC h9 h.size 182 (bP k st w):=hk9;refine cE (cz rfl hk9.row (rO cD)) ?_;exact⟨_,rfl,⟨k,st,w,hw,rfl⟩,aj.only (aj.only ((e5.trans he6).trans he7) hx8 (by omega)) hx9 (Nat.le_refl _)⟩
     · obtain⟨w0,m0,hm0,rfl,rfl,hnd⟩:=hv;have hal:=uh hrl hp;simp only[List.length_drop] at hal;have hpc:fN (ct d) (s.drop j)=some (dL x0 (s.drop m0)):=hpc;refine af ?_;refine xo rfl (cL) ?_;rintro _ h7 ⟨rfl,hk7,he7,hz7⟩;refine aO rfl (aZ rfl rfl hk7 (aI.one hnd)) ?_;rintro _ h8 ⟨rfl,hk8,hx8,hz8⟩;refine af ?_;have hk8:aC h8 h6.size 182 (bP x0.kind x0.set w0):=hk8;have e68:aj h6 h8:=aj.only he7 hx8 (Nat.le_refl _);have e58:=he6.trans e68;have hnd8:aI h8 (λb=>b<h5.size\/b=h6.size) (bP x0.kind x0.set w0) x0:=hnd.mv (Mv.bY e68 λb hb hn=>⟨λk=>k,λk=>by have:¬b<h5.size:=hn;omega⟩);generalize hnb:h6.size=nb at hk8 hnd8;have hnb5:h5.size<=nb:=by omega
       rw[hpc] at hcon;simp only at hcon;generalize hsg:dL x0 (s.drop m0)=tg2 at hcon;refine dB rfl (by simp) ?_;refine af ?_;refine fK (σ:=Nd×Value×Nat) (λq=>[(10,.int .i64 (q.2.2:Nat))]) (λq h'=>aC h' nb 182 (bP q.1.kind q.1.set q.2.1)/\aI h' (λb=>b<h5.size\/b=nb) (bP q.1.kind q.1.set q.2.1) q.1/\aj h5 h'/\(q.2.2<=s.length/\j<q.2.2)/\dL q.1 (s.drop q.2.2)=tg2) (λq=>s.length-q.2.2) ((x0,w0,m0)) ⟨hk8,hnd8,e58,⟨hm0,by show j<m0;omega⟩,hsg⟩ rfl ?_;rintro⟨x,w,m⟩ h8 ⟨hk8,hnd8,e8,⟨hm,him⟩,hsg⟩ ih2
       try dsimp only
       dsimp only at hk8 hnd8 hm him hsg;have hze8:=e8.size;have hlt8:=hk8.lt;refine af ?_;refine xo rfl (aE rfl (fQ s m)) ?_;rintro _ h8 ⟨rfl,rfl⟩;refine xo rfl (aE rfl (lD (vF s m))) ?_;rintro _ h8 ⟨rfl,rfl⟩;refine af ?_;rw[se];refine aN (λhgo=>?_) (λhgo=>?_)
       · have hgo:0<ck ((s.drop m).head?.getD 0):=by omega
         have hlt:m<s.length:=by
          rcases cN s m with ⟨_,hd,_⟩|⟨_,_,hlt,_,_⟩
          · rw[hd] at hgo;exact absurd hgo (show ¬0<ck (([]:By).head?.getD 0) by decide)
          · exact hlt
         have hnext:dL (.mk (ck ((s.drop m).head?.getD 0)) 0 [x]) (s.drop (m+1))=tg2:=by
          rcases cN s m with ⟨_,hd,_⟩|⟨c,_,_,hd,_⟩
          · rw[hd] at hgo;exact absurd hgo (show ¬0<ck (([]:By).head?.getD 0) by decide)
          · rw[hd] at hgo hsg ⊢;simp only[List.head?_cons,Option.getD_some] at hgo ⊢;rw[<-hsg,uG hgo]
         generalize hsgd:s.drop m=sg at hnext hgo;have hsl:=aL.kC (e:=mX) (t:=182) hnd8 (show ¬(h8.size<h5.size\/h8.size=nb) by omega);have ep:=Ext.push (λ_=>False) h8 (.cells (bP x.kind x.set w).toArray 182);have hn2:¬Array.size h8<=nb:=by omega
         refine af ?_;refine Gn 8 7 ?_;refine aF 0 ?_;refine aF 1 ?_;refine bq 4 rfl (λh' e=>cj rfl (e.rowAt hn2 hk8.row)) ?_;refine Nv 2 5 rfl rfl (aE rfl (fQ s m)) (lg) ?_ ?_
         · rintro _ h8 ⟨rfl,rfl⟩;refine⟨λ_=>Ext.refl _ _,?_⟩;refine Nv 3 5 rfl rfl (aE rfl (lD (vF s m))) (lg) ?_ ?_
           · rintro _ h8 ⟨rfl,rfl⟩;refine⟨λ_=>Ext.refl _ _,?_⟩;refine cV 5 rfl (lg) ?_;rintro _ _ ⟨rfl,rfl⟩;refine⟨λ_=>by first|exact Ext.push _ _ _|assumption,?_⟩;refine bq 6 rfl (λh' e=>av (H.qj _ _ _ _) rfl) ?_;refine gU 7 rfl (aZ rfl rfl ((hk8.ah ep)) (iq (k:=qy (vF s m)) (st:=0) (w:=.slice (some ⟨h8.size,0,none⟩) 1 1) rfl)) ?_;rintro _ h9 ⟨rfl,hk9,hx9,hz9⟩;refine⟨nofun,?_⟩;refine fV ?_;refine af ?_;rw[se,hsgd] at hk9;have hk9:aC h9 nb 182 (bP (ck (sg.head?.getD 0)) 0 (.slice (some ⟨h8.size,0,none⟩) 1 1)):=hk9;exact ih2 (.mk (ck (sg.head?.getD 0)) 0 [x],.slice (some ⟨h8.size,0,none⟩) 1 1,m+1) ⟨hk9,(aI.of (ck (sg.head?.getD 0)) 0 hsl).mv (Mv.bY hx9 λb hb hn=>⟨fun(k:b=nb)=>hn (.inr k),hn⟩),aj.only (e8.trans ep) hx9 (by omega),⟨hlt,by show j<m+1;omega⟩,hnext⟩
           · rintro _ _ ⟨rfl,rfl⟩;refine⟨λ_=>by first|exact Ext.push _ _ _|assumption,?_⟩;refine cV 3 rfl (aE rfl (lD (vF s m))) ?_;rintro _ _ ⟨rfl,rfl⟩;refine⟨λ_=>Ext.refl _ _,?_⟩;refine bq 6 rfl (λh' e=>av (H.qj _ _ _ _) rfl) ?_;refine gU 7 rfl (aZ rfl rfl ((hk8.ah ep)) (iq (k:=qy (vF s m)) (st:=0) (w:=.slice (some ⟨h8.size,0,none⟩) 1 1) rfl)) ?_;rintro _ h9 ⟨rfl,hk9,hx9,hz9⟩;refine⟨nofun,?_⟩;refine fV ?_;refine af ?_;rw[se,hsgd] at hk9;have hk9:aC h9 nb 182 (bP (ck (sg.head?.getD 0)) 0 (.slice (some ⟨h8.size,0,none⟩) 1 1)):=hk9;exact ih2 (.mk (ck (sg.head?.getD 0)) 0 [x],.slice (some ⟨h8.size,0,none⟩) 1 1,m+1) ⟨hk9,(aI.of (ck (sg.head?.getD 0)) 0 hsl).mv (Mv.bY hx9 λb hb hn=>⟨fun(k:b=nb)=>hn (.inr k),hn⟩),aj.only (e8.trans ep) hx9 (by omega),⟨hlt,by show j<m+1;omega⟩,hnext⟩
         · rintro _ _ ⟨rfl,rfl⟩;refine⟨λ_=>by first|exact Ext.push _ _ _|assumption,?_⟩;refine cV 2 rfl (aE rfl (fQ s m)) ?_;rintro _ _ ⟨rfl,rfl⟩;refine⟨λ_=>Ext.refl _ _,?_⟩;refine cV 3 rfl (aE rfl (lD (vF s m))) ?_;rintro _ _ ⟨rfl,rfl⟩;refine⟨λ_=>Ext.refl _ _,?_⟩;refine bq 6 rfl (λh' e=>av (H.qj _ _ _ _) rfl) ?_;refine gU 7 rfl (aZ rfl rfl ((hk8.ah ep)) (iq (k:=qy (vF s m)) (st:=0) (w:=.slice (some ⟨h8.size,0,none⟩) 1 1) rfl)) ?_;rintro _ h9 ⟨rfl,hk9,hx9,hz9⟩;refine⟨nofun,?_⟩;refine fV ?_;refine af ?_;rw[se,hsgd] at hk9;have hk9:aC h9 nb 182 (bP (ck (sg.head?.getD 0)) 0 (.slice (some ⟨h8.size,0,none⟩) 1 1)):=hk9;exact ih2 (.mk (ck (sg.head?.getD 0)) 0 [x],.slice (some ⟨h8.size,0,none⟩) 1 1,m+1) ⟨hk9,(aI.of (ck (sg.head?.getD 0)) 0 hsl).mv (Mv.bY hx9 λb hb hn=>⟨fun(k:b=nb)=>hn (.inr k),hn⟩),aj.only (e8.trans ep) hx9 (by omega),⟨hlt,by show j<m+1;omega⟩,hnext⟩
       · rw[uF (by omega)] at hsg;subst hsg;simp only at hcon;have hr38:∀(i:Nat) (cs:List Value) (x:Nd),cr[i]? =some cs->row[i]? =some x->mX.R h8 (λb=>bU vr.ownBlock b\/(b<h1.size\/bU va.ownBlock b)) cs x:=λi cs x h1' h2'=>aI.ah (hr3 i cs x h1' h2') e8
         have hnd8':mX.R h8 (λb=>bU vr.ownBlock b\/(b<h1.size\/bU va.ownBlock b)) (bP x.kind x.set w) x:=uu hnd8 (λb _ k=>.inl (by
          rcases k with k|k|k
          · exact(hor b k.symm).2
          · omega
          · exact(hoa b k.symm).2))
         refine af ?_;refine xp rfl (cj rfl hk8.row) ?_;refine xo rfl (lg) ?_;rintro _ _ ⟨rfl,rfl⟩;refine xo rfl (aV.dA underlying180 H.JP rfl rfl ((hr2.gR e8)) rfl rfl (aI.one hnd8) (by omega) (by decide) (by omega)) ?_;rintro v9 h9 ⟨ho9,hx9,-,hv9⟩;refine af ?_
         have hdis9:∀b,va.ownBlock=some b->v9.ownBlock=some b->False:=λb hb hb9=>by
          rcases hv9 b hb9 with k|k
          · exact hdis b hb k
          · have:=hoa b hb;omega
         have hva9:cH mX (λb=>b<h1.size\/bU v9.ownBlock b) h9 h1.size 182 va all:=(hva.ah e8).kU hx9 (λb hb k=>hdis b hb k.symm) (λb _ k=>.inr k) (λb hb k=>by
          rcases k with k|k
          · exact .inl k
          · rcases hv9 b k.symm with k'|k'
            · exact .inr k'.symm
            · omega)
         have hr9:¬bU vr.ownBlock h.size:=λk=>by have:=hor _ k.symm;omega
         have e9:aj h h9:=⟨by have:=hx9.size;omega,λb hb hn=>by rw[hx9.block b (by omega) (λk=>by have:=hor b k.symm;omega),e8.block b (by omega) (λk=>k)];exact e5.block b hb hn⟩
         have hcon':fX (ct d) ((s.drop m).length+1) all (row++[x]) (s.drop m)=tgt:=by
          rw[<-hcon];exact nw hrl _ _ _ _ _ _ (Nat.le_refl _) (Nat.lt_succ_self _) (by simp only[List.length_drop];omega)
         exact ih' (all,row++[x],va,v9,m) ⟨hva9,cH.eC hr1 hr38 ho9 hx9 hv9 hnd8',hdis9,(hkr5.ah e8).ext hx9 hr9,e9,⟨hm,by show i<=m;omega,by show all.length+(row++[x]).length<=m;rw[List.length_append,List.length_singleton];omega⟩,hcon'⟩
theorem CN:∀d,BY d
 | 0=>λ_ _ _ _ h _=>absurd h (Nat.not_lt_zero _)
 |d+1=>λ_ s i hi hd hs=>Ev (CN d) s i hi (by omega) hs
theorem Bd (s:By) (hs:s.length<=1000000):au prog 99 #[.string (bs s)] h (bK λr h'=>Kj h h' s r/\aj h h'):=by
 have hsz:=aJ s;refine bJ ?_;refine af ?_;refine xo rfl (cL) ?_;rintro _ h1 ⟨rfl,ac,al,hz1⟩;refine af ?_;have ac:aC h1 h.size 182 qv:=ac;refine aN (λap=>?_) (λap=>?_)
 · have hE:aU s=(lI,3):=by unfold aU;rw[if_pos (by omega)]
   refine af ?_;refine xp rfl (av (H.yA ) rfl) (aO rfl (aZ rfl rfl ac) ?_);rintro _ h3 ⟨rfl,U,aw,an⟩;refine af ?_;have U:aC h3 h.size 182 qv:=U;refine cE (cz rfl U.row (rO cD)) ?_;refine⟨_,rfl,⟨.slice none 0 0,by rw[hE];rfl,by rw[hE];exact b8 _ _ 0 0⟩,aj.only al aw (Nat.le_refl _)⟩
 · have hE:aU s=match fO s with|some x=>(x,0)|none=>(lI,10):=by unfold aU;rw[if_neg (by omega)];rfl
   refine af ?_;refine xo rfl (aE rfl (CN (s.length+1) h1 s 0 (Nat.zero_le _) (by simp) hs)) ?_;rintro _ h2 ⟨hv,ad⟩;have hz2:=ad.size;have ak:=ac.ah ad;rw[List.drop_zero] at hv
   rcases hp:ct (s.length+1) s with _|⟨x,t⟩<;>rw[hp] at hv
   · obtain⟨k,st,w,hw,rfl⟩:=hv;have J:fO s=none:=by unfold fO;rw[hp]
     refine af ?_;refine xo rfl (cL) ?_;rintro _ h3 ⟨rfl,U,aa,an⟩;refine aO rfl (aZ rfl rfl U (iq hw)) ?_;rintro _ h4 ⟨rfl,ab,Z,ar⟩;refine af ?_;refine dc rfl (by simp) ?_;refine af ?_;refine xp rfl (av (H.yA ) rfl) (aO rfl (aZ rfl rfl (((ak.ah aa).ext Z (by show ¬_=_;omega)))) ?_);rintro _ h5 ⟨rfl,I,Y,am⟩;refine af ?_;have I:aC h5 h.size 182 qv:=I;refine cE (cz rfl I.row (rO cD)) ?_;exact⟨_,rfl,⟨.slice none 0 0,by rw[hE,J]<;>rfl,by rw[hE,J];exact b8 _ _ 0 0⟩,aj.only (aj.only ((al.trans ad).trans aa) Z (by omega)) Y (Nat.le_refl _)⟩
   · obtain⟨w,k,hk,rfl,rfl,ao⟩:=hv;refine af ?_;refine xo rfl (cL) ?_;rintro _ h3 ⟨rfl,U,aa,an⟩;refine aO rfl (aZ rfl rfl U (aI.one ao)) ?_;rintro _ h4 ⟨rfl,ab,Z,ar⟩;refine af ?_;have ab:aC h4 h2.size 182 (bP x.kind x.set w):=ab;have ae:aI h4 (B8 h1.size) (bP x.kind x.set w) x:=ao.ah (aj.only aa Z (Nat.le_refl _));have ag:=(ak.ah aa).ext Z (by show ¬_=_;omega);have e4:=aj.only ((al.trans ad).trans aa) Z (by omega);refine aN (λhr=>?_) (λhr=>?_)
     · have J:fO s=none:=by
        unfold fO;rw[hp];cases a1:s.drop k with
        |nil=>have:=congrArg List.length a1;simp at this;omega
        |cons c t=>rfl
       refine af ?_;refine xp rfl (av (H.yA ) rfl) (aO rfl (aZ rfl rfl ag) ?_);rintro _ h5 ⟨rfl,I,Y,am⟩;refine af ?_;have I:aC h5 h.size 182 qv:=I;refine cE (cz rfl I.row (rO cD)) ?_;exact⟨_,rfl,⟨.slice none 0 0,by rw[hE,J]<;>rfl,by rw[hE,J];exact b8 _ _ 0 0⟩,aj.only e4 Y (Nat.le_refl _)⟩
     · obtain rfl:k=s.length:=by omega
       have J:fO s=some x:=by unfold fO;rw[hp,List.drop_length]
       refine af ?_;refine xp rfl (cj rfl ab.row) (aO rfl (aZ rfl rfl ag (aI.one ae)) ?_);rintro _ h5 ⟨rfl,I,Y,am⟩;refine af ?_;have I:aC h5 h.size 182 (bP x.kind x.set w):=I;refine cE (cz rfl I.row (rO cD)) ?_;exact⟨_,rfl,⟨w,by rw[hE,J]<;>rfl,by rw[hE,J];exact eP ae (by omega) Y (λb _ (hb:b=h.size)=>by omega)⟩,aj.only e4 Y (Nat.le_refl _)⟩
end
end Go.Proofs.YtnjahnbpnpkmhaaGreatDoor
namespace Go.Proofs.YtnjahnbpnpkmhaaGreatDoor
def jr (a b:List Bool):List Bool:=List.zipWith (· || ·) a b
def bO (last first:List Bool) (bh:List (List Bool)):List (List Bool):=List.zipWith (λl b=>if l then jr b first else b) last bh
structure fI where
  null:Bool
  first:List Bool
  last:List Bool
abbrev oC:=List Nat×List (List Bool)
def dn (size:Nat):List Bool:=List.replicate size false
mutual
def cnt:Nd->Nat
  |.mk k _ kids=>(if k=1 then 1 else 0)+fo kids
def fo:List Nd->Nat
  | []=>0
  |x::r=>cnt x+fo r
end
theorem ve:∀(l m:List Nd),fo (l++m)=fo l+fo m
  | [],m=>by simp[fo]
  |x::l,m=>by simp only[List.cons_append,fo];rw[ve l m];omega
mutual
theorem E1:∀x:Nd,cnt x<=js x
  |.mk k s kids=>by have:=BO kids;simp only[cnt,js];split<;>omega
theorem BO:∀l:List Nd,fo l<=eR l
  | []=>by simp[fo,eR]
  |x::r=>by have:=E1 x;have:=BO r;simp only[fo,eR];omega
end
def cS (p k:fI):fI:=⟨p.null && k.null,if p.null then jr p.first k.first else p.first,if k.null then jr p.last k.last else k.last⟩
def iy (p k:fI):fI:=⟨p.null ||k.null,jr p.first k.first,jr p.last k.last⟩
mutual
def dG (size:Nat):Nd->oC->fI×oC
  |.mk k s kids,st =>
    if k=1 then (⟨false,(dn size).set st.1.length true,(dn size).set st.1.length true⟩,(st.1++[s],st.2))
    else if k=2 then cP size kids ⟨true,dn size,dn size⟩ st
    else if k=3 then cQ size kids ⟨false,dn size,dn size⟩ st
    else if k=4\/k=5 then
      (⟨(cJ size kids st).1.null ||k ==4,(cJ size kids st).1.first,(cJ size kids st).1.last⟩,((cJ size kids st).2.1,bO (cJ size kids st).1.last (cJ size kids st).1.first (cJ size kids st).2.2))
    else if k=6 then (⟨true,(cJ size kids st).1.first,(cJ size kids st).1.last⟩,(cJ size kids st).2)
    else (⟨true,dn size,dn size⟩,st)
def cP (size:Nat):List Nd->fI->oC->fI×oC
  | [],p,st=>(p,st)
  |x::r,p,st=>cP size r (cS p (dG size x st).1) ((dG size x st).2.1,bO p.last (dG size x st).1.first (dG size x st).2.2)
def cQ (size:Nat):List Nd->fI->oC->fI×oC
  | [],p,st=>(p,st)
  |x::r,p,st=>cQ size r (iy p (dG size x st).1) (dG size x st).2
def cJ (size:Nat):List Nd->oC->fI×oC
  | [],st=>(⟨true,dn size,dn size⟩,st)
  |x::_,st=>dG size x st
end
structure qL where
  sets:List Nat
  behind:List (List Bool)
  last:List Bool
def gG (x:Nd):qL :=
  ⟨(dG (cnt x+1) x ([0],List.replicate (cnt x+1) (dn (cnt x+1)))).2.1,
   (dG (cnt x+1) x ([0],List.replicate (cnt x+1) (dn (cnt x+1)))).2.2.set 0 (dG (cnt x+1) x ([0],List.replicate (cnt x+1) (dn (cnt x+1)))).1.first,
   (dG (cnt x+1) x ([0],List.replicate (cnt x+1) (dn (cnt x+1)))).1.last.set 0 (dG (cnt x+1) x ([0],List.replicate (cnt x+1) (dn (cnt x+1)))).1.null⟩
theorem sy {a b:List Bool}{n:Nat}(J:a.length=n) (I:b.length=n):(jr a b).length=n:=by simp[jr,J,I]
theorem dy (n:Nat):(dn n).length=n:=by simp[dn]
structure fF (n:Nat) (p:fI):Prop where
  first:p.first.length=n
  last:p.last.length=n
structure kX (n:Nat) (st:oC):Prop where
  rows:st.2.length=n
  each:∀b∈st.2,b.length=n
theorem qf {n:Nat}{p:List Bool}{f:List Bool}{S:List Nat}{J:List (List Bool)}(U:p.length=n) (Y:f.length=n) (k:kX n (S,J)):kX n (S,bO p f J):=by
  refine⟨by have:=k.rows;simp only at this;simp[bO,U,this],λb Z=>?_⟩;obtain⟨i,hi⟩:=List.getElem?_of_mem Z;simp only[bO,List.getElem?_zipWith] at hi;split at hi
  · rename_i l c hl hc;have I:=k.each c (List.mem_of_getElem? hc);cases hi;split
    · exact sy I Y
    · exact I
  · cases hi
theorem nR {n:Nat}{p k:fI}(I:fF n p) (hk:fF n k):fF n (cS p k):=by
  refine⟨?_,?_⟩<;>simp only[cS]<;>split
  · exact sy I.first hk.first
  · exact I.first
  · exact sy I.last hk.last
  · exact hk.last
theorem nW {n:Nat}{p k:fI}(I:fF n p) (hk:fF n k):fF n (iy p k):=⟨sy I.first hk.first,sy I.last hk.last⟩
theorem nC (n:Nat) (b:Bool):fF n ⟨b,dn n,dn n⟩:=⟨dy n,dy n⟩
mutual
theorem iT (n:Nat):∀(x:Nd) (st:oC),kX n st->fF n (dG n x st).1/\kX n (dG n x st).2/\st.1.length<=(dG n x st).2.1.length/\(lu x=true->(dG n x st).2.1.length<=st.1.length+cnt x)
  |.mk k s kids,st,h=>by
    rw[dG];simp only[cnt];split
    · rename_i h1;exact⟨⟨by simp[dy],by simp[dy]⟩,⟨h.rows,h.each⟩,by simp,λ_=>by simp⟩
    · split
      · have I:=tS n kids ⟨true,dn n,dn n⟩ st (nC n _) h;exact⟨I.1,I.2.1,I.2.2.1,λhw=>by have:=I.2.2.2 (by simp only[lu,Bool.and_eq_true] at hw;exact hw.2);omega⟩
      · split
        · have I:=tU n kids ⟨false,dn n,dn n⟩ st (nC n _) h;exact⟨I.1,I.2.1,I.2.2.1,λhw=>by have:=I.2.2.2 (by simp only[lu,Bool.and_eq_true] at hw;exact hw.2);omega⟩
        · have I:=Aj n kids st h;split
          · exact⟨⟨I.1.first,I.1.last⟩,qf I.1.last I.1.first I.2.1,I.2.2.1,λhw=>by have:=I.2.2.2 (by simp only[lu,Bool.and_eq_true] at hw;exact hw.2);simp only;omega⟩
          · split
            · exact⟨⟨I.1.first,I.1.last⟩,I.2.1,I.2.2.1,λhw=>by have:=I.2.2.2 (by simp only[lu,Bool.and_eq_true] at hw;exact hw.2);simp only;omega⟩
            · exact⟨nC n _,h,Nat.le_refl _,λ_=>by simp only;omega⟩
theorem tS (n:Nat):∀(l:List Nd) (p:fI) (st:oC),fF n p->kX n st->fF n (cP n l p st).1/\kX n (cP n l p st).2/\st.1.length<=(cP n l p st).2.1.length/\(ng l=true->(cP n l p st).2.1.length<=st.1.length+fo l)
  | [],p,st,U,h=>by rw[cP];exact⟨U,h,Nat.le_refl _,λ_=>by simp[fo]⟩
  |x::r,p,st,U,h=>by
    rw[cP];have I:=iT n x st h;have J:=tS n r (cS p (dG n x st).1) ((dG n x st).2.1,bO p.last (dG n x st).1.first (dG n x st).2.2) (nR U I.1) (qf U.last I.1.first I.2.1);refine⟨J.1,J.2.1,Nat.le_trans I.2.2.1 J.2.2.1,λhw=>?_⟩;simp only[ng,Bool.and_eq_true] at hw;have:=I.2.2.2 hw.1;have:=J.2.2.2 hw.2;simp only[fo] at *;omega
theorem tU (n:Nat):∀(l:List Nd) (p:fI) (st:oC),fF n p->kX n st->fF n (cQ n l p st).1/\kX n (cQ n l p st).2/\st.1.length<=(cQ n l p st).2.1.length/\(ng l=true->(cQ n l p st).2.1.length<=st.1.length+fo l)
  | [],p,st,U,h=>by rw[cQ];exact⟨U,h,Nat.le_refl _,λ_=>by simp[fo]⟩
  |x::r,p,st,U,h=>by
    rw[cQ];have J:=iT n x st h;have I:=tU n r (iy p (dG n x st).1) (dG n x st).2 (nW U J.1) J.2.1;refine⟨I.1,I.2.1,Nat.le_trans J.2.2.1 I.2.2.1,λhw=>?_⟩;simp only[ng,Bool.and_eq_true] at hw;have:=J.2.2.2 hw.1;have:=I.2.2.2 hw.2;simp only[fo] at *;omega
theorem Aj (n:Nat):∀(l:List Nd) (st:oC),kX n st->fF n (cJ n l st).1/\kX n (cJ n l st).2/\st.1.length<=(cJ n l st).2.1.length/\(ng l=true->(cJ n l st).2.1.length<=st.1.length+fo l)
  | [],st,h=>by rw[cJ];exact⟨nC n _,h,Nat.le_refl _,λ_=>by simp[fo]⟩
  |x::r,st,h=>by
    rw[cJ];have I:=iT n x st h;refine⟨I.1,I.2.1,I.2.2.1,λhw=>?_⟩;simp only[ng,Bool.and_eq_true] at hw;have:=I.2.2.2 hw.1;simp only[fo];omega
end
def On (l:List Bool) (i:Nat):Prop:=l[i]? =some true
theorem CX {a b:List Bool}(h:a.length=b.length) (i:Nat):On (jr a b) i↔On a i\/On b i:=by
  unfold On jr;rw[List.getElem?_zipWith]
  by_cases hi:i<a.length
  · rw[List.getElem?_eq_getElem hi,List.getElem?_eq_getElem (by omega)];simp
  · rw[List.getElem?_eq_none (by omega),List.getElem?_eq_none (by omega)];simp
theorem wR (n i:Nat):¬On (dn n) i:=by
  unfold On dn;rw[List.getElem?_replicate];split<;>simp
theorem Bj {n j:Nat}(h:j<n) (i:Nat):On ((dn n).set j true) i↔i=j:=by
  by_cases e:j=i
  · subst e;unfold On;rw[List.getElem?_set_self (by rw[dy];exact h)];simp
  · have:On ((dn n).set j true) i↔On (dn n) i:=by unfold On;rw[List.getElem?_set_ne e]
    rw[this];exact⟨λk=>(wR n i k).elim,λk=>(e k.symm).elim⟩
def Bh (bh:List (List Bool)) (p q:Nat):Prop:=∃b,bh[p]? =some b/\On b q
theorem Ap {n:Nat}{l f:List Bool}{S:List Nat}{I:List (List Bool)}(hl:l.length=n) (hf:f.length=n) (k:kX n (S,I)) (p q:Nat):Bh (bO l f I) p q↔Bh I p q\/(On l p/\On f q):=by
  unfold Bh bO;simp only[List.getElem?_zipWith];have hr:=k.rows;simp only at hr
  by_cases hp:p<n
  · obtain⟨b,J⟩:∃b,I[p]? =some b:=⟨_,List.getElem?_eq_getElem (by omega)⟩
    obtain⟨c,hc⟩:∃c,l[p]? =some c:=⟨_,List.getElem?_eq_getElem (by omega)⟩
    have hbl:=k.each b (List.mem_of_getElem? J);rw[J,hc];cases c with
    |true=>simp[On,hc,show ∀q,((jr b f)[q]? =some true↔b[q]? =some true\/f[q]? =some true) from λq=>CX (by omega) q]
    |false=>simp[On,hc]
  · have h1:I[p]? =none:=List.getElem?_eq_none (by omega);have U:l[p]? =none:=List.getElem?_eq_none (by omega);simp[h1,U,On]
section
variable (S:Nat->UInt8->Prop)
inductive Kk (G:Nat->Nat->Prop) (E:Nat->Prop):Nat->By->Prop where
  |done {p:Nat}:E p->Kk G E p []
  |go {p q:Nat}{c:UInt8}{w:By}:G p q->S q c->Kk G E q w->Kk G E p (c::w)
def yY (G:Nat->Nat->Prop) (E:Nat->Prop) (F:Nat->Prop) (w:By):Prop:=∃c w',w=c::w'/\∃q,F q/\S q c/\Kk S G E q w'
def Cont (G:Nat->Nat->Prop) (E:Nat->Prop) (N:Nat->Prop) (e:Prop) (v:By):Prop:=(v=[]/\e)\/yY S G E N v
structure oD (lo hi:Nat) (null:Bool) (F L:Nat->Prop) (Fol:Nat->Nat->Prop) (A:By->Prop):Prop where
  fr:∀q,F q->lo<=q/\q<hi
  lr:∀q,L q->lo<=q/\q<hi
  gr:∀p q,Fol p q->(lo<=p/\p<hi)/\lo<=q/\q<hi
  nul:null=true↔A []
  ent:∀(G:Nat->Nat->Prop) (E N:Nat->Prop) (e:Prop),(∀p q,lo<=p->p<hi->(G p q↔Fol p q\/(L p/\N q)))->(∀p,lo<=p->p<hi->(E p↔L p/\e)) ->
    ∀w,yY S G E F w↔∃u v,w=u++v/\u≠[]/\A u/\Cont S G E N e v
end
section
variable {S:Nat->UInt8->Prop}{lo mid hi:Nat}{n1 n2 null:Bool}{F F1 F2 L L1 L2:Nat->Prop}{Fol Fol1 Fol2:Nat->Nat->Prop}{A B:By->Prop}{G:Nat->Nat->Prop}{E N:Nat->Prop}{e:Prop}
theorem yY.or {w:By}:yY S G E (λq=>F1 q\/F2 q) w↔yY S G E F1 w\/yY S G E F2 w:=by
  constructor
  · rintro⟨c,w',rfl,q,I|I,h⟩
    · exact .inl ⟨c,w',rfl,q,I,h⟩
    · exact .inr ⟨c,w',rfl,q,I,h⟩
  · rintro(⟨c,w',rfl,q,I,h⟩|⟨c,w',rfl,q,I,h⟩)
    · exact⟨c,w',rfl,q,.inl I,h⟩
    · exact⟨c,w',rfl,q,.inr I,h⟩
theorem yY.and {P:Prop}{w:By}:yY S G E (λq=>P/\F q) w↔P/\yY S G E F w:=by
  constructor
  · rintro⟨c,w',rfl,q,⟨J,I⟩,h⟩;exact⟨J,c,w',rfl,q,I,h⟩
  · rintro⟨J,c,w',rfl,q,I,h⟩;exact⟨c,w',rfl,q,⟨J,I⟩,h⟩
theorem Ax {w:By}:¬yY S G E (λ_=>False) w:=by rintro⟨_,_,_,_,h,_⟩;exact h
theorem oD.congr {F' L':Nat->Prop}{I:Nat->Nat->Prop}{J:By->Prop}(k:oD S lo hi null F L Fol A) (Z:∀q,F' q↔F q) (U:∀q,L' q↔L q) (Y:∀p q,I p q↔Fol p q) (hA:∀u,J u↔A u):oD S lo hi null F' L' I J:=by
  have e1:F'=F:=funext λq=>propext (Z q)
  have e2:L'=L:=funext λq=>propext (U q)
  have e3:I=Fol:=funext λp=>funext λq=>propext (Y p q)
  have e4:J=A:=funext λu=>propext (hA u)
  rw[e1,e2,e3,e4];exact k
theorem HV (A:By->Prop) (J:∀u,A u->u=[]) (I:null=true↔A []):oD S lo lo null (λ_=>False) (λ_=>False) (λ_ _=>False) A:=by
  refine⟨λ_ h=>h.elim,λ_ h=>h.elim,λ_ _ h=>h.elim,I,λG E N e _ _ w=>⟨λh=>(Ax h).elim,?_⟩⟩;rintro⟨u,v,_,h0,hu,_⟩;exact absurd (J u hu) h0
theorem oD.byte:oD S lo (lo+1) false (λq=>q=lo) (λq=>q=lo) (λ_ _=>False) (λu=>∃c,u=[c]/\S lo c):=by
  refine⟨λq h=>by omega,λq h=>by omega,λ_ _ h=>h.elim,⟨λh=>(by cases h),λh=>(by obtain⟨c,h,_⟩:=h;cases h)⟩,λG E N e J U w=>?_⟩;have J:=λq=>J lo q (Nat.le_refl _) (by omega)
  have U:=U lo (Nat.le_refl _) (by omega);constructor
  · rintro⟨c,w',rfl,q,rfl,hc,I⟩;refine⟨[c],w',rfl,by simp,⟨c,rfl,hc⟩,?_⟩;cases I with
    |done h=>exact .inl ⟨rfl,(U.1 h).2⟩
    |go hg hs I =>
      rcases (J _).1 hg with h|⟨_,h⟩
      · exact h.elim
      · exact .inr ⟨_,_,rfl,_,h,hs,I⟩
  · rintro⟨u,v,rfl,_,⟨c,rfl,hc⟩,Y⟩;refine⟨c,v,rfl,lo,rfl,hc,?_⟩
    rcases Y with ⟨rfl,he⟩|⟨c',v',rfl,q,Z,hs,I⟩
    · exact .done (U.2 ⟨rfl,he⟩)
    · exact .go ((J q).2 (.inr ⟨rfl,Z⟩)) hs I
theorem oD.cat (h1:oD S lo mid n1 F1 L1 Fol1 A) (I:oD S mid hi n2 F2 L2 Fol2 B) (hm1:lo<=mid) (hm2:mid<=hi) :
    oD S lo hi (n1 && n2) (λq=>F1 q\/(n1=true/\F2 q)) (λq=>L2 q\/(n2=true/\L1 q)) (λp q=>Fol1 p q\/Fol2 p q\/(L1 p/\F2 q)) (λw=>∃u v,w=u++v/\A u/\B v):=by
  refine⟨λq h=>?_,λq h=>?_,λp q h=>?_,?_,λG E N e hG hE w=>?_⟩
  · rcases h with h|⟨_,h⟩
    · have:=h1.fr q h;omega
    · have:=I.fr q h;omega
  · rcases h with h|⟨_,h⟩
    · have:=I.lr q h;omega
    · have:=h1.lr q h;omega
  · rcases h with h|h|⟨h,h'⟩
    · have:=h1.gr p q h;omega
    · have:=I.gr p q h;omega
    · have:=h1.lr p h;have:=I.fr q h';omega
  · rw[Bool.and_eq_true,h1.nul,I.nul]
    exact⟨fun⟨a,b⟩=>⟨[],[],rfl,a,b⟩,fun⟨u,v,h,a,b⟩=>by
      have:=List.append_eq_nil_iff.1 h.symm;rw[this.1] at a;rw[this.2] at b;exact⟨a,b⟩⟩
  · have e2:=I.ent G E N e (λp q hp J=>by
      rw[hG p q (by omega) J];constructor
      · rintro((h|h|⟨h,_⟩)|⟨h|⟨_,h⟩,Y⟩)
        · have:=h1.gr p q h;omega
        · exact .inl h
        · have:=h1.lr p h;omega
        · exact .inr ⟨h,Y⟩
        · have:=h1.lr p h;omega
      · rintro(h|⟨h,Y⟩)
        · exact .inl (.inr (.inl h))
        · exact .inr ⟨.inl h,Y⟩) (λp hp J=>by
      rw[hE p (by omega) J];constructor
      · rintro⟨h|⟨_,h⟩,he⟩
        · exact⟨h,he⟩
        · have:=h1.lr p h;omega
      · rintro⟨h,he⟩;exact⟨.inl h,he⟩)
    have e1:=h1.ent G E (λq=>F2 q\/(n2=true/\N q)) (n2=true/\e) (λp q hp J=>by
      rw[hG p q hp (by omega)];constructor
      · rintro((h|h|⟨h,h'⟩)|⟨h|⟨h0,h⟩,Y⟩)
        · exact .inl h
        · have:=I.gr p q h;omega
        · exact .inr ⟨h,.inl h'⟩
        · have:=I.lr p h;omega
        · exact .inr ⟨h,.inr ⟨h0,Y⟩⟩
      · rintro(h|⟨h,h'|⟨h0,Y⟩⟩)
        · exact .inl (.inl h)
        · exact .inl (.inr (.inr ⟨h,h'⟩))
        · exact .inr ⟨.inr ⟨h0,h⟩,Y⟩) (λp hp J=>by
      rw[hE p hp (by omega)];constructor
      · rintro⟨h|⟨h0,h⟩,he⟩
        · have:=I.lr p h;omega
        · exact⟨h,h0,he⟩
      · rintro⟨h,h0,he⟩;exact⟨.inr ⟨h0,h⟩,he⟩)
    have c1:∀v,Cont S G E (λq=>F2 q\/(n2=true/\N q)) (n2=true/\e) v↔∃u' v',v=u'++v'/\B u'/\Cont S G E N e v':=by
      intro v;unfold Cont;rw[yY.or,yY.and,e2 v];constructor
      · rintro(⟨rfl,h0,he⟩|⟨u',v',rfl,_,U,hc⟩|⟨h0,Y⟩)
        · exact⟨[],[],rfl,I.nul.1 h0,.inl ⟨rfl,he⟩⟩
        · exact⟨u',v',rfl,U,hc⟩
        · exact⟨[],v,rfl,I.nul.1 h0,.inr Y⟩
      · rintro⟨u',v',rfl,U,hc⟩
        by_cases h0:u'=[]
        · subst h0;have h0:=I.nul.2 U
          rcases hc with ⟨rfl,he⟩|hc
          · exact .inl ⟨rfl,h0,he⟩
          · exact .inr (.inr ⟨h0,hc⟩)
        · exact .inr (.inl ⟨u',v',rfl,h0,U,hc⟩)
    rw[yY.or,yY.and,e1 w,e2 w];constructor
    · rintro(⟨u,v,rfl,h0,ha,Z⟩|⟨h0,u,v,rfl,aa,U,Z⟩)
      · obtain⟨u',v',rfl,U,hc⟩:=(c1 v).1 Z;exact⟨u++u',v',by simp,by simp[h0],⟨u,u',rfl,ha,U⟩,hc⟩
      · exact⟨u,v,rfl,aa,⟨[],u,rfl,h1.nul.1 h0,U⟩,Z⟩
    · rintro⟨_,v,rfl,h0,⟨u,u',rfl,ha,U⟩,Z⟩
      by_cases hu:u=[]
      · subst hu;exact .inr ⟨h1.nul.2 ha,u',v,rfl,by simpa using h0,U,Z⟩
      · exact .inl ⟨u,u'++v,by simp,hu,ha,(c1 _).2 ⟨u',v,rfl,U,Z⟩⟩
theorem oD.alt (h1:oD S lo mid n1 F1 L1 Fol1 A) (J:oD S mid hi n2 F2 L2 Fol2 B) (hm1:lo<=mid) (hm2:mid<=hi) :
    oD S lo hi (n1 ||n2) (λq=>F1 q\/F2 q) (λq=>L1 q\/L2 q) (λp q=>Fol1 p q\/Fol2 p q) (λw=>A w\/B w):=by
  refine⟨λq h=>?_,λq h=>?_,λp q h=>?_,?_,λG E N e Z hE w=>?_⟩
  · rcases h with h|h
    · have:=h1.fr q h;omega
    · have:=J.fr q h;omega
  · rcases h with h|h
    · have:=h1.lr q h;omega
    · have:=J.lr q h;omega
  · rcases h with h|h
    · have:=h1.gr p q h;omega
    · have:=J.gr p q h;omega
  · rw[Bool.or_eq_true,h1.nul,J.nul]
  · have e2:=J.ent G E N e (λp q Y I=>by
      rw[Z p q (by omega) I];constructor
      · rintro((h|h)|⟨h|h,U⟩)
        · have:=h1.gr p q h;omega
        · exact .inl h
        · have:=h1.lr p h;omega
        · exact .inr ⟨h,U⟩
      · rintro(h|⟨h,U⟩)
        · exact .inl (.inr h)
        · exact .inr ⟨.inr h,U⟩) (λp Y I=>by
      rw[hE p (by omega) I];constructor
      · rintro⟨h|h,he⟩
        · have:=h1.lr p h;omega
        · exact⟨h,he⟩
      · rintro⟨h,he⟩;exact⟨.inr h,he⟩)
    have e1:=h1.ent G E N e (λp q Y I=>by
      rw[Z p q Y (by omega)];constructor
      · rintro((h|h)|⟨h|h,U⟩)
        · exact .inl h
        · have:=J.gr p q h;omega
        · exact .inr ⟨h,U⟩
        · have:=J.lr p h;omega
      · rintro(h|⟨h,U⟩)
        · exact .inl (.inl h)
        · exact .inr ⟨.inl h,U⟩) (λp Y I=>by
      rw[hE p Y (by omega)];constructor
      · rintro⟨h|h,he⟩
        · exact⟨h,he⟩
        · have:=J.lr p h;omega
      · rintro⟨h,he⟩;exact⟨.inl h,he⟩)
    rw[yY.or,e1 w,e2 w];constructor
    · rintro(⟨u,v,a,b,c,d⟩|⟨u,v,a,b,c,d⟩)
      · exact⟨u,v,a,b,.inl c,d⟩
      · exact⟨u,v,a,b,.inr c,d⟩
    · rintro⟨u,v,a,b,c|c,d⟩
      · exact .inl ⟨u,v,a,b,c,d⟩
      · exact .inr ⟨u,v,a,b,c,d⟩
theorem jo.open {A:By->Prop}{u:By}(h:jo A u) (h0:u≠[]):∃a b,u=a++b/\a≠[]/\A a/\jo A b:=by
  induction h with
  |nil=>exact absurd rfl h0
  | @cons a b U J I =>
    by_cases e:a=[]
    · subst e;exact I (by simpa using h0)
    · exact⟨a,b,rfl,e,U,J⟩
theorem oD.KG (h:oD S lo hi null F L Fol A){G:Nat->Nat->Prop}{E N:Nat->Prop}{e:Prop}(hG:∀p q,lo<=p->p<hi->(G p q↔(Fol p q\/(L p/\F q))\/(L p/\N q))) (hE:∀p,lo<=p->p<hi->(E p↔L p/\e)) (w:By) :
    yY S G E F w↔∃u v,w=u++v/\u≠[]/\jo A u/\Cont S G E N e v:=by
  have e1:=h.ent G E (λq=>F q\/N q) e (λp q hp Z=>by
    rw[hG p q hp Z];constructor
    · rintro((h|⟨h,h'⟩)|⟨h,h'⟩)
      · exact .inl h
      · exact .inr ⟨h,.inl h'⟩
      · exact .inr ⟨h,.inr h'⟩
    · rintro(h|⟨h,h'|h'⟩)
      · exact .inl (.inl h)
      · exact .inl (.inr ⟨h,h'⟩)
      · exact .inr ⟨h,h'⟩) hE
  have c1:∀v,Cont S G E (λq=>F q\/N q) e v↔Cont S G E N e v\/yY S G E F v:=λv=>by
    unfold Cont;rw[yY.or];constructor
    · rintro(h|h|h)
      · exact .inl (.inl h)
      · exact .inr h
      · exact .inl (.inr h)
    · rintro((h|h)|h)
      · exact .inl h
      · exact .inr (.inr h)
      · exact .inr (.inl h)
  generalize hn:w.length=n
  induction n using Nat.strongRecOn generalizing w with
  |_ n ih =>
    constructor
    · intro hw;obtain⟨u,v,rfl,h0,Y,I⟩:=(e1 w).1 hw;have hul:0<u.length:=List.length_pos_iff.2 h0
      rcases (c1 v).1 I with I|I
      · exact⟨u,v,rfl,h0,by simpa using jo.cons Y .nil,I⟩
      · obtain⟨u',v',rfl,_,hs,hc⟩:=(ih v.length (by rw[<-hn];simp;omega) v rfl).1 I;exact⟨u++u',v',by simp,by simp[h0],.cons Y hs,hc⟩
    · rintro⟨u,v,rfl,h0,hs,hc⟩;obtain⟨a,b,rfl,U,Y,hb⟩:=hs.open h0;have hal:0<a.length:=List.length_pos_iff.2 U;refine(e1 _).2 ⟨a,b++v,by simp,U,Y,(c1 _).2 ?_⟩
      by_cases J:b=[]
      · subst J;exact .inl hc
      · exact .inr ((ih (b++v).length (by rw[<-hn];simp;omega) _ rfl).2 ⟨b,v,rfl,J,hb,hc⟩)
theorem oD.star (h:oD S lo hi null F L Fol A) (I:Bool) (J:I=true):oD S lo hi I F L (λp q=>Fol p q\/(L p/\F q)) (jo A):=by
  refine⟨h.fr,h.lr,λp q k=>?_,by simp[J,jo.nil],λG E N e U Y w=>h.KG U Y w⟩
  rcases k with k|⟨k,k'⟩
  · exact h.gr p q k
  · exact⟨h.lr p k,h.fr q k'⟩
theorem zU {A:By->Prop}{w:By}(h0:w≠[]):(∃u v,w=u++v/\A u/\jo A v)↔jo A w:=by
  constructor
  · rintro⟨u,v,rfl,I,hs⟩;exact .cons I hs
  · intro h;obtain⟨a,b,rfl,_,I,J⟩:=h.open h0;exact⟨a,b,rfl,I,J⟩
theorem IU {A:By->Prop}:(∃u v,([]:By)=u++v/\A u/\jo A v)↔A []:=by
  constructor
  · rintro⟨u,v,h,I,_⟩;rw[(List.append_eq_nil_iff.1 h.symm).1] at I;exact I
  · intro h;exact⟨[],[],rfl,h,.nil⟩
theorem oD.plus (h:oD S lo hi null F L Fol A):oD S lo hi null F L (λp q=>Fol p q\/(L p/\F q)) (λw=>∃u v,w=u++v/\A u/\jo A v):=by
  have k:=h.star true rfl;refine⟨k.fr,k.lr,k.gr,by rw[h.nul];exact IU.symm,λG E N e I J w=>?_⟩;rw[k.ent G E N e I J w];constructor
  · rintro⟨u,v,a,b,c,d⟩;exact⟨u,v,a,b,(zU b).2 c,d⟩
  · rintro⟨u,v,a,b,c,d⟩;exact⟨u,v,a,b,(zU b).1 c,d⟩
theorem oD.opt (h:oD S lo hi null F L Fol A):oD S lo hi true F L Fol (λw=>w=[]\/A w):=by
  refine⟨h.fr,h.lr,h.gr,by simp,λG E N e I J w=>?_⟩;rw[h.ent G E N e I J w];constructor
  · rintro⟨u,v,a,b,c,d⟩;exact⟨u,v,a,b,.inr c,d⟩
  · rintro⟨u,v,a,b,c|c,d⟩
    · exact absurd c b
    · exact⟨u,v,a,b,c,d⟩
end
theorem FZ (n:Nat):(∀(x:Nd) (st:oC) (i:Nat),i<st.1.length->(dG n x st).2.1[i]? =st.1[i]?)/\True:=by
  have key:∀m,(∀(x:Nd) (st:oC) (i:Nat),js x<=m->i<st.1.length->(dG n x st).2.1[i]? =st.1[i]?)/\(∀(l:List Nd) (p:fI) (st:oC) (i:Nat),eR l<=m->i<st.1.length->(cP n l p st).2.1[i]? =st.1[i]? /\i<(cP n l p st).2.1.length)/\(∀(l:List Nd) (p:fI) (st:oC) (i:Nat),eR l<=m->i<st.1.length->(cQ n l p st).2.1[i]? =st.1[i]? /\i<(cQ n l p st).2.1.length):=by
    intro m
    induction m with
    |zero =>
      refine⟨λx st i h=>absurd h (by have:=jM x;omega),λl p st i h hi=>?_,λl p st i h hi=>?_⟩
      · cases l with
        |nil=>rw[cP];exact⟨rfl,hi⟩
        |cons x r=>exact absurd h (by have:=jM x;simp only[eR];omega)
      · cases l with
        |nil=>rw[cQ];exact⟨rfl,hi⟩
        |cons x r=>exact absurd h (by have:=jM x;simp only[eR];omega)
    |succ m Y =>
      have U:∀(x:Nd) (st:oC) (i:Nat),js x<=m+1->i<st.1.length->(dG n x st).2.1[i]? =st.1[i]? :=by
        intro x st i h hi;obtain⟨k,s,kids⟩:=x;simp only[js] at h;rw[dG];split
        · simp only;rw[List.getElem?_append_left hi]
        · split
          · exact(Y.2.1 kids _ st i (by omega) hi).1
          · split
            · exact(Y.2.2 kids _ st i (by omega) hi).1
            · have h1:(cJ n kids st).2.1[i]? =st.1[i]? :=by
                cases kids with
                |nil=>rw[cJ]
                |cons x r=>rw[cJ];exact Y.1 x st i (by simp only[eR] at h;omega) hi
              split
              · exact h1
              · split
                · exact h1
                · rfl
      have J:∀(x:Nd) (st:oC) (i:Nat),js x<=m+1->i<st.1.length->i<(dG n x st).2.1.length:=λx st i h hi=>by
        have:=U x st i h hi;rw[List.getElem?_eq_getElem hi] at this;exact(List.getElem?_eq_some_iff.1 this).1
      refine⟨U,λl=>?_,λl=>?_⟩
      · induction l with
        |nil=>intro p st i _ hi;rw[cP];exact⟨rfl,hi⟩
        |cons x r I =>
          intro p st i h hi;simp only[eR] at h;have Z:=jM x;rw[cP];have h1:=I (cS p (dG n x st).1) ((dG n x st).2.1,bO p.last (dG n x st).1.first (dG n x st).2.2) i (by omega) (J x st i (by omega) hi);exact⟨h1.1.trans (U x st i (by omega) hi),h1.2⟩
      · induction l with
        |nil=>intro p st i _ hi;rw[cQ];exact⟨rfl,hi⟩
        |cons x r I =>
          intro p st i h hi;simp only[eR] at h;have Z:=jM x;rw[cQ];have h1:=I (iy p (dG n x st).1) (dG n x st).2 i (by omega) (J x st i (by omega) hi);exact⟨h1.1.trans (U x st i (by omega) hi),h1.2⟩
  exact⟨λx st i=>(key (js x)).1 x st i (Nat.le_refl _),trivial⟩
def rJ (S:Nat->UInt8->Prop) (sets:List Nat) (lo:Nat):Prop:=∀q,lo<=q->q<sets.length->∀c,S q c↔∃s,sets[q]? =some s/\s.testBit c.toNat=true
theorem rJ.sub {S:Nat->UInt8->Prop}{sets s':List Nat}{lo I:Nat}(h:rJ S sets lo) (hlo:lo<=I) (hle:s'.length<=sets.length) (J:∀i,i<s'.length->sets[i]? =s'[i]?):rJ S s' I:=λq h1 U c=>by
  rw[h q (by omega) (by omega) c,J q U]
theorem xS (n:Nat):∀(l:List Nd) (p:fI) (st:oC) (i:Nat),i<st.1.length->(cP n l p st).2.1[i]? =st.1[i]?
  | [],p,st,i,hi=>by rw[cP]
  |x::r,p,st,i,hi=>by
    rw[cP];have h:=(FZ n).1 x st i hi;rw[xS n r _ _ i (by rw[List.getElem?_eq_getElem hi] at h;exact(List.getElem?_eq_some_iff.1 h).1)];exact h
theorem xT (n:Nat):∀(l:List Nd) (p:fI) (st:oC) (i:Nat),i<st.1.length->(cQ n l p st).2.1[i]? =st.1[i]?
  | [],p,st,i,hi=>by rw[cQ]
  |x::r,p,st,i,hi=>by
    rw[cQ];have h:=(FZ n).1 x st i hi;rw[xT n r _ _ i (by rw[List.getElem?_eq_getElem hi] at h;exact(List.getElem?_eq_some_iff.1 h).1)];exact h
section
variable {S:Nat->UInt8->Prop}(n:Nat)
def Mk (S:Nat->UInt8->Prop) (lo hi:Nat) (p:fI) (bh bh':List (List Bool)) (A:By->Prop):Prop :=
  ∃Fol,oD S lo hi p.null (On p.first) (On p.last) Fol A/\∀a b,Bh bh' a b↔Bh bh a b\/Fol a b
theorem vU (st:oC) (A:By->Prop) (b:Bool) (J:∀u,A u->u=[]) (I:b=true↔A []):oD S st.1.length st.1.length b (On (dn n)) (On (dn n)) (λ_ _=>False) A :=
  (HV A J I).congr (λq=>⟨λh=>wR n q h,λh=>h.elim⟩) (λq=>⟨λh=>wR n q h,λh=>h.elim⟩) (λ_ _=>Iff.rfl) (λ_=>Iff.rfl)
mutual
theorem sH:∀(x:Nd) (st:oC),kX n st->lu x=true->st.1.length+cnt x<=n->rJ S (dG n x st).2.1 st.1.length ->
    Mk S st.1.length (dG n x st).2.1.length (dG n x st).1 st.2 (dG n x st).2.2 (rL x)
  |.mk k s kids,st,J,hw,hn,I=>by
    have U:ng kids=true:=by simp only[lu,Bool.and_eq_true] at hw;exact hw.2
    simp only[cnt] at hn;rw[dG] at I ⊢;unfold rL
    by_cases h1:k=1
    · simp only[if_pos h1,List.length_append,List.length_singleton] at I hn ⊢;refine⟨λ_ _=>False,oD.byte.congr (λq=>Bj (by omega) q) (λq=>Bj (by omega) q) (λ_ _=>Iff.rfl) (λu=>?_),λa b=>by simp⟩;have I:=I st.1.length (Nat.le_refl _) (by simp);constructor
      · rintro⟨c,rfl,hc⟩;exact⟨c,rfl,(I c).2 ⟨s,by simp,hc⟩⟩
      · rintro⟨c,rfl,hc⟩;obtain⟨s',aa,hc⟩:=(I c).1 hc;simp at aa;subst aa;exact⟨c,rfl,hc⟩
    · simp only[if_neg h1] at I hn ⊢
      by_cases h2:k=2
      · simp only[if_pos h2] at I ⊢;have h0:oD S st.1.length st.1.length true (On (dn n)) (On (dn n)) (λ_ _=>False) (λw=>w=[]):=vU n st _ _ (λ_ h=>h) (by simp);obtain⟨Fol,Z,hB⟩:=uR kids ⟨true,dn n,dn n⟩ st J (nC n _) U (by omega) st.1.length (Nat.le_refl _) I _ (Bh st.2) _ h0 (λa b=>⟨λh=>.inl h,λh=>h.elim id False.elim⟩);refine⟨Fol,Z.congr (λ_=>Iff.rfl) (λ_=>Iff.rfl) (λ_ _=>Iff.rfl) (λu=>?_),hB⟩;constructor
        · intro h;exact⟨[],u,rfl,rfl,h⟩
        · rintro⟨a,b,rfl,rfl,h⟩;exact h
      · simp only[if_neg h2] at I ⊢
        by_cases h3:k=3
        · simp only[if_pos h3] at I ⊢;have h0:oD S st.1.length st.1.length false (On (dn n)) (On (dn n)) (λ_ _=>False) (λ_=>False):=vU n st _ _ (λ_ h=>h.elim) (by simp);obtain⟨Fol,Z,hB⟩:=uS kids ⟨false,dn n,dn n⟩ st J (nC n _) U (by omega) st.1.length (Nat.le_refl _) I _ (Bh st.2) _ h0 (λa b=>⟨λh=>.inl h,λh=>h.elim id False.elim⟩);refine⟨Fol,Z.congr (λ_=>Iff.rfl) (λ_=>Iff.rfl) (λ_ _=>Iff.rfl) (λu=>?_),hB⟩;simp
        · simp only[if_neg h3] at I ⊢;have k1:=Aj n kids st J
          by_cases Y:k=4\/k=5
          · simp only[if_pos Y] at I ⊢;have h6:¬k=6:=by omega
            obtain⟨Fol,Z,hB⟩:=uQ kids st J U (by omega) I
            have ab:∀a b,Bh (bO (cJ n kids st).1.last (cJ n kids st).1.first (cJ n kids st).2.2) a b↔Bh st.2 a b\/Fol a b\/On (cJ n kids st).1.last a/\On (cJ n kids st).1.first b:=λa b=>by
              rw[Ap k1.1.last k1.1.first k1.2.1,hB a b,or_assoc]
            by_cases h4:k=4
            · subst h4;simp only[if_neg h6];exact⟨_,Z.star _ (by simp),ab⟩
            · have h5:k=5:=by omega
              subst h5;simp only[if_neg h6,if_neg h4];exact⟨_,by simpa using Z.plus,ab⟩
          · simp only[if_neg Y] at I ⊢;have h4:¬k=4:=λe=>Y (.inl e)
            have h5:¬k=5:=λe=>Y (.inr e)
            by_cases h6:k=6
            · simp only[if_pos h6] at I ⊢;obtain⟨Fol,Z,hB⟩:=uQ kids st J U (by omega) I;exact⟨_,Z.opt,hB⟩
            · simp only[if_neg h6,if_neg h4,if_neg h5] at I ⊢;exact⟨_,vU n st _ _ (λ_ h=>h) (by simp),λa b=>by simp⟩
theorem uR:∀(l:List Nd) (p:fI) (st:oC),kX n st->fF n p->ng l=true->st.1.length+fo l<=n->∀lo,lo<=st.1.length->rJ S (cP n l p st).2.1 lo ->
    ∀(I B0:Nat->Nat->Prop) (A:By->Prop),oD S lo st.1.length p.null (On p.first) (On p.last) I A->(∀a b,Bh st.2 a b↔B0 a b\/I a b) ->
    ∃Fol,oD S lo (cP n l p st).2.1.length (cP n l p st).1.null (On (cP n l p st).1.first) (On (cP n l p st).1.last) Fol (λw=>∃u v,w=u++v/\A u/\pT l v)/\∀a b,Bh (cP n l p st).2.2 a b↔B0 a b\/Fol a b
  | [],p,st,Z,Y,hw,hn,lo,ab,hS,I,B0,A,hG,hB=>by
    rw[cP];unfold pT;refine⟨I,hG.congr (λ_=>Iff.rfl) (λ_=>Iff.rfl) (λ_ _=>Iff.rfl) (λu=>?_),hB⟩;constructor
    · rintro⟨a,b,rfl,h,rfl⟩;simpa using h
    · intro h;exact⟨u,[],by simp,h,rfl⟩
  |x::r,p,st,Z,Y,hw,hn,lo,ab,hS,I,B0,A,hG,hB=>by
    simp only[ng,Bool.and_eq_true] at hw;simp only[fo] at hn;rw[cP] at hS ⊢;unfold pT;have J:=iT n x st Z;have hle:=J.2.2.1;have hle2:=J.2.2.2 hw.1;have U:=qf (S:=(dG n x st).2.1) Y.last J.1.first J.2.1
    have ad:=xS n r (cS p (dG n x st).1) ((dG n x st).2.1,bO p.last (dG n x st).1.first (dG n x st).2.2);have aa:=(tS n r (cS p (dG n x st).1) ((dG n x st).2.1,bO p.last (dG n x st).1.first (dG n x st).2.2) (nR Y J.1) U).2.2.1;obtain⟨Fol,hx,ak⟩:=sH x st Z hw.1 (by omega) (hS.sub ab aa ad);have ae:=hG.cat hx ab hle
    have ac:=ae.congr (F':=On (cS p (dG n x st).1).first) (L':=On (cS p (dG n x st).1).last) (λq=>by
      simp only[cS];cases p.null with
      |true=>simp only[if_pos,true_and];exact CX (by rw[Y.first,J.1.first]) q
      |false=>simp) (λq=>by
      simp only[cS];cases (dG n x st).1.null with
      |true=>simp only[if_pos,true_and];rw[CX (by rw[Y.last,J.1.last]) q,or_comm]
      |false=>simp) (λ_ _=>Iff.rfl) (λ_=>Iff.rfl)
    obtain⟨ag,al,am⟩:=uR r (cS p (dG n x st).1) ((dG n x st).2.1,bO p.last (dG n x st).1.first (dG n x st).2.2) U (nR Y J.1) hw.2 (by simp only;omega) lo (by simp only;omega) hS
      (λa b=>I a b\/Fol a b\/On p.last a/\On (dG n x st).1.first b) B0 _ ac (λa b=>by
        rw[Ap Y.last J.1.first J.2.1,ak a b,hB a b];simp only[or_assoc])
    · refine⟨ag,al.congr (λ_=>Iff.rfl) (λ_=>Iff.rfl) (λ_ _=>Iff.rfl) (λu=>?_),am⟩;constructor
      · rintro⟨a,b,rfl,ha,c,d,rfl,hc,hd⟩;exact⟨a++c,d,by simp,⟨a,c,rfl,ha,hc⟩,hd⟩
      · rintro⟨_,d,rfl,⟨a,c,rfl,ha,hc⟩,hd⟩;exact⟨a,c++d,by simp,ha,c,d,rfl,hc,hd⟩
theorem uS:∀(l:List Nd) (p:fI) (st:oC),kX n st->fF n p->ng l=true->st.1.length+fo l<=n->∀lo,lo<=st.1.length->rJ S (cQ n l p st).2.1 lo ->
    ∀(I B0:Nat->Nat->Prop) (A:By->Prop),oD S lo st.1.length p.null (On p.first) (On p.last) I A->(∀a b,Bh st.2 a b↔B0 a b\/I a b) ->
    ∃Fol,oD S lo (cQ n l p st).2.1.length (cQ n l p st).1.null (On (cQ n l p st).1.first) (On (cQ n l p st).1.last) Fol (λw=>A w\/n7 l w)/\∀a b,Bh (cQ n l p st).2.2 a b↔B0 a b\/Fol a b
  | [],p,st,U,hp,hw,hn,lo,Z,hS,I,B0,A,hG,hB=>by
    rw[cQ];unfold n7;exact⟨I,hG.congr (λ_=>Iff.rfl) (λ_=>Iff.rfl) (λ_ _=>Iff.rfl) (λu=>by simp),hB⟩
  |x::r,p,st,U,hp,hw,hn,lo,Z,hS,I,B0,A,hG,hB=>by
    simp only[ng,Bool.and_eq_true] at hw;simp only[fo] at hn;rw[cQ] at hS ⊢;unfold n7;have J:=iT n x st U;have hle:=J.2.2.1;have hle2:=J.2.2.2 hw.1;have aa:=xT n r (iy p (dG n x st).1) (dG n x st).2;have Y:=(tU n r (iy p (dG n x st).1) (dG n x st).2 (nW hp J.1) J.2.1).2.2.1;obtain⟨Fol,hx,ad⟩:=sH x st U hw.1 (by omega) (hS.sub Z Y aa);have ab:=hG.alt hx Z hle
    obtain⟨ac,ae,ag⟩:=uS r (iy p (dG n x st).1) (dG n x st).2 J.2.1 (nW hp J.1) hw.2 (by omega) lo (by omega) hS
      (λa b=>I a b\/Fol a b) B0 _ (ab.congr (λq=>CX (by rw[hp.first,J.1.first]) q) (λq=>CX (by rw[hp.last,J.1.last]) q) (λ_ _=>Iff.rfl) (λ_=>Iff.rfl)) (λa b=>by
        rw[ad a b,hB a b];simp only[or_assoc])
    exact⟨ac,ae.congr (λ_=>Iff.rfl) (λ_=>Iff.rfl) (λ_ _=>Iff.rfl) (λu=>by simp only[or_assoc]),ag⟩
theorem uQ:∀(l:List Nd) (st:oC),kX n st->ng l=true->st.1.length+fo l<=n->rJ S (cJ n l st).2.1 st.1.length ->
    Mk S st.1.length (cJ n l st).2.1.length (cJ n l st).1 st.2 (cJ n l st).2.2 (l7 l)
  | [],st,I,hw,U,J=>by
    rw[cJ];unfold l7;exact⟨_,vU n st _ _ (λ_ h=>h) (by simp),λa b=>by simp⟩
  |x::r,st,I,hw,U,J=>by
    simp only[ng,Bool.and_eq_true] at hw;simp only[fo] at U;rw[cJ] at J ⊢;unfold l7;exact sH x st I hw.1 (by omega) J
end
end
structure lY (r:qL) (n:Nat):Prop where
  pos:0<r.sets.length
  sets:r.sets.length<=n
  rows:r.behind.length=n
  each:∀b∈r.behind,b.length=n
  last:r.last.length=n
theorem I7 {x:Nd}(hw:lu x=true):lY (gG x) (cnt x+1):=by
  have h0:kX (cnt x+1) ([0],List.replicate (cnt x+1) (dn (cnt x+1))):=⟨by simp,λb I=>by rw[(List.mem_replicate.1 I).2];exact dy _⟩
  have k:=iT (cnt x+1) x ([0],List.replicate (cnt x+1) (dn (cnt x+1))) h0;have h1:=k.2.2.1;have J:=k.2.2.2 hw;simp only[List.length_singleton] at h1 J;refine⟨by simp only[gG];omega,by simp only[gG];omega,by simp only[gG,List.length_set];exact k.2.1.rows,λb I=>?_,by simp only[gG,List.length_set];exact k.1.last⟩;simp only[gG] at I
  rcases List.mem_or_eq_of_mem_set I with h|rfl
  · exact k.2.1.each b h
  · exact k.1.first
abbrev HR (r:qL):Nat->By->Prop:=Kk (λq c=>∃s,r.sets[q]? =some s/\s.testBit c.toNat=true) (λp q=>Bh r.behind p q/\0<q/\q<r.sets.length) (On r.last)
theorem MG {x:Nd}(hw:lu x=true) (w:By):HR (gG x) 0 w↔rL x w:=by
  have h0:kX (cnt x+1) ([0],List.replicate (cnt x+1) (dn (cnt x+1))):=⟨by simp,λb hb=>by rw[(List.mem_replicate.1 hb).2];exact dy _⟩
  have k:=iT (cnt x+1) x ([0],List.replicate (cnt x+1) (dn (cnt x+1))) h0;have hrows:=k.2.1.rows;have hlast:=k.1.last;obtain⟨Fol,U,hB⟩:=sH (S:=λq c=>∃s,(gG x).sets[q]? =some s/\s.testBit c.toNat=true) (cnt x+1) x ([0],List.replicate (cnt x+1) (dn (cnt x+1))) h0 hw (by simp;omega) (λq _ _ c=>Iff.rfl);simp only[List.length_singleton] at U hB
  have ab:∀a b,¬Bh (List.replicate (cnt x+1) (dn (cnt x+1))) a b:=by
    rintro a b ⟨l,hl,ho⟩;rw[List.getElem?_replicate] at hl;split at hl
    · cases hl;exact wR _ _ ho
    · cases hl
  have J:∀q,Bh (gG x).behind 0 q↔On (dG (cnt x+1) x ([0],List.replicate (cnt x+1) (dn (cnt x+1)))).1.first q:=λq=>by
    simp only[gG,Bh];rw[List.getElem?_set_self (by omega)];simp
  have aa:∀p q,0<p->(Bh (gG x).behind p q↔Fol p q):=λp q I=>by
    have:Bh (gG x).behind p q↔Bh (dG (cnt x+1) x ([0],List.replicate (cnt x+1) (dn (cnt x+1)))).2.2 p q:=by
      simp only[gG,Bh];rw[List.getElem?_set_ne (by omega)]
    rw[this,hB p q];exact⟨λh=>h.elim (λh=>(ab _ _ h).elim) id,.inr⟩
  have Z:On (gG x).last 0↔(dG (cnt x+1) x ([0],List.replicate (cnt x+1) (dn (cnt x+1)))).1.null=true:=by
    simp only[gG,On];rw[List.getElem?_set_self (by omega)];simp
  have Y:∀p,0<p->(On (gG x).last p↔On (dG (cnt x+1) x ([0],List.replicate (cnt x+1) (dn (cnt x+1)))).1.last p):=λp I=>by
    simp only[gG,On];rw[List.getElem?_set_ne (by omega)]
  have hsl:(gG x).sets.length=(dG (cnt x+1) x ([0],List.replicate (cnt x+1) (dn (cnt x+1)))).2.1.length:=rfl
  have hE:=U.ent (λp q=>Bh (gG x).behind p q/\0<q/\q<(gG x).sets.length) (On (gG x).last) (λ_=>False) True (λp q I _=>by
    rw[aa p q (by omega)];constructor
    · rintro⟨h,_⟩;exact .inl h
    · rintro(h|⟨_,h⟩)
      · have:=U.gr p q h;exact⟨h,by omega,by omega⟩
      · exact h.elim) (λp I _=>by rw[Y p (by omega)];simp)
  cases w with
  |nil =>
    rw[<-U.nul,<-Z];constructor
    · intro h;cases h with|done h=>exact h
    · exact .done
  |cons c w =>
    have h1:HR (gG x) 0 (c::w)↔yY (λq c=>∃s,(gG x).sets[q]? =some s/\s.testBit c.toNat=true) (λp q=>Bh (gG x).behind p q/\0<q/\q<(gG x).sets.length) (On (gG x).last) (On (dG (cnt x+1) x ([0],List.replicate (cnt x+1) (dn (cnt x+1)))).1.first) (c::w):=by
      constructor
      · intro h;cases h with
        |go hg hs I=>exact⟨c,w,rfl,_,(J _).1 hg.1,hs,I⟩
      · rintro⟨c',w',e,q,hq,hs,I⟩;cases e;have:=U.fr q hq;exact .go ⟨(J _).2 hq,by omega,by omega⟩ hs I
    rw[h1,hE];constructor
    · rintro⟨u,v,e,_,hu,⟨rfl,_⟩|hv⟩
      · rw[e];simpa using hu
      · exact(Ax hv).elim
    · intro h;exact⟨c::w,[],by simp,by simp,h,.inl ⟨rfl,trivial⟩⟩
def qS (r:qL):List Bool:=(dn r.sets.length).set 0 true
def qV:List Bool->List (List Bool)->List Bool->List Bool
  |a::at_,b::bh,out=>qV at_ bh (if a then jr out b else out)
  |_,_,out=>out
def vG (c:UInt8):Nat->List Bool->List Nat->List Bool
  |q,o::out,s::sets=>(o && decide (0<q) && s.testBit c.toNat)::vG c (q+1) out sets
  |_,_,_=>[]
def jE (r:qL) (at_:List Bool) (c:UInt8):List Bool:=vG c 0 (qV at_ r.behind (dn at_.length)) r.sets
def jH (r:qL) (at_:List Bool):Bool:=(List.zipWith (· && ·) at_ r.last).any id
def lW (at_:List Bool):Bool:=at_.any id
theorem MF {a b:List Bool}(h:a.length<=b.length) (i:Nat):On (jr a b) i↔i<a.length/\(On a i\/On b i):=by
  unfold On jr;rw[List.getElem?_zipWith]
  by_cases hi:i<a.length
  · rw[List.getElem?_eq_getElem hi,List.getElem?_eq_getElem (by omega)];simp[hi]
  · rw[List.getElem?_eq_none (by omega)];simp[hi]
theorem sx:∀(at_:List Bool) (I:List (List Bool)) (out:List Bool),(∀b∈I,out.length<=b.length)->(qV at_ I out).length=out.length
  | [],_,_,_=>by simp[qV]
  |_::_,[],_,_=>by simp[qV]
  |a::at_,b::I,out,h=>by
    rw[qV]
    have hl:(if a then jr out b else out).length=out.length:=by
      split
      · have:=h b (by simp);simp[jr];omega
      · rfl
    rw[sx at_ I _ (λb J=>by rw[hl];exact h b (by simp[J])),hl]
theorem FO:∀(at_:List Bool) (I:List (List Bool)) (out:List Bool),(∀b∈I,out.length<=b.length)->at_.length<=I.length->∀q,On (qV at_ I out) q↔q<out.length/\(On out q\/∃p,On at_ p/\Bh I p q)
  | [],I,out,_,_,q=>by
    have e:qV [] I out=out:=by simp[qV]
    rw[e];constructor
    · intro h;exact⟨(List.getElem?_eq_some_iff.1 h).1,.inl h⟩
    · rintro⟨_,h|⟨p,h,_⟩⟩
      · exact h
      · simp[On] at h
  |_::_,[],_,_,h,_=>by simp at h
  |a::at_,b::I,out,h,hl,q=>by
    rw[qV];have aa:=h b (by simp)
    have hlen:(if a then jr out b else out).length=out.length:=by
      split
      · simp[jr];omega
      · rfl
    rw[FO at_ I _ (λb U=>by rw[hlen];exact h b (by simp[U])) (by simpa using hl) q,hlen]
    have e:(∃p,On (a::at_) p/\Bh (b::I) p q)↔(a=true/\On b q)\/∃p,On at_ p/\Bh I p q:=by
      constructor
      · rintro⟨p,Y,U⟩;cases p with
        |zero =>
          obtain⟨x,hx,Z⟩:=U;simp at hx;subst hx;exact .inl ⟨by simpa [On] using Y,Z⟩
        |succ p=>exact .inr ⟨p,by simpa [On] using Y,by simpa [Bh] using U⟩
      · rintro(⟨ha,Z⟩|⟨p,Y,U⟩)
        · exact⟨0,by simp[On,ha],b,by simp,Z⟩
        · exact⟨p+1,by simpa [On] using Y,by simpa [Bh] using U⟩
    rw[e];cases a with
    |true =>
      simp only[if_pos,true_and];rw[MF aa];constructor
      · rintro⟨J,⟨_,h|h⟩|h⟩
        · exact⟨J,.inl h⟩
        · exact⟨J,.inr (.inl h)⟩
        · exact⟨J,.inr (.inr h)⟩
      · rintro⟨J,h|h|h⟩
        · exact⟨J,.inl ⟨J,.inl h⟩⟩
        · exact⟨J,.inl ⟨J,.inr h⟩⟩
        · exact⟨J,.inr h⟩
    |false=>simp
theorem yG (c:UInt8):∀(q:Nat) (out:List Bool) (sets:List Nat),out.length=sets.length->(vG c q out sets).length=out.length
  |_,[],[],_=>rfl
  |_,[],_::_,h=>by simp at h
  |_,_::_,[],h=>by simp at h
  |q,o::out,s::sets,h=>by rw[vG];simp[yG c (q+1) out sets (by simpa using h)]
theorem FQ (c:UInt8):∀(k:Nat) (out:List Bool) (sets:List Nat) (q:Nat),On (vG c k out sets) q↔On out q/\0<k+q/\∃s,sets[q]? =some s/\s.testBit c.toNat=true
  |k,[],sets,q=>by simp[vG,On]
  |k,o::out,[],q=>by simp[vG,On]
  |k,o::out,s::sets,q=>by
    rw[vG];cases q with
    |zero=>simp[On,and_assoc]
    |succ q =>
      have:=FQ c (k+1) out sets q;simp only[On,List.getElem?_cons_succ] at this ⊢;rw[this];have e:k+1+q=k+(q+1):=by omega
      rw[e]
theorem qR (r:qL):(qS r).length=r.sets.length:=by simp[qS,dy]
theorem pW {r:qL}{n:Nat}(hr:lY r n){a:List Bool}(I:a.length=r.sets.length) (c:UInt8):(jE r a c).length=r.sets.length:=by
  have h1:=hr.sets;unfold jE;rw[yG,sx,dy,I]
  · intro b J;rw[hr.each b J,dy,I];exact h1
  · rw[sx,dy,I];intro b J;rw[hr.each b J,dy,I];exact h1
theorem Bi {r:qL}{n:Nat}(hr:lY r n){a:List Bool}(Y:a.length=r.sets.length) (c:UInt8) (q:Nat):On (jE r a c) q↔(∃p,On a p/\Bh r.behind p q/\0<q/\q<r.sets.length)/\∃s,r.sets[q]? =some s/\s.testBit c.toNat=true:=by
  have h1:=hr.sets;unfold jE;rw[FQ,FO _ _ _ (by intro b I;rw[hr.each b I,dy,Y];exact h1) (by rw[Y,hr.rows];exact h1),dy,Y];constructor
  · rintro⟨⟨J,h|⟨p,U,I⟩⟩,h0,hs⟩
    · exact(wR _ _ h).elim
    · exact⟨⟨p,U,I,by omega,J⟩,hs⟩
  · rintro⟨⟨p,U,I,h0,J⟩,hs⟩;exact⟨⟨J,.inr ⟨p,U,I⟩⟩,by omega,hs⟩
theorem Ez (l:List Bool):lW l=true↔∃p,On l p:=by
  unfold lW On;rw[List.any_eq_true];constructor
  · rintro⟨b,J,h⟩;obtain⟨p,I⟩:=List.getElem?_of_mem J;exact⟨p,by rw[I];simpa using h⟩
  · rintro⟨p,I⟩;exact⟨true,List.mem_of_getElem? I,rfl⟩
theorem FP (r:qL) (a:List Bool):jH r a=true↔∃p,On a p/\On r.last p:=by
  unfold jH;rw[List.any_eq_true];constructor
  · rintro⟨b,Y,h⟩;obtain⟨p,I⟩:=List.getElem?_of_mem Y;rw[List.getElem?_zipWith] at I;split at I
    · rename_i x y U J;cases I;simp at h;exact⟨p,by rw[On,U,h.1],by rw[On,J,h.2]⟩
    · cases I
  · rintro⟨p,h1,Z⟩;refine⟨true,?_,rfl⟩
    apply List.mem_of_getElem? (i:=p)
    rw[List.getElem?_zipWith,h1,Z];rfl
def mD (r:qL) (w:By):List Bool:=w.foldl (jE r) (qS r)
theorem IF {r:qL}{n:Nat}(hr:lY r n) (w:By):(mD r w).length=r.sets.length:=by
  have key:∀(w:By) (a:List Bool),a.length=r.sets.length->(w.foldl (jE r) a).length=r.sets.length:=by
    intro w
    induction w with
    |nil=>intro a h;exact h
    |cons c w I=>intro a h;exact I _ (pW hr h c)
  exact key w _ (qR r)
theorem IG {r:qL}{n:Nat}(hr:lY r n) (w v:By):(∃p,On (mD r w) p/\HR r p v)↔HR r 0 (w++v):=by
  have key:∀(w:By) (a:List Bool),a.length=r.sets.length->((∃p,On (w.foldl (jE r) a) p/\HR r p v)↔∃p,On a p/\HR r p (w++v)):=by
    intro w
    induction w with
    |nil=>intro a _;exact Iff.rfl
    |cons c w Z =>
      intro a Y;rw[List.foldl_cons,Z _ (pW hr Y c)];constructor
      · rintro⟨q,hq,J⟩;obtain⟨⟨p,I,U⟩,hs⟩:=(Bi hr Y c q).1 hq;exact⟨p,I,.go U hs J⟩
      · rintro⟨p,I,h⟩;cases h with
        |go U hs J=>exact⟨_,(Bi hr Y c _).2 ⟨⟨p,I,U⟩,hs⟩,J⟩
  unfold mD;rw[key w _ (qR r)];constructor
  · rintro⟨p,I,h⟩;have:=(Bj hr.pos p).1 I;subst this;exact h
  · intro h;exact⟨0,(Bj hr.pos 0).2 rfl,h⟩
theorem yh {x:Nd}(hw:lu x=true) (w:By):jH (gG x) (mD (gG x) w)=true↔rL x w:=by
  rw[FP,<-MG hw w];have h:=IG (I7 hw) w [];rw[List.append_nil] at h;rw[<-h];constructor
  · rintro⟨p,h1,I⟩;exact⟨p,h1,.done I⟩
  · rintro⟨p,h1,I⟩;cases I with
    |done I=>exact⟨p,h1,I⟩
def sr (r:qL) (ri:Nat):By->List Bool->Nat->Int×Int×Int->Int×Int×Int
  |l,now,k,b =>
    if lW now=false then b
    else match l with
      | []=>if jH r now=true/\(b.2.1<0\/b.1<k) then (k,ri,if b.2.2<k then (k:Int) else b.2.2) else (b.1,b.2.1,if b.2.2<k then (k:Int) else b.2.2)
      |c::l=>sr r ri l (jE r now c) (k+1) (if jH r now=true/\(b.2.1<0\/b.1<k) then (k,ri,if b.2.2<k then (k:Int) else b.2.2) else (b.1,b.2.1,if b.2.2<k then (k:Int) else b.2.2))
def ko:Nat->List qL->By->Int×Int×Int->Int×Int×Int
  |_,[],_,b=>b
  |i,r::rs,l,b=>ko (i+1) rs l (sr r i l (qS r) 0 b)
def wN (rs:List qL) (l:By):Int×Int×Int:=ko 0 rs l (0,-1,0)
theorem tJ {r:qL}{I:Nat}{l:By}{now:List Bool}{k:Nat}{b:Int×Int×Int}(h:lW now=false):sr r I l now k b=b:=by cases l<;>(rw[sr];exact if_pos h)
theorem Eo {r:qL}{n:Nat}(hr:lY r n){a:List Bool}(U:a.length=r.sets.length) (h:lW a=false) (c:UInt8):lW (jE r a c)=false:=by
  cases e:lW (jE r a c) with
  |false=>rfl
  |true =>
    obtain⟨q,I⟩:=(Ez _).1 e;obtain⟨⟨p,J,_⟩,_⟩:=(Bi hr U c q).1 I;rw[(Ez a).2 ⟨p,J⟩] at h;cases h
theorem JM {r:qL}{a:List Bool}(h:lW a=false):jH r a=false:=by
  cases e:jH r a with
  |false=>rfl
  |true =>
    obtain⟨p,I,_⟩:=(FP r a).1 e;rw[(Ez a).2 ⟨p,I⟩] at h;cases h
def yT (Q:Nat->Nat->Prop) (o:Int×Int):Prop :=
  (o=(0,-1)/\∀k r,¬Q k r)\/∃k r:Nat,o=((k:Int),(r:Int))/\Q k r/\(∀k' r',Q k' r'->k'<=k)/\∀r',Q k r'->r<=r'
theorem yT.add {Q:Nat->Nat->Prop}{a b:Int}{k r:Nat}(h:yT Q (a,b)) (hold:∀k' I,Q k' I->I<r\/(I=r/\k'<k)) (p:Bool) :
    yT (λk' I=>Q k' I\/(k'=k/\I=r/\p=true)) (if p=true/\(b<0\/a<k) then ((k:Int),(r:Int)) else (a,b)):=by
  cases p with
  |false =>
    rw[if_neg (by simp)];have e:(λk' I=>Q k' I\/(k'=k/\I=r/\false=true))=Q:=by funext k' I;simp
    rw[e];exact h
  |true =>
    rcases h with ⟨he,h1⟩|⟨J,Y,he,U,h1,Z⟩
    · cases he;rw[if_pos ⟨rfl,.inl (by decide)⟩];refine .inr ⟨k,r,rfl,.inr ⟨rfl,rfl,rfl⟩,λk' I hk=>?_,λI hr=>?_⟩
      · rcases hk with hk|⟨hk,_,_⟩
        · exact absurd hk (h1 _ _)
        · omega
      · rcases hr with hr|⟨_,hr,_⟩
        · exact absurd hr (h1 _ _)
        · omega
    · cases he
      by_cases hlt:J<k
      · rw[if_pos ⟨rfl,.inr (by omega)⟩];refine .inr ⟨k,r,rfl,.inr ⟨rfl,rfl,rfl⟩,λk' I hk=>?_,λI hr=>?_⟩
        · rcases hk with hk|⟨hk,_,_⟩
          · have:=h1 _ _ hk;omega
          · omega
        · rcases hr with hr|⟨_,hr,_⟩
          · have:=h1 _ _ hr;omega
          · omega
      · rw[if_neg (by rintro⟨_,h|h⟩<;>omega)];refine .inr ⟨J,Y,rfl,.inl U,λk' I hk=>?_,λI hr=>?_⟩
        · rcases hk with hk|⟨hk,_,_⟩
          · exact h1 _ _ hk
          · omega
        · rcases hr with hr|⟨hk,hr,_⟩
          · exact Z _ hr
          · have:=hold _ _ U;omega
theorem IQ {x:Nd}(hw:lu x=true) (ri:Nat) (Q:Nat->Nat->Prop) (L:By):∀(l a:By) (b:Int×Int×Int),a++l=L ->
    yT (λk' r'=>Q k' r'\/(k'<a.length/\r'=ri/\rL x (L.take k'))) (b.1,b.2.1)->(∀k' r',Q k' r'->r'<ri) ->
    yT (λk' r'=>Q k' r'\/(k'<=L.length/\r'=ri/\rL x (L.take k'))) ((sr (gG x) ri l (mD (gG x) a) a.length b).1,(sr (gG x) ri l (mD (gG x) a) a.length b).2.1):=by
  have hok:=I7 hw
  have dead:∀(l a:By),lW (mD (gG x) a)=false->∀k',a.length<=k'->k'<=(a++l).length->¬rL x ((a++l).take k'):=by
    intro l a h k' h1 h2 hl;rw[<-yh hw] at hl;have e:(a++l).take k'=a++l.take (k'-a.length):=by rw[List.take_append,List.take_of_length_le h1]
    rw[e] at hl
    have key:∀(v:By) (T:List Bool),T.length=(gG x).sets.length->lW T=false->lW (v.foldl (jE (gG x)) T)=false:=by
      intro v
      induction v with
      |nil=>intro T _ h;exact h
      |cons c v ih=>intro T hT h;exact ih _ (pW hok hT c) (Eo hok hT h c)
    have:=key (l.take (k'-a.length)) (mD (gG x) a) (IF hok a) h;unfold mD at hl;rw[List.foldl_append] at hl;have h3:=JM (r:=gG x) this;unfold mD at h3;rw[h3] at hl;cases hl
  intro l
  induction l with
  |nil =>
    intro a b hL hI hQ;rw[List.append_nil] at hL;subst hL
    by_cases h:lW (mD (gG x) a)=false
    · rw[tJ h]
      have e:(λk' r'=>Q k' r'\/(k'<a.length/\r'=ri/\rL x (a.take k')))=(λk' r'=>Q k' r'\/(k'<=a.length/\r'=ri/\rL x (a.take k'))):=by
        funext k' r'
        refine propext ⟨λh=>h.imp id fun⟨h1,h2⟩=>⟨by omega,h2⟩,λhh=>hh.imp id fun⟨h1,h2,h3⟩=>⟨?_,h2,h3⟩⟩
        by_cases e:k'=a.length
        · exact absurd (by simpa using h3) (by simpa using dead [] a h k' (by omega) (by simp;omega))
        · omega
      rw[<-e];exact hI
    · rw[sr,if_neg h]
      have hadd:=hI.add (k:=a.length) (r:=ri) (λk' r' hq=>by
        rcases hq with hq|⟨h1,h2,_⟩
        · exact .inl (hQ _ _ hq)
        · exact .inr ⟨h2,h1⟩) (jH (gG x) (mD (gG x) a))
      have e:(λk' r'=>(Q k' r'\/(k'<a.length/\r'=ri/\rL x (a.take k')))\/(k'=a.length/\r'=ri/\jH (gG x) (mD (gG x) a)=true))=(λk' r'=>Q k' r'\/(k'<=a.length/\r'=ri/\rL x (a.take k'))):=by
        funext k' r'
        rw[yh hw];refine propext ⟨?_,?_⟩
        · rintro((h1|⟨h1,h2,h3⟩)|⟨h1,h2,h3⟩)
          · exact .inl h1
          · exact .inr ⟨by omega,h2,h3⟩
          · exact .inr ⟨by omega,h2,by subst h1;simpa using h3⟩
        · rintro(h1|⟨h1,h2,h3⟩)
          · exact .inl (.inl h1)
          · by_cases hk:k'=a.length
            · exact .inr ⟨hk,h2,by subst hk;simpa using h3⟩
            · exact .inl (.inr ⟨by omega,h2,h3⟩)
      rw[e] at hadd;split<;>rename_i hc
      · rw[if_pos hc] at hadd;exact hadd
      · rw[if_neg hc] at hadd;exact hadd
  |cons c l ih =>
    intro a b hL hI hQ
    by_cases h:lW (mD (gG x) a)=false
    · rw[tJ h];subst hL
      have e:(λk' r'=>Q k' r'\/(k'<a.length/\r'=ri/\rL x ((a++c::l).take k')))=(λk' r'=>Q k' r'\/(k'<=(a++c::l).length/\r'=ri/\rL x ((a++c::l).take k'))):=by
        funext k' r'
        refine propext ⟨λh=>h.imp id fun⟨h1,h2⟩=>⟨by simp;omega,h2⟩,λhh=>hh.imp id fun⟨h1,h2,h3⟩=>⟨?_,h2,h3⟩⟩
        by_cases e:k'<a.length
        · exact e
        · exact absurd h3 (dead (c::l) a h k' (by omega) h1)
      rw[<-e];exact hI
    · rw[sr,if_neg h];have h1:=ih (a++[c]) (if jH (gG x) (mD (gG x) a)=true/\(b.2.1<0\/b.1<(a.length:Int)) then ((a.length:Int),(ri:Int),if b.2.2<(a.length:Int) then (a.length:Int) else b.2.2) else (b.1,b.2.1,if b.2.2<(a.length:Int) then (a.length:Int) else b.2.2)) (by simpa using hL) ?_ hQ
      · have e:mD (gG x) (a++[c])=jE (gG x) (mD (gG x) a) c:=by simp[mD,List.foldl_append]
        rw[e] at h1;simp only[List.length_append,List.length_singleton] at h1;exact h1
      · have hadd:=hI.add (k:=a.length) (r:=ri) (λk' r' hq=>by
          rcases hq with hq|⟨h1,h2,_⟩
          · exact .inl (hQ _ _ hq)
          · exact .inr ⟨h2,h1⟩) (jH (gG x) (mD (gG x) a))
        have e:(λk' r'=>(Q k' r'\/(k'<a.length/\r'=ri/\rL x (L.take k')))\/(k'=a.length/\r'=ri/\jH (gG x) (mD (gG x) a)=true))=(λk' r'=>Q k' r'\/(k'<(a++[c]).length/\r'=ri/\rL x (L.take k'))):=by
          funext k' r'
          rw[yh hw];have ht:L.take a.length=a:=by rw[<-hL];simp
          refine propext ⟨?_,?_⟩
          · rintro((h1|⟨h1,h2,h3⟩)|⟨h1,h2,h3⟩)
            · exact .inl h1
            · exact .inr ⟨by simp;omega,h2,h3⟩
            · exact .inr ⟨by simp;omega,h2,by subst h1;rw[ht];exact h3⟩
          · rintro(h1|⟨h1,h2,h3⟩)
            · exact .inl (.inl h1)
            · simp only[List.length_append,List.length_singleton] at h1
              by_cases hk:k'=a.length
              · exact .inr ⟨hk,h2,by subst hk;rwa [ht] at h3⟩
              · exact .inl (.inr ⟨by omega,h2,h3⟩)
        rw[e] at hadd;split<;>rename_i hc
        · rw[if_pos hc] at hadd;exact hadd
        · rw[if_neg hc] at hadd;exact hadd
theorem zS (L:By):∀(xs:List Nd) (i:Nat) (Q:Nat->Nat->Prop) (b:Int×Int×Int),(∀x∈xs,lu x=true)->(∀k r,Q k r->r<i)->yT Q (b.1,b.2.1) ->
    yT (λk r=>Q k r\/∃j x,xs[j]? =some x/\r=i+j/\k<=L.length/\rL x (L.take k)) ((ko i (xs.map gG) L b).1,(ko i (xs.map gG) L b).2.1)
  | [],i,Q,b,_,_,h=>by
    simp only[List.map_nil,ko];have e:(λk r=>Q k r\/∃(j:Nat) (x:Nd),([]:List Nd)[j]? =some x/\r=i+j/\k<=L.length/\rL x (L.take k))=Q:=by funext k r;simp
    rw[e];exact h
  |x::xs,i,Q,b,hw,Y,h=>by
    simp only[List.map_cons,ko];have h1:=IQ (hw x (by simp)) i Q L L [] b rfl (by simpa using h) Y
    have J:=zS L xs (i+1) _ (sr (gG x) i L (qS (gG x)) 0 b) (λy Z=>hw y (by simp[Z])) (λk r U=>by
      rcases U with U|⟨_,U,_⟩
      · have:=Y _ _ U;omega
      · omega) h1
    have e:(λk r=>(Q k r\/(k<=L.length/\r=i/\rL x (L.take k)))\/∃j y,xs[j]? =some y/\r=i+1+j/\k<=L.length/\rL y (L.take k))=(λk r=>Q k r\/∃j y,(x::xs)[j]? =some y/\r=i+j/\k<=L.length/\rL y (L.take k)):=by
      funext k r
      refine propext ⟨?_,?_⟩
      · rintro((h1|⟨h1,J,I⟩)|⟨j,y,h1,J,I⟩)
        · exact .inl h1
        · exact .inr ⟨0,x,rfl,by omega,h1,I⟩
        · exact .inr ⟨j+1,y,by simpa using h1,by omega,I⟩
      · rintro(h1|⟨j,y,h1,J,I⟩)
        · exact .inl (.inl h1)
        · cases j with
          |zero=>simp at h1;subst h1;exact .inl (.inr ⟨I.1,by omega,I.2⟩)
          |succ j=>exact .inr ⟨j,y,by simpa using h1,by omega,I⟩
    rw[e] at J;exact J
theorem zo {xs:List Nd}(hw:∀x∈xs,lu x=true) (l:By):IsMatch (λn r=>∃x,xs[r]? =some x/\rL x (l.take n)) l.length ((wN (xs.map gG) l).1,(wN (xs.map gG) l).2.1):=by
  have h:=zS l xs 0 (λ_ _=>False) (0,-1,0) hw (λ_ _ h=>h.elim) (.inl ⟨rfl,λ_ _ h=>h⟩)
  rcases h with ⟨h1,U⟩|⟨k,r,h1,U,h3,h4⟩
  · exact .inl ⟨h1,λk r hk ⟨x,Z,hl⟩=>U k r (.inr ⟨r,x,Z,by omega,hk,hl⟩)⟩
  · rcases U with U|⟨j,x,Z,hr,hk,hl⟩
    · exact U.elim
    · have:r=j:=by omega
      subst this;exact .inr ⟨k,r,h1,hk,⟨x,Z,hl⟩,λk' J aa ⟨y,Y,I⟩=>h3 k' J (.inr ⟨J,y,Y,by omega,aa,I⟩),λJ ⟨y,Y,I⟩=>h4 J (.inr ⟨J,y,Y,by omega,hk,I⟩)⟩
end Go.Proofs.YtnjahnbpnpkmhaaGreatDoor
namespace Go.Proofs.YtnjahnbpnpkmhaaGreatDoor
open Go.Proofs.Tryz
open Go Go.Lw
set_option maxRecDepth 20000 set_option maxHeartbeats 4000000
section
variable {h:aq}{O:Nat->Prop}{vb vs vl v:Value}{a:List Bool}{rb n:Nat}
theorem jj {O':Nat->Prop}{va:Value}{b:List Bool}(ha:aL .bool h O va a) (hb:aL .bool h O' vb b) (hl:a.length<=b.length) (hn:a.length<=1000000) :
 au prog 131 #[va,vb] h (bK λr h'=>bN Value.bool h' h.size 4 r (jr a b)/\aj h h'):=by
 obtain⟨oa,na,ca,rfl,ae⟩:=ha.open;obtain⟨ob,nb,cb,rfl,ac⟩:=hb.open;have ap:=ae.len;have hnb:=ac.len;have Y:(jr a b).length=na:=by simp[jr];omega
 subst ap;refine bJ ?_;refine af ?_;refine xo rfl (aV.gk underlying130 H.K7 H.LH rfl rfl rfl (by omega) (by decide)) ?_;rintro _ h1 ⟨rfl,aw,e1⟩;refine af ?_;refine fK (σ:=Nat) (λi=>[(6,.int .i64 (i:Nat))]) (λi h'=>i<=a.length/\aj h h'/\bN Value.bool h' h.size 4 (.slice (some ⟨h.size,0,none⟩) a.length a.length) ((jr a b).take i++List.replicate (a.length-i) false)) (λi=>a.length-i) (0) ⟨Nat.zero_le _,e1,by unfold bN;simpa using aw⟩ rfl ?_;rintro i g ⟨hi,eg,ho⟩ ih;refine af ?_;refine aN (λar=>?_) (λar=>?_)
 · have J:i<a.length:=by omega
   have ad:=ae.mv (Mv.ah eg);have ab:=ac.mv (Mv.ah eg);obtain⟨ba,oo,x,ao,_,hx,a6⟩:=ad.at J;obtain⟨bb,oo2,y,an,_,hy,a1⟩:=ab.at (show i<nb by omega);obtain⟨g',c',aa,_,_,U,ak,I⟩:=ho.at (DC Y J);rw[DB Y hi] at aa;cases aa;have ag:(jr a b)[i]? =some (x ||y):=by rw[jr,List.getElem?_zipWith,hx,hy]
   have am:(jr a b)[i]'(by omega)=(x ||y):=(List.getElem?_eq_some_iff.1 ag).2;have I:=I (x ||y);have al:=Dz (l:=jr a b) (z:=false) Y J;rw[am] at al;rw[al] at I
   have fin:∀d,d=(x ||y)->∀g2,g2=dx g ⟨h.size,0+i*1,none⟩ (.bool d)->aj h g2/\bN Value.bool g2 h.size 4 (.slice (some ⟨h.size,0,none⟩) a.length a.length) ((jr a b).take (i+1)++List.replicate (a.length-(i+1)) false):=by
    rintro d rfl g2 rfl;exact⟨⟨by rw[iP];exact eg.size,λb hb k=>by rw[(Ext.dx (M:=λb=>b=h.size) g _ _ rfl).block b (by have:=eg.size;omega) (by omega)];exact eg.block b hb k⟩,I⟩
   iterate 3 refine aQ ?_
   refine cI ?_
   iterate 4 refine aR ?_
   refine xp rfl (bZ rfl rfl i rfl ao) (xp rfl (aA rfl a6) ?_);refine af ?_;refine cX 22 (λhg=>?_) (λhg=>?_)
   · iterate 4 refine Ks ?_
     refine aR (xp rfl (bZ rfl rfl i rfl rfl) (aO rfl (bf H.Cv rfl rfl rfl U ak) ?_));rintro _ g2 ⟨rfl,Z⟩;refine af ?_;exact ih (i+1) ⟨J,fin _ (by rw[hg];rfl) g2 Z⟩
   · iterate 2 refine aR ?_
     refine xp rfl (bZ rfl rfl i rfl an) (xp rfl (aA rfl a1) (aR (xp rfl (bZ rfl rfl i rfl rfl) (aO rfl (bf H.Cv rfl rfl rfl U ak) ?_))));rintro _ g2 ⟨rfl,Z⟩;refine af ?_;exact ih (i+1) ⟨J,fin _ (by rw[hg];rfl) g2 Z⟩
 · obtain rfl:i=a.length:=by omega
   refine af ?_;refine aP ?_;rw[List.take_of_length_le (by omega),Nat.sub_self,List.replicate_zero,List.append_nil] at ho;exact⟨_,rfl,ho,eg⟩
def LF (n:Nat):Prop:=∀{x:Nd}{h:aq}{O:Nat->Prop}{w:Value},js x<=n->js x<=1000000->aI h O (bP x.kind x.set w) x ->
 au prog 129 #[.agg (bP x.kind x.set w).toArray] h (bK λr h'=>r= .int .i64 (cnt x:Nat)/\aj h h')
theorem JU:∀n,LF n:=by
 intro n
 induction n with
 |zero=>intro x h O w hn _ _;have:=jM x;omega
 |succ n ag =>
  intro x h O w hn hbig hx;obtain⟨w',Z,U⟩:=hx.open;have:w'=w:=by simp[bP] at Z;exact Z.symm
  subst this;obtain⟨oa,kn,kc,rfl,I⟩:=U.open;have hkl:=I.len;have hkm:=I.le;have hkc:=I.cap;have hszl:=vP x.kids;have hsx:eR x.kids+1=js x:=by cases x;simp[js,Nd.kids]
  have an:cnt x=(if x.kind=1 then 1 else 0)+fo x.kids:=by cases x;rw[cnt];rfl
  refine bJ ?_;refine af ?_;refine xo rfl (mh) ?_;rintro _ h1 ⟨rfl,J,e1,z1⟩;refine af ?_;have J:aC h1 h.size 182 (bP x.kind x.set (.slice oa kn kc)):=J
  have go:∀(_u:Unit) (h':aq) (ρ':Env),Sub [(1,.pointer (some ⟨h.size,0,none⟩)),(3,.int .i64 ((if x.kind=1 then 1 else 0:Nat):Int))] ρ'->h'=h1->G prog 129 Tryz.f129 [.code [1,1,1]] ρ' h' (bK λr h'=>r= .int .i64 (cnt x:Nat)/\aj h h'):=by
   rintro _u ao ρ' aa rfl;refine G.sub (ρ':=[(1,.pointer (some ⟨h.size,0,none⟩)),(3,.int .i64 ((if x.kind=1 then 1 else 0:Nat):Int))]) aa ?_;refine af ?_;refine uw (σ:=Nat) (λi=>[(1,.pointer (some ⟨h.size,0,none⟩)),(3,.int .i64 (((if x.kind=1 then 1 else 0)+fo (x.kids.take i):Nat):Int)),(4,.int .i64 (i:Nat))]) (λi h'=>i<=kn/\aj ao h') (λi=>kn-i) (0) rfl ⟨rfl,rfl,rfl,trivial⟩ ⟨Nat.zero_le _,Ext.refl _ _⟩ ?_;rintro i g ⟨hi,eg⟩ ih;have ae:=J.ah eg;refine iC rfl (Mm func129 1 rfl (xp rfl (gm (off:=5) underlying182 rfl rfl H.Ip rfl) (xp rfl (eB H.Kc rfl (ae.cell (i:=5) rfl)) (xp rfl (az.mL underlying180 rfl) (D5 1 [1,3,4,12] rfl (vk rfl rfl (λal=>?_) (λal=>?_)))))))
   · have am:i<x.kids.length:=by omega
     obtain⟨y,hy⟩:∃y,x.kids[i]? =some y:=⟨_,List.getElem?_eq_getElem am⟩
     have ab:=I.mv (Mv.ah (e1.trans eg));obtain⟨b,o,cs,ha,hob,ac,ad⟩:=ab.get i y hy;obtain⟨w2,rfl,_⟩:=aI.open ad;have hsy:=vO hy;have hct:=BO (x.kids.take (i+1))
     have ak:fo (x.kids.take (i+1))=fo (x.kids.take i)+cnt y:=by
      rw[List.take_add_one,hy,ve];simp[fo]
     have hst:eR (x.kids.take (i+1))<=eR x.kids:=by
      have:eR (x.kids.take (i+1)++x.kids.drop (i+1))=eR x.kids:=by rw[List.take_append_drop]
      rw[gD] at this;omega
     have hif:(if x.kind=1 then 1 else 0:Nat)<=1:=by split<;>omega
     refine me rfl (iC rfl (G.block rfl rfl (G.mE func129 rfl (KA 1 rfl rfl (gm (off:=5) underlying182 rfl rfl H.Ip rfl) (xp rfl (eB H.Kc rfl (ae.cell (i:=5) rfl)) (B6 1 rfl (xp rfl (az.iS underlying180 H.Cw rfl rfl i rfl ha (by omega)) ?_)))))));refine xp rfl (az.kD H.Kb H.Cw rfl ac (by first|rfl|(simp;done)|(simp;omega))) (xo rfl (kO (vs:=[_]) func129 rfl H.N6 rfl (au.HX (ag (x:=y) (by omega) (by omega) ad))) ?_);rintro _ g2 ⟨rfl,e2⟩;refine xp rfl (az.ow rfl rfl ⟨by omega,by omega⟩) (D5 1 [1,3,4,12] rfl (G.pL (G.mE func129 rfl (KA 1 rfl rfl (az.ow rfl rfl ⟨by omega,by omega⟩) (D5 1 [1,3,4,12] rfl ?_)))));exact ih (i+1) _ _ ⟨rfl,by show _=_;rw[ak,<-Nat.add_assoc];push_cast;rfl,rfl,trivial⟩ ⟨by omega,eg.trans e2⟩ (by omega)
   · have:i=x.kids.length:=by omega
     subst this;refine af ?_;refine aP ?_;exact⟨_,rfl,by rw[List.take_length,an];rfl,e1.trans eg⟩
  refine xp rfl (aA rfl (J.cell (i:=0) rfl)) ?_;refine af ?_;refine aN (λhk=>?_) (λhk=>?_)
  · have Y:x.kind=1:=by omega
    refine cI (aR (cO ?_));exact go () _ _ ⟨rfl,by rw[if_pos Y];rfl,trivial⟩ rfl
  · have Y:¬x.kind=1:=by omega
    refine aQ ?_;exact go () _ _ ⟨rfl,by rw[if_neg Y];rfl,trivial⟩ rfl
def O5 (h:aq) (O:Nat->Prop) (cs:List Value) (x:List Bool):Prop:=∃v,cs=[v]/\aL .bool h O v x
def Hz:gW (List Bool):=⟨1,by decide,O5,λh=>by obtain⟨v,rfl,_⟩:=h;rfl,λh=>by
 obtain⟨v,rfl,hv⟩:=h;intro u hu;simp at hu;subst hu;exact aL.JB hv,λh m=>by
 obtain⟨v,hc,hv⟩:=h;exact⟨v,hc,hv.mv m⟩⟩
structure jB (h:aq) (O:Nat->Prop) (rb:Nat) (vs vb vl:Value) (st:oC):Prop where
 blk:aC h rb 212 [vs,vb,vl]
 sets:fG 4 cn h 0 102 vs st.1
 rows:cH Hz (λb=>b=rb\/bU vs.ownBlock b\/O b) h 0 130 vb st.2
 apart:∀b,vs.ownBlock=some b->vb.ownBlock≠some b
 ns:vs.ownBlock≠some rb
 nb:vb.ownBlock≠some rb
abbrev yW (rb:Nat) (vs vb:Value):Nat->Prop:=λb=>b=rb\/bU vs.ownBlock b\/bU vb.ownBlock b
theorem jB.zu {st:oC}(k:jB h O rb vs vb vl st):∀b,vs.ownBlock=some b->b≠rb/\b<h.size:=λb I=>by
 have:=aB.lt k.sets I;exact⟨λe=>k.ns (by rw[I,e]),this.2⟩
theorem jB.wP {st:oC}(k:jB h O rb vs vb vl st):∀b,vb.ownBlock=some b->b≠rb/\b<h.size:=λb I=>by
 obtain⟨css,_,J,_⟩:=k.rows;have:=J.lt I;exact⟨λe=>k.nb (by rw[I,e]),this.2⟩
theorem jB.ext {M:Nat->Prop}{O O':Nat->Prop}{h h':aq}{rb:Nat}{vs vb vl:Value}{st:oC}(k:jB h O rb vs vb vl st) (e:Ext M h h') (J:∀b,yW rb vs vb b->¬M b) (Y:∀b,b<h.size->M b->O b) (U:∀b,b<h.size->O' b->O b):jB h' O' rb vs vb vl st :=
 ⟨k.blk.ext e (J _ (.inl rfl)),aB.ext e k.sets (λ_ I=>J _ (.inr (.inl I.symm))),k.rows.kU e (λ_ I=>J _ (.inr (.inr I.symm))) (λb I hm=>.inr (.inr (Y b I hm))) (λb I k=>k.imp id (λk=>k.imp id (U b I))),k.apart,k.ns,k.nb⟩
theorem jB.ah {O':Nat->Prop}{h':aq}{st:oC}(k:jB h O rb vs vb vl st) (e:aj h h') (I:∀b,b<h.size->O' b->O b):jB h' O' rb vs vb vl st:=k.ext e (λ_ _ k=>k) (λ_ _ k=>k.elim) I
theorem ET {last first:List Bool}{I:List (List Bool)}{i:Nat}{l:Bool}{b:List Bool}(hl:last[i]? =some l) (J:I[i]? =some b):(bO last first I)[i]? =some (if l then jr b first else b):=by
 rw[bO,List.getElem?_zipWith,hl,J]
theorem sK {vlast vfirst:Value}{st:oC}{last first:List Bool}(hr:jB h O rb vs vb vl st) (hO:∀b,O b->b<h.size) (hlast:aL .bool h (λb=>yW rb vs vb b) vlast last) (hfirst:aL .bool h (λb=>yW rb vs vb b) vfirst first)
 (hok:kX n st) (hll:last.length=n) (hfl:first.length=n) (hn:n<=1000000) :
 au prog 149 #[.pointer (some ⟨rb,0,none⟩),vlast,vfirst] h (bK λ_ h'=>jB h' O rb vs vb vl (st.1,bO last first st.2)/\Ext (bU vb.ownBlock) h h'):=by
 obtain⟨ol,nl,cl,rfl,hsl⟩:=hlast.open;obtain⟨of,nf,cf,rfl,hsf⟩:=hfirst.open;have hnl:=hsl.len;have hnf:=hsf.len;have hrows:=hok.rows;have hfb:(bO last first st.2).length=n:=by simp[bO];omega
 have hownS:=hr.zu;have hownB:=hr.wP;have hrb:=hr.blk.lt;refine bJ ?_;refine af ?_;refine fK (σ:=Nat) (λi=>[(6,.int .i64 (i:Nat))]) (λi h'=>i<=n/\jB h' O rb vs vb vl (st.1,(bO last first st.2).take i++st.2.drop i)/\Ext (bU vb.ownBlock) h h') (λi=>n-i) (0) ⟨Nat.zero_le _,hr,Ext.refl _ _⟩ rfl ?_;rintro i g ⟨hi,hg,eg⟩ ih;have hzg:=eg.size;refine af ?_;refine aN (λhlt=>?_) (λhlt=>?_)
 · have hin:i<n:=by omega
   have hmv:Mv (λb=>yW rb vs vb b) (λb=>yW rb vs vb b) h g:=Mv.bY eg (λb _ k=>⟨λk2=>k (.inr (.inr k2)),k⟩);have hslg:=hsl.mv hmv;have hsfg:=hsf.mv hmv;obtain⟨bl,oo,x,hol,_,hx,hcx⟩:=hslg.at (show i<nl by omega);obtain⟨row,hrow⟩:∃row,st.2[i]? =some row:=⟨_,List.getElem?_eq_getElem (by omega)⟩
   have hrl:=hok.each row (List.mem_of_getElem? hrow);have hfa:=ET (first:=first) hx hrow
   have hcur:((bO last first st.2).take i++st.2.drop i)[i]? =some row:=by
    have h1:((bO last first st.2).take i).length=i:=by rw[List.length_take];omega
    rw[List.getElem?_append_right (by omega),h1,Nat.sub_self,List.getElem?_drop];exact hrow
   have hlen:((bO last first st.2).take i++st.2.drop i).length=n:=by rw[List.length_append,List.length_take,List.length_drop];omega
   have hnext:∀z,(bO last first st.2)[i]? =some z->((bO last first st.2).take i++st.2.drop i).set i z=(bO last first st.2).take (i+1)++st.2.drop (i+1):=by
    intro z hz;obtain⟨hil,hz⟩:=List.getElem?_eq_some_iff.1 hz;have hd:st.2.drop i=st.2[i]::st.2.drop (i+1):=List.drop_eq_getElem_cons (by omega);rw[List.set_append_right _ _ (by rw[List.length_take];omega),hd];have h1:((bO last first st.2).take i).length=i:=by rw[List.length_take];omega
    rw[h1,Nat.sub_self,List.set_cons_zero,List.take_succ_eq_append_getElem hil,hz,List.append_assoc];rfl
   iterate 4 refine aQ ?_
   refine cI ?_
   iterate 2 refine aR ?_
   refine xp rfl (bZ rfl rfl i rfl hol) ?_;refine xp rfl (aA rfl hcx) ?_;refine af ?_;refine jS (λhb=>?_) (λhb=>?_)
   · subst hb;have hz:=hnext _ hfa;rw[if_pos rfl] at hz;obtain⟨gb,c,cs,hvb,hgb1,hgb2,hra,hfz,⟨w,rfl,hw⟩,hput⟩:=hg.rows.put hcur;rw[hlen] at hvb;subst hvb;have hbb:@bU (some gb) gb:=rfl;refine Gn 16 15 ?_;refine aF 0 ?_;refine aF 1 ?_;refine aF 2 ?_;refine bq 3 rfl (λh' e=>aA rfl (e.old (hg.blk.cell (i:=1) rfl))) ?_;refine aF 4 ?_;refine aF 5 ?_;refine aF 6 ?_;refine aF 7 ?_;refine bq 8 rfl (λh' e=>aA rfl (e.old (hg.blk.cell (i:=1) rfl))) ?_;refine aF 9 ?_;refine bq 10 rfl (λh' e=>bZ rfl rfl i rfl rfl) ?_;refine bq 11 rfl (λh' e=>aA rfl (e.old (hra 0 _ rfl))) ?_;refine aF 12 ?_;refine cV 13 rfl (aE rfl (jj hw hsfg.shut (by omega) (by omega))) ?_;rintro w1 g1 ⟨ho1,e1⟩;refine⟨λ_=>e1.mono (λ_ _ k=>k.elim),?_⟩;have hg1:jB g1 O rb vs (.slice (some ⟨gb,0,none⟩) n c) vl (st.1,(bO last first st.2).take i++st.2.drop i):=hg.ah e1 (λ_ _ k=>k);have hz1:=e1.size;obtain⟨gb',c',cs1,hvb1,_,_,hra1,hfz1,⟨w2,rfl,hw2⟩,hput1⟩:=hg1.rows.put hcur;rw[hlen] at hvb1;cases hvb1;obtain⟨wa,wc,rfl,_⟩:=(show aB g1 g.size 4 1 w1 (jr row first).length ((jr row first).map Value.bool) from ho1).open
     have hnew:=hput1 0 (.slice wa (jr row first).length wc) (jr row first) (by decide) ⟨_,rfl,bN.read (h1:=λ_=>rfl) ho1 (λb hb k=>by
      rcases k with k|k|k|k
      · have:=hownB b k.symm;omega
      · omega
      · have:=hownS b k.symm;omega
      · have:=hO b k;omega)⟩
     rw[hz] at hnew;refine bq 14 rfl (λh' e=>bZ rfl rfl i rfl rfl) ?_;refine gU 15 rfl (bf H.zK rfl rfl rfl (hra1 0 _ rfl) (hfz1 _)) ?_;rintro _ g2 ⟨rfl,hg2⟩;refine⟨nofun,?_⟩;have x2:Ext (λb=>b=gb) g1 g2:=by rw[hg2];exact Ext.dx _ _ _ rfl
     have e02:Ext (bU (Value.slice (some ⟨gb,0,none⟩) n c).ownBlock) h g2:=⟨by have:=x2.size;omega,λb hb k=>by
      rw[x2.block b (by omega) (λe=>k (by subst e;rfl)),e1.block b (by omega) (λk=>k)];exact eg.block b hb k⟩
     have hgs:vs.ownBlock≠some gb:=λe=>hr.apart gb e rfl
     have hg3:jB g2 O rb vs (.slice (some ⟨gb,0,none⟩) n c) vl (st.1,(bO last first st.2).take (i+1)++st.2.drop (i+1)) :=
      ⟨hg1.blk.ext x2 (by show ¬_=_;have:=(hownB gb rfl).1;omega),aB.ext x2 hg1.sets (λb hb e=>hgs (by subst e;exact hb)),by rw[hg2];exact hnew,hr.apart,hr.ns,hr.nb⟩
     refine fV ?_;refine af ?_;exact ih (i+1) ⟨hin,hg3,e02⟩
   · subst hb;have hz:=hnext _ hfa;rw[if_neg (by decide)] at hz
     have hset:((bO last first st.2).take i++st.2.drop i).set i row=(bO last first st.2).take i++st.2.drop i:=by
      obtain⟨hi',hrow'⟩:=List.getElem?_eq_some_iff.1 hcur;rw[<-hrow',List.set_getElem_self]
     rw[hset] at hz;rw[hz] at hg;refine af ?_;exact ih (i+1) ⟨hin,hg,eg⟩
 · obtain rfl:i=n:=by omega
   rw[List.take_of_length_le (by omega),List.drop_of_length_le (by omega),List.append_nil] at hg;refine af ?_;refine D4 ?_;exact⟨_,rfl,hg,eg⟩
def Eu (O L:Nat->Prop):Nat->Prop:=λb=>O b\/L b
structure ql (O:Nat->Prop) (rb:Nat) (vs vb vl:Value) (h:aq) (L:Nat->Prop) (hi:Nat) (g:aq) (vs':Value) (st':oC):Prop where
 at_:jB g (Eu O L) rb vs' vb vl st'
 ext:Ext (yW rb vs vb) h g
 own:∀b,vs'.ownBlock=some b->vs.ownBlock=some b\/hi<=b
 size:hi<=g.size
 base:h.size<=hi
 lt:∀b,yW rb vs vb b->b<h.size
 o:∀b,O b->b<h.size
 l:∀b,L b->h.size<=b/\b<hi
abbrev oN (O:Nat->Prop) (rb:Nat) (vs' vb:Value) (L:Nat->Prop):Nat->Prop:=λb=>yW rb vs' vb b\/Eu O L b
section
variable {O L:Nat->Prop}{rb:Nat}{vs vb vl vs' vs2:Value}{h g g2:aq}{hi:Nat}{st' st2:oC}
theorem ql.loc (k:ql O rb vs vb vl h L hi g vs' st'):∀b,L b->¬yW rb vs' vb b:=by
 intro b U;obtain⟨h1,h2⟩:=k.l b U;rintro(I|I|I)
 · have:=k.lt rb (.inl rfl);omega
 · rcases k.own b I.symm with J|J
   · have:=k.lt b (.inr (.inl J.symm));omega
   · omega
 · have:=k.lt b (.inr (.inr I));omega
theorem ql.Kw (k:ql O rb vs vb vl h L hi g vs' st'):∀b,oN O rb vs' vb L b->b<g.size:=by
 have hs:=k.size;have hb:=k.base;rintro b ((I|I|I)|I|I)
 · have:=k.lt rb (.inl rfl);omega
 · exact(k.at_.zu b I.symm).2
 · exact(k.at_.wP b I.symm).2
 · have:=k.o b I;omega
 · have:=k.l b I;omega
theorem ql.old (k:ql O rb vs vb vl h L hi g vs' st'):Mv (yW rb vs vb) (yW rb vs' vb) h g :=
 ⟨k.ext.size,λb Y J=>⟨k.ext.block b Y J,by
  have hbs:=k.base;rintro(I|I|I)
  · exact J (.inl I)
  · rcases k.own b I.symm with U|U
    · exact J (.inr (.inl U.symm))
    · omega
  · exact J (.inr (.inr I))⟩⟩
theorem ql.ah (k:ql O rb vs vb vl h L hi g vs' st') (e:aj g g2):ql O rb vs vb vl h L hi g2 vs' st' :=
 ⟨k.at_.ah e (λ_ _ k=>k),⟨Nat.le_trans k.ext.size e.size,λb I J=>(e.block b (Nat.lt_of_lt_of_le I k.ext.size) (λk=>k)).trans (k.ext.block b I J)⟩,k.own,Nat.le_trans k.size e.size,k.base,k.lt,k.o,k.l⟩
theorem ql.put (k:ql O rb vs vb vl h L hi g vs' st'){x:Nat}(e:Ext (λb=>b=x) g g2) (U:L x):ql O rb vs vb vl h L hi g2 vs' st' :=
 ⟨k.at_.ext e (λb J I=>by subst I;exact k.loc b U J) (λb _ I=>by subst I;exact .inr U) (λ_ _ k=>k),
  ⟨Nat.le_trans k.ext.size e.size,λb J Y=>(e.block b (Nat.lt_of_lt_of_le J k.ext.size) (by have:=k.l x U;omega)).trans (k.ext.block b J Y)⟩,k.own,Nat.le_trans k.size e.size,k.base,k.lt,k.o,k.l⟩
theorem ql.iE (_:ql O rb vs vb vl h L hi g vs' st'){x:Nat}(e:Ext (λb=>b=x) g g2) (U:L x):Mv (oN O rb vs' vb L) (oN O rb vs' vb L) g g2 :=
 Mv.bY e λb _ J=>⟨λI=>J (.inr (.inr (by subst I;exact U))),J⟩
theorem ql.sub (k:ql O rb vs vb vl h L hi g vs' st') (a:jB g2 (Eu O L) rb vs2 vb vl st2) (e:Ext (yW rb vs' vb) g g2) (Y:∀b,vs2.ownBlock=some b->vs'.ownBlock=some b\/g.size<=b):ql O rb vs vb vl h L hi g2 vs2 st2 :=
 ⟨a,⟨Nat.le_trans k.ext.size e.size,λb I U=>(e.block b (Nat.lt_of_lt_of_le I k.ext.size) (k.old.block b I U).2).trans (k.ext.block b I U)⟩,
  λb I=>by
   have hs:=k.size
   rcases Y b I with J|J
   · exact k.own b J
   · exact .inr (by omega),Nat.le_trans k.size e.size,k.base,k.lt,k.o,k.l⟩
theorem ql.Is (_:ql O rb vs vb vl h L hi g vs' st') (e:Ext (yW rb vs' vb) g g2) (Y:∀b,vs2.ownBlock=some b->vs'.ownBlock=some b\/g.size<=b):Mv (oN O rb vs' vb L) (oN O rb vs2 vb L) g g2 :=
 ⟨e.size,λb Z J=>⟨e.block b Z (λk=>J (.inl k)),by
  rintro((I|I|I)|I)
  · exact J (.inl (.inl I))
  · rcases Y b I.symm with U|U
    · exact J (.inl (.inr (.inl U.symm)))
    · omega
  · exact J (.inl (.inr (.inr I)))
  · exact J (.inr I)⟩⟩
theorem ql.QD (k:ql O rb vs vb vl h L hi g vs' st') (a:jB g2 (Eu O L) rb vs' vb vl st2) (e:Ext (bU vb.ownBlock) g g2):ql O rb vs vb vl h L hi g2 vs' st2 :=
 k.sub a (e.mono λ_ _ k=>.inr (.inr k)) (λ_ k=>.inl k)
theorem ql.Hu (k:ql O rb vs vb vl h L hi g vs' st') (e:Ext (bU vb.ownBlock) g g2):Mv (oN O rb vs' vb L) (oN O rb vs' vb L) g g2:=k.Is (e.mono λ_ _ k=>.inr (.inr k)) (λ_ k=>.inl k)
structure vK (b4 b6:Nat) (nd:List Value) (g:aq):Prop where
 k4:aC g b4 182 nd
 k6:aC g b6 214 [.bool false,.slice none 0 0,.slice none 0 0]
theorem vK.ah {g g2:aq}{b4 b6:Nat}{nd:List Value}(k:vK b4 b6 nd g) (e:aj g g2):vK b4 b6 nd g2:=⟨k.k4.ah e,k.k6.ah e⟩
theorem vK.ext {M:Nat->Prop}{g g2:aq}{b4 b6:Nat}{nd:List Value}(k:vK b4 b6 nd g) (e:Ext M g g2) (J:¬M b4) (I:¬M b6):vK b4 b6 nd g2:=⟨k.k4.ext e J,k.k6.ext e I⟩
def D3 (O:Nat->Prop) (rb:Nat) (h:aq) (vs vb vl:Value) (out:fI×oC) (r:Value) (h':aq):Prop :=
 ∃vs' f l,r= .agg #[.bool out.1.null,f,l]/\jB h' O rb vs' vb vl out.2/\aL .bool h' (λb=>yW rb vs' vb b\/O b) f out.1.first/\aL .bool h' (λb=>yW rb vs' vb b\/O b) l out.1.last/\Ext (yW rb vs vb) h h'/\(∀b,vs'.ownBlock=some b->vs.ownBlock=some b\/h.size<=b)
theorem ql.fin (k:ql O rb vs vb vl h L hi g vs' st'){p:fI}{f l:Value}(J:aL .bool g (oN O rb vs' vb L) f p.first) (hl:aL .bool g (oN O rb vs' vb L) l p.last):D3 O rb h vs vb vl (p,st') (.agg #[.bool p.null,f,l]) g :=
 ⟨vs',f,l,rfl,k.at_.ah (Ext.refl _ _) (λ_ _ k=>.inl k),fq J (λ_ k=>k.imp id .inl),fq hl (λ_ k=>k.imp id .inl),k.ext,λb U=>(k.own b U).imp id (λI=>Nat.le_trans k.base I)⟩
end
def Fp (m:Nat):Prop:=∀{x:Nd}{h:aq}{O:Nat->Prop}{rb:Nat}{vs vb vl w:Value}{st:oC}{n:Nat},js x<=m->jB h O rb vs vb vl st->(∀b,O b->b<h.size)->aI h (yW rb vs vb) (bP x.kind x.set w) x->lu x=true->kX n st->st.1.length+cnt x<=n->n<=1000000 ->
 au prog 130 #[.pointer (some ⟨rb,0,none⟩),.agg (bP x.kind x.set w).toArray,.int .i64 (n:Nat)] h (bK (D3 O rb h vs vb vl (dG n x st)))
theorem Og {k j:Nat}(h:¬((k:Nat):Int)=(j:Nat)):¬k=j:=λe=>h (by rw[e])
theorem He {m:Nat}(ih:Fp m):Fp (m+1):=by
 intro x h O rb vs vb vl w st n hsz hr hO hx hw hok hroom hn;obtain⟨k,s,kids⟩:=x;simp only[js] at hsz;simp only[cnt] at hroom;have hrb:=hr.blk.lt
 have hltM:∀b,yW rb vs vb b->b<h.size:=by
  rintro b (k1|k1|k1)
  · omega
  · exact(hr.zu b k1.symm).2
  · exact(hr.wP b k1.symm).2
 obtain⟨w',hw',hkids⟩:=hx.open;have hww:w=w':=by simpa [bP] using hw'
 subst hww
 show au _ _ #[_,.agg (bP k s w).toArray,_] h _
 replace hkids:aL mX h (yW rb vs vb) w kids:=hkids;obtain⟨oa,kn,kc,rfl,hsl⟩:=hkids.open;have hkn:kids.length=kn:=hsl.len;have hkm:=hsl.le;have hkc:=hsl.cap;have hkc2:=hkc;simp only[maxLen] at hkc2;have hwl:ng kids=true:=by simp only[lu,Bool.and_eq_true] at hw;exact hw.2
 have hklen:=vP kids;have hokAll:=iT n (.mk k s kids) st hok;refine bJ ?_;refine af ?_;refine xo rfl (mh) ?_;rintro _ h1 ⟨rfl,q4,e1,z1⟩;refine xo rfl (cL) ?_;rintro _ h2 ⟨rfl,q6,e2,z2⟩;refine af ?_;refine xo rfl (aV.gk underlying130 H.K7 H.LH rfl rfl rfl (by omega) (by decide)) ?_;rintro _ h3 ⟨rfl,q7,e3⟩;have q4:aC h1 h.size 182 (bP k s (.slice oa kn kc)):=q4;have q6:aC h2 h1.size 214 [.bool false,.slice none 0 0,.slice none 0 0]:=q6;have z3:=e3.size;have q4:=(q4.ah e2).ah e3;have q6:=q6.ah e3;have e03:aj h h3:=(e1.trans e2).trans e3;have q7:bN Value.bool h3 h2.size 4 (.slice (some ⟨h2.size,0,none⟩) n n) (dn n):=by unfold bN dn;simpa using q7
 have hs4:Array.size h+1=Array.size h1:=by omega
 have hs6:Array.size h1+1=Array.size h2:=by omega
 have hs7:Array.size h2<Array.size h3:=(aB.lt q7 rfl).2
 -- from h3 on
 generalize hLe:(λb=>b=Array.size h\/b=Array.size h1:Nat->Prop)=L2;have hLn:L2 h.size:=by rw[<-hLe];exact .inl rfl
 have hLp:L2 h1.size:=by rw[<-hLe];exact .inr rfl
 have hL2:∀b,L2 b->h.size<=b/\b<h3.size:=by rw[<-hLe];rintro b (k|k)<;>omega
 have R3:ql O rb vs vb vl h L2 h3.size h3 vs st:=⟨hr.ext (O':=Eu O L2) e03 (λ_ _ k=>k) (λ_ _ k=>k.elim) (λb hb k=>k.elim id (λk=>by have:=hL2 b k;omega)),e03.mono (λ_ _ k=>k.elim),λb hb=>.inl hb,Nat.le_refl _,e03.size,hltM,hO,hL2⟩
 have hnob:fF n ⟨true,dn n,dn n⟩:=nC n true;refine af ?_;refine xp rfl (aA rfl (q4.cell (i:=0) rfl)) ?_;refine af ?_;refine aN (λh1k=>?_) (λh1k=>?_)
 · obtain rfl:k=1:=by omega
   have hglu:dG n (.mk 1 s kids) st=(⟨false,(dn n).set st.1.length true,(dn n).set st.1.length true⟩,(st.1++[s],st.2)):=by rw[dG];simp
   rw[hglu];simp only[if_true] at hroom;have hownS:=R3.at_.zu;have hownB:=hr.wP;have hrM:¬(bU vs.ownBlock rb\/Array.size h3<=rb):=by rintro(k|k);(have:=hownS rb k.symm;omega);omega
   have hnM:¬(bU vs.ownBlock h.size\/Array.size h3<=h.size):=by rintro(k|k);(have:=(hr.zu _ k.symm);omega);omega
   have hsets:aB h3 0 102 4 vs st.1.length (st.1.flatMap cn):=R3.at_.sets;have hset1:∀u∈cn s,u.oneCell'=true:=by intro u hu;simp[cn] at hu;rcases hu with rfl|rfl|rfl|rfl<;>rfl
   have hset4:Lw.rowAt h3 h.size 1 (cn s):=q4.part 1 (by intro j v hv;match j with| 0=>exact hv| 1=>exact hv| 2=>exact hv| 3=>exact hv|j+4=>simp[cn] at hv);refine af ?_;refine jK 12 (λb=>bU vs.ownBlock b\/Array.size h3<=b) (λi=>Nat.blt i 11) ?_;refine aF 0 ?_;refine aF 1 ?_;refine aF 2 ?_;refine aF 3 ?_;refine bq 4 rfl (λh' e=>aA rfl (e.cell hrM (R3.at_.blk.cell (i:=0) rfl))) ?_;refine aF 5 ?_;refine bq 6 rfl (λh' e=>cj rfl (e.rowAt hnM hset4)) ?_;refine cV 7 rfl (lg) ?_;rintro _ _ ⟨rfl,rfl⟩;refine⟨λ_=>by first|exact Ext.push _ _ _|assumption,?_⟩;refine cV 8 rfl (aV.dA underlying209 H.L9 rfl rfl (hsets) rfl rfl (hset1) (by omega) (by decide) (by omega)) ?_;rintro v2 h5 ⟨ho5,hx5,hx5',hv5⟩;refine⟨λ_=>hx5'.mono (λ_ _ k=>.inl k),?_⟩;have z5:=hx5.size;obtain⟨va2,c2,rfl,_⟩:=ho5.open;have hrb5:rb<h5.size:=by omega
   refine H8 9 ?_;refine aF 10 ?_;refine gU 11 rfl (iG rfl rfl ((R3.at_.blk.ext hx5 (λk=>by have:=hownS rb k.symm;omega)))) ?_;rintro _ h6 ⟨rfl,hk6,hx6,hz6⟩;refine⟨nofun,?_⟩;have hk6:aC h6 rb 212 [.slice va2 (st.1.length+1) c2,vb,vl]:=hk6
   have hv2:∀b,(Value.slice va2 (st.1.length+1) c2).ownBlock=some b->b≠rb:=λb hb=>by
    rcases hv5 b hb with k|k
    · exact(hownS b k).1
    · omega
   have a6:jB h6 (Eu O L2) rb (.slice va2 (st.1.length+1) c2) vb vl (st.1++[s],st.2):=⟨hk6,fG.of (aB.ext hx6 ho5 (λb hb (e:b=rb)=>by have:=hv2 b hb;omega)) rfl rfl,
    (R3.at_.rows.kU hx5 (λb hb k=>hr.apart b k.symm hb) (λb _ k=>.inr (.inl k)) (O':=λb=>b=rb\/bU (Value.slice va2 (st.1.length+1) c2).ownBlock b\/Eu O L2 b) (λb hb k=>by
     rcases k with k|k|k
     · exact .inl k
     · rcases hv5 b k.symm with k2|k2
       · exact .inr (.inl k2.symm)
       · omega
     · exact .inr (.inr k))).kU hx6 (λb hb (e:b=rb)=>by have:=hownB b hb;omega) (λb _ k=>.inl k) (λb _ k=>k),λb hb=>by
     rcases hv5 b hb with k|k
     · exact hr.apart b k
     · intro e;have:=hownB b e;omega,λhb=>(hv2 rb hb) rfl,hr.nb⟩
   have e36:Ext (yW rb vs vb) h3 h6:=⟨by omega,λb hb hn=>by rw[hx6.block b (by omega) (λk=>hn (.inl k)),hx5.block b hb (λk=>hn (.inr (.inl k)))]⟩
   have R6:=R3.sub a6 e36 hv5;have q4:=q4.ext e36 (R3.loc _ hLn);have q6:=q6.ext e36 (R3.loc _ hLp);refine fV ?_;refine af ?_;refine xo rfl (aV.gk underlying130 H.K7 H.LH rfl rfl rfl (by omega) (by decide)) ?_;rintro _ h7 ⟨rfl,q8,e7⟩;have q8:bN Value.bool h7 h6.size 4 (.slice (some ⟨h6.size,0,none⟩) n n) (dn n):=by unfold bN dn;simpa using q8
   have R7:=R6.ah e7;obtain⟨g',c',hv',_,_,hcell,hfz,hset⟩:=q8.at (i:=st.1.length) (x:=false) (by unfold dn;rw[List.getElem?_replicate,if_pos (by omega)]);rw[dy] at hv';cases hv';have hset:=hset true;refine af ?_;refine xp rfl (aA rfl (R7.at_.blk.cell (i:=0) rfl)) ?_
   iterate 2 refine aR ?_
   refine xp rfl (bZ rfl rfl st.1.length (by omega) rfl) ?_;refine aO rfl (bf H.Cv rfl rfl rfl hcell hfz) ?_;rintro _ h8 ⟨rfl,hg8⟩;rw[<-hg8] at hset;have e68:aj h6 h8:=aj.only e7 (by rw[hg8];exact Ext.dx _ _ _ rfl:Ext (λb=>b=h6.size) h7 h8) (Nat.le_refl _);have R8:=R6.ah e68;have hone:aL .bool h8 (oN O rb (.slice va2 (st.1.length+1) c2) vb L2) (.slice (some ⟨h6.size,0,none⟩) n n) ((dn n).set st.1.length true):=bN.read (h1:=λ_=>rfl) hset (λb hb k=>by have:=R6.Kw b k;omega);refine af ?_;refine xp rfl (av (H.ew _ _ _ _ _ _ _) rfl) ?_;refine aO rfl (aZ rfl rfl ((q6.ah e68))) ?_;rintro _ h9 ⟨rfl,hk9,hx9,hz9⟩;refine af ?_;have hk9:aC h9 h1.size 214 [.bool false,.slice (some ⟨h6.size,0,none⟩) n n,.slice (some ⟨h6.size,0,none⟩) n n]:=hk9;refine cE (cz rfl hk9.row cD) ?_;have R9:=R8.put hx9 hLp;have hone9:=hone.mv (R8.iE hx9 hLp);exact⟨_,rfl,R9.fin hone9 hone9⟩
 · have h1k':¬k=1:=Og h1k;refine af ?_;refine aN (λh2k=>?_) (λh2k=>?_)
   · obtain rfl:k=2:=by omega
     have hglu:dG n (.mk 2 s kids) st=cP n kids ⟨true,dn n,dn n⟩ st:=by rw[dG];simp
     rw[hglu];generalize htgt:cP n kids ⟨true,dn n,dn n⟩ st=tgt;rw[if_neg (by decide),Nat.zero_add] at hroom;refine af ?_;refine xp rfl (av (H.ew _ _ _ _ _ _ _) rfl) ?_;refine xo rfl (cL) ?_;rintro _ h4 ⟨rfl,k9,e4,z4⟩;refine aO rfl (aZ rfl rfl k9) ?_;rintro _ h5 ⟨rfl,k9,x5,z5⟩;have k9:aC h5 h3.size 214 [.bool true,.slice (some ⟨h2.size,0,none⟩) n n,.slice (some ⟨h2.size,0,none⟩) n n]:=k9;have e35:aj h3 h5:=aj.only e4 x5 (Nat.le_refl _);have e05:=e03.trans e35;generalize hL5e:(λb=>L2 b\/b=Array.size h3:Nat->Prop)=L5;have hL5:∀b,L5 b->h.size<=b/\b<h5.size:=by rw[<-hL5e];rintro b (k|k);(have:=hL2 b k;omega);omega
     have hL4':L5 h.size:=by rw[<-hL5e];exact .inl hLn
     have hL6':L5 h1.size:=by rw[<-hL5e];exact .inl hLp
     have hL9':L5 h3.size:=by rw[<-hL5e];exact .inr rfl
     have R5:ql O rb vs vb vl h L5 h5.size h5 vs st:=⟨hr.ext (O':=Eu O L5) e05 (λ_ _ k=>k) (λ_ _ k=>k.elim) (λb hb k=>k.elim id (λk=>by have:=hL5 b k;omega)),e05.mono (λ_ _ k=>k.elim),λb hb=>.inl hb,Nat.le_refl _,by omega,hltM,hO,hL5⟩
     have hnb3:aL .bool h3 (oN O rb vs vb L2) (.slice (some ⟨h2.size,0,none⟩) n n) (dn n):=bN.read (h1:=λ_=>rfl) q7 (λb hb k=>by
      rcases k with k|k|k
      · have:=hltM b k;omega
      · have:=hO b k;omega
      · rw[<-hLe] at k;rcases k with k|k<;>omega)
     have hnb5:aL .bool h5 (oN O rb vs vb L5) (.slice (some ⟨h2.size,0,none⟩) n n) (dn n):=hnb3.mv ⟨e35.size,λb hb hn=>⟨e35.block b hb (λk=>k),by
      rintro(k|k|k)
      · exact hn (.inl k)
      · exact hn (.inr (.inl k))
      · rw[<-hL5e] at k
        rcases k with k|k
        · exact hn (.inr (.inr k))
        · omega⟩⟩
     have LB5:vK h.size h1.size (bP 2 s (.slice oa kn kc)) h5:=⟨q4.ah e35,q6.ah e35⟩
     refine af ?_;refine Kt (σ:=Nat) (λi=>[(0,.pointer (some ⟨rb,0,none⟩)),(2,.int .i64 (n:Nat)),(4,.pointer (some ⟨h.size,0,none⟩)),(6,.pointer (some ⟨h1.size,0,none⟩)),(9,.pointer (some ⟨h3.size,0,none⟩)),(10,.int .i64 (i:Nat))]) (λi h'=>i<=kn/\∃vs' p fa fn fc la ln lc stc,ql O rb vs vb vl h L5 h5.size h' vs' stc/\vK h.size h1.size (bP 2 s (.slice oa kn kc)) h'/\aC h' h3.size 214 [.bool p.null,.slice fa fn fc,.slice la ln lc]/\aL .bool h' (oN O rb vs' vb L5) (.slice fa fn fc) p.first/\aL .bool h' (oN O rb vs' vb L5) (.slice la ln lc) p.last/\fF n p/\kX n stc/\stc.1.length+fo (kids.drop i)<=n/\cP n (kids.drop i) p stc=tgt) (λi=>kn-i) (0) ⟨Nat.zero_le _,vs,⟨true,dn n,dn n⟩,_,_,_,_,_,_,st,R5,LB5,k9,hnb5,hnb5,nC n true,hok,hroom,htgt⟩ ?_;rintro i g ⟨hi,vs',p,fa,fn,fc,la,ln,lc,stc,R,LB,k9,hf,hl,hpok,hcok,hcroom,hcon⟩ ih2;have hvb:=hr.wP;have hL5s:Array.size h3<Array.size h5:=(hL5 _ hL9').2;refine af ?_;refine xp rfl (aA rfl (LB.k4.cell (i:=5) rfl)) ?_;refine af ?_;refine aN (λhlt=>?_) (λhlt=>?_)
     · have hik:i<kids.length:=by omega
       obtain⟨x,hx⟩:∃x,kids[i]? =some x:=⟨_,List.getElem?_eq_getElem hik⟩
       have hdr:kids.drop i=x::kids.drop (i+1):=by
        obtain⟨hi',rfl⟩:=List.getElem?_eq_some_iff.1 hx;exact List.drop_eq_getElem_cons hi'
       rw[hdr,cP] at hcon;rw[hdr] at hcroom;simp only[fo] at hcroom;have hszx:=vO hx;have hwx:=rU hwl hx;have hokx:=iT n x stc hcok;have hroomx:=hokx.2.2.2 hwx;obtain⟨b,o,cs,ha,hob,hrow,hnd⟩:=(hsl.mv R.old).get i x hx;obtain⟨w2,rfl,-⟩:=aI.open hnd;have hgz:=R.size;refine af ?_;refine xp rfl (aA rfl (LB.k4.cell (i:=5) rfl)) ?_;refine aR ?_;refine xp rfl (bZ rfl rfl i rfl ha) ?_;refine xp rfl (cj rfl hrow) ?_;refine af ?_;refine xo rfl (aE rfl (ih (x:=x) (O:=Eu O L5) (by omega) R.at_ (λb hb=>R.Kw b (.inr hb)) hnd hwx hcok (by omega) hn)) ?_;rintro _ g1 ⟨vs1,f1,l1,rfl,a1,hf1,hl1,e1x,ho1⟩;refine xo rfl (cL) ?_;rintro _ g2 ⟨rfl,k11,e2x,z2x⟩;generalize dG n x stc=out at *;have hf1':∃oa n c,f1= .slice oa n c:=by obtain⟨oa,n,c,rfl,_⟩:=hf1;exact⟨_,_,_,rfl⟩
       obtain⟨f1a,f1n,f1c,rfl⟩:=hf1';have hl1':∃oa n c,l1= .slice oa n c:=by obtain⟨oa,n,c,rfl,_⟩:=hl1;exact⟨_,_,_,rfl⟩
       obtain⟨l1a,l1n,l1c,rfl⟩:=hl1';have R1:=R.sub a1 e1x ho1;have z1x:=e1x.size;have LB1:=LB.ext e1x (R.loc _ hL4') (R.loc _ hL6');have k9:=k9.ext e1x (R.loc _ hL9');have hf:=hf.mv (R.Is e1x ho1);have hl:=hl.mv (R.Is e1x ho1);refine aO rfl (aZ rfl rfl k11) ?_;rintro _ g3 ⟨rfl,k11,x3,z3x⟩;have k11:aC g3 g1.size 214 [.bool out.1.null,.slice f1a f1n f1c,.slice l1a l1n l1c]:=k11;have e13:aj g1 g3:=aj.only e2x x3 (Nat.le_refl _);have R3':=R1.ah e13;have LB3:=LB1.ah e13;have k9:=k9.ah e13;have hf:=hf.mv (Mv.ah e13);have hl:=hl.mv (Mv.ah e13);have hf1:aL .bool g3 (oN O rb vs1 vb L5) _ out.1.first:=aL.mv hf1 (Mv.ah e13)
       have hl1:aL .bool g3 (oN O rb vs1 vb L5) _ out.1.last:=aL.mv hl1 (Mv.ah e13);refine af ?_;refine xp rfl (aA rfl (k9.cell (i:=2) rfl)) ?_;refine af ?_;refine xp rfl (aA rfl (k11.cell (i:=1) rfl)) ?_;refine xo rfl (aE rfl (sK R3'.at_ (λb hb=>R3'.Kw b (.inr hb)) (fq hl (λ_ k=>.inl k)) (fq hf1 (λ_ k=>.inl k)) hokx.2.1 hpok.last hokx.1.first hn)) ?_;rintro _ g4 ⟨a4,e4x⟩;have R4:=R3'.QD a4 e4x;have z4x:=e4x.size;have n11:¬bU vb.ownBlock g1.size:=λk=>by have:=hvb _ k.symm;omega
       have k11:=k11.ext e4x n11;have LB4:=LB3.ext e4x (λk=>R3'.loc _ hL4' (.inr (.inr k))) (λk=>R3'.loc _ hL6' (.inr (.inr k)));have k9:=k9.ext e4x (λk=>R3'.loc _ hL9' (.inr (.inr k)));have hf:=hf.mv (R3'.Hu e4x);have hl:=hl.mv (R3'.Hu e4x);have hf1:=hf1.mv (R3'.Hu e4x);have hl1:=hl1.mv (R3'.Hu e4x);have hcpok:=nR hpok hokx.1;have hcfok:=qf (S:=out.2.1) hpok.last hokx.1.first hokx.2.1
       have hg1n:¬g1.size=h3.size:=by omega
       refine af ?_;refine xp rfl (aA rfl (k9.cell (i:=0) rfl)) ?_;refine af ?_
       have st1:∀(f2a:Option Addr) (f2n f2c:Nat) (h':aq) (ρ':Env),Sub [(0,.pointer (some ⟨rb,0,none⟩)),(2,.int .i64 (n:Nat)),(4,.pointer (some ⟨h.size,0,none⟩)),(6,.pointer (some ⟨h1.size,0,none⟩)),(9,.pointer (some ⟨h3.size,0,none⟩)),(10,.int .i64 (i:Nat)),(11,.pointer (some ⟨g1.size,0,none⟩))] ρ'->ql O rb vs vb vl h L5 h5.size h' vs1 (out.2.1,bO p.last out.1.first out.2.2)->vK h.size h1.size (bP 2 s (.slice oa kn kc)) h'->aC h' h3.size 214 [.bool p.null,.slice f2a f2n f2c,.slice la ln lc]->aC h' g1.size 214 [.bool out.1.null,.slice f1a f1n f1c,.slice l1a l1n l1c]->aL .bool h' (oN O rb vs1 vb L5) (.slice f2a f2n f2c) (cS p out.1).first->aL .bool h' (oN O rb vs1 vb L5) (.slice la ln lc) p.last->aL .bool h' (oN O rb vs1 vb L5) (.slice l1a l1n l1c) out.1.last->G prog 130 f130 [.code [1,1,1,0,0,1,0,0,1,0,1,0,1,1,1,0,1,0,1,1],.blk 2,.code [1,1,0,0,1,0,1,0,1,1,1,0,1,0,1,1],.loop [0,0,1,0,1,0,1,1,1,0,1,0,1,1],.blk 1,.code [1,1,0,1,1,1,0,1,0,1,1],.blk 0,.code [1,1,1]] ρ' h' (bK (D3 O rb h vs vb vl tgt)):=by
        rintro f2a f2n f2c g5 ρ' hsub R6 LB6 k9 k11 hf2 hl hl1;refine G.sub (ρ':=[(0,.pointer (some ⟨rb,0,none⟩)),(2,.int .i64 (n:Nat)),(4,.pointer (some ⟨h.size,0,none⟩)),(6,.pointer (some ⟨h1.size,0,none⟩)),(9,.pointer (some ⟨h3.size,0,none⟩)),(10,.int .i64 (i:Nat)),(11,.pointer (some ⟨g1.size,0,none⟩))]) hsub ?_;refine af ?_;refine xp rfl (aA rfl (k11.cell (i:=0) rfl)) ?_;refine af ?_
        have st2:∀(f2a:Option Addr) (f2n f2c:Nat) (l2a:Option Addr) (l2n l2c:Nat) (h':aq) (ρ':Env),Sub [(0,.pointer (some ⟨rb,0,none⟩)),(2,.int .i64 (n:Nat)),(4,.pointer (some ⟨h.size,0,none⟩)),(6,.pointer (some ⟨h1.size,0,none⟩)),(9,.pointer (some ⟨h3.size,0,none⟩)),(10,.int .i64 (i:Nat)),(11,.pointer (some ⟨g1.size,0,none⟩))] ρ'->ql O rb vs vb vl h L5 h5.size h' vs1 (out.2.1,bO p.last out.1.first out.2.2)->vK h.size h1.size (bP 2 s (.slice oa kn kc)) h'->aC h' h3.size 214 [.bool p.null,.slice f2a f2n f2c,.slice l2a l2n l2c]->aC h' g1.size 214 [.bool out.1.null,.slice f1a f1n f1c,.slice l1a l1n l1c]->aL .bool h' (oN O rb vs1 vb L5) (.slice f2a f2n f2c) (cS p out.1).first->aL .bool h' (oN O rb vs1 vb L5) (.slice l2a l2n l2c) (cS p out.1).last->G prog 130 f130 [.code [1,1,1,1,0,0,1,0,0,1,0,1,0,1,1,1,0,1,0,1,1],.blk 2,.code [1,1,0,0,1,0,1,0,1,1,1,0,1,0,1,1],.loop [0,0,1,0,1,0,1,1,1,0,1,0,1,1],.blk 1,.code [1,1,0,1,1,1,0,1,0,1,1],.blk 0,.code [1,1,1]] ρ' h' (bK (D3 O rb h vs vb vl tgt)):=by
         rintro f2a f2n f2c l2a l2n l2c g5 ρ' hsub R6 LB6 k9 k11 hf2 hl2;refine G.sub (ρ':=[(0,.pointer (some ⟨rb,0,none⟩)),(2,.int .i64 (n:Nat)),(4,.pointer (some ⟨h.size,0,none⟩)),(6,.pointer (some ⟨h1.size,0,none⟩)),(9,.pointer (some ⟨h3.size,0,none⟩)),(10,.int .i64 (i:Nat)),(11,.pointer (some ⟨g1.size,0,none⟩))]) hsub ?_;refine af ?_;refine xp rfl (aA rfl (k9.cell (i:=0) rfl)) ?_;refine af ?_;refine cX 94 (λhg=>?_) (λhg=>?_)
         · refine af ?_;refine xp rfl (aA rfl (k11.cell (i:=0) rfl)) ?_;refine af ?_;refine aO rfl (iG rfl rfl k9) ?_;rintro _ g7 ⟨rfl,k9',x7,z7⟩;refine af ?_;exact ih2 (i+1) ⟨by omega,vs1,cS p out.1,_,_,_,_,_,_,_,R6.put x7 hL9',LB6.ext x7 (by show ¬_=_;omega) (by show ¬_=_;omega),by simp only[cS,hg,Bool.true_and];exact k9',hf2.mv (R6.iE x7 hL9'),hl2.mv (R6.iE x7 hL9'),hcpok,hcfok,by show out.2.1.length+_<=n;omega,hcon⟩
         · refine af ?_;refine aO rfl (iG rfl rfl k9) ?_;rintro _ g7 ⟨rfl,k9',x7,z7⟩;refine af ?_;exact ih2 (i+1) ⟨by omega,vs1,cS p out.1,_,_,_,_,_,_,_,R6.put x7 hL9',LB6.ext x7 (by show ¬_=_;omega) (by show ¬_=_;omega),by simp only[cS,hg,Bool.false_and];exact k9',hf2.mv (R6.iE x7 hL9'),hl2.mv (R6.iE x7 hL9'),hcpok,hcfok,by show out.2.1.length+_<=n;omega,hcon⟩ (by omega)
        refine jS (λhg=>?_) (λhg=>?_)
        · refine af ?_;refine xp rfl (aA rfl (k9.cell (i:=2) rfl)) ?_;refine af ?_;refine xp rfl (aA rfl (k11.cell (i:=2) rfl)) ?_;refine xo rfl (aE rfl (jj hl hl1 (by rw[hpok.last,hokx.1.last];exact Nat.le_refl _) (by rw[hpok.last];exact hn))) ?_;rintro w5 g6 ⟨ho6,e6x⟩;have R7:=R6.ah e6x;obtain⟨wa,wc,rfl,_⟩:=(show aB g6 g5.size 4 1 w5 (jr p.last out.1.last).length ((jr p.last out.1.last).map Value.bool) from ho6).open;have hl2:aL .bool g6 (oN O rb vs1 vb L5) _ (jr p.last out.1.last):=bN.read (h1:=λ_=>rfl) ho6 (λb hb k=>by have:=R6.Kw b k;omega);have z6x:=e6x.size;refine af ?_;refine aO rfl (iG rfl rfl ((k9.ah e6x))) ?_;rintro _ g7 ⟨rfl,k9',x7,z7⟩;refine cO ?_;exact st2 _ _ _ _ _ _ _ _ (by exact sb rfl) (R7.put x7 hL9') ((LB6.ah e6x).ext x7 (by show ¬_=_;omega) (by show ¬_=_;omega)) k9' ((k11.ah e6x).ext x7 (by show ¬_=_;omega)) ((hf2.mv (Mv.ah e6x)).mv (R7.iE x7 hL9')) (by simp only[cS,hg,if_true];exact hl2.mv (R7.iE x7 hL9'))
        · refine af ?_;refine xp rfl (aA rfl (k11.cell (i:=2) rfl)) ?_;refine af ?_;refine aO rfl (iG rfl rfl k9) ?_;rintro _ g7 ⟨rfl,k9',x7,z7⟩;refine cO ?_;exact st2 _ _ _ _ _ _ _ _ (by exact sb rfl) (R6.put x7 hL9') (LB6.ext x7 (by show ¬_=_;omega) (by show ¬_=_;omega)) k9' (k11.ext x7 (by show ¬_=_;omega)) (hf2.mv (R6.iE x7 hL9')) (by simp only[cS,hg];exact hl1.mv (R6.iE x7 hL9'))
       refine jS (λhg=>?_) (λhg=>?_)
       · refine af ?_;refine xp rfl (aA rfl (k9.cell (i:=1) rfl)) ?_;refine af ?_;refine xp rfl (aA rfl (k11.cell (i:=1) rfl)) ?_;refine xo rfl (aE rfl (jj hf hf1 (by rw[hpok.first,hokx.1.first];exact Nat.le_refl _) (by rw[hpok.first];exact hn))) ?_;rintro w5 g6 ⟨ho6,e6x⟩;have R7:=R4.ah e6x;obtain⟨wa,wc,rfl,_⟩:=(show aB g6 g4.size 4 1 w5 (jr p.first out.1.first).length ((jr p.first out.1.first).map Value.bool) from ho6).open;have hf2:aL .bool g6 (oN O rb vs1 vb L5) _ (jr p.first out.1.first):=bN.read (h1:=λ_=>rfl) ho6 (λb hb k=>by have:=R4.Kw b k;omega);have z6x:=e6x.size;refine af ?_;refine aO rfl (iG rfl rfl ((k9.ah e6x))) ?_;rintro _ g7 ⟨rfl,k9',x7,z7⟩;refine cO ?_;exact st1 _ _ _ _ _ (by exact sb rfl) (R7.put x7 hL9') ((LB4.ah e6x).ext x7 (by show ¬_=_;omega) (by show ¬_=_;omega)) k9' ((k11.ah e6x).ext x7 (by show ¬_=_;omega)) (by simp only[cS,hg,if_true];exact hf2.mv (R7.iE x7 hL9')) ((hl.mv (Mv.ah e6x)).mv (R7.iE x7 hL9')) ((hl1.mv (Mv.ah e6x)).mv (R7.iE x7 hL9'))
       · refine aQ ?_;exact st1 _ _ _ _ _ (by exact sb rfl) R4 LB4 k9 k11 (by simp only[cS,hg];exact hf) hl hl1
     · have hnil:kids.drop i=[]:=List.drop_of_length_le (by omega);rw[hnil,cP] at hcon;refine af ?_;refine xp rfl (cj rfl k9.row) ?_;refine aO rfl (aZ rfl rfl LB.k6) ?_;rintro _ g9 ⟨rfl,hk9,hx9,hz9⟩;refine af ?_;have hk9:aC g9 h1.size 214 [.bool p.null,.slice fa fn fc,.slice la ln lc]:=hk9;refine cE (cz rfl hk9.row cD) ?_;subst hcon;exact⟨_,rfl,(R.put hx9 hL6').fin (hf.mv (R.iE hx9 hL6')) (hl.mv (R.iE hx9 hL6'))⟩
   · have h2k':¬k=2:=Og h2k;refine af ?_;refine aN (λh3k=>?_) (λh3k=>?_)
     · obtain rfl:k=3:=by omega
       have hglu:dG n (.mk 3 s kids) st=cQ n kids ⟨false,dn n,dn n⟩ st:=by rw[dG];simp
       rw[hglu];generalize htgt:cQ n kids ⟨false,dn n,dn n⟩ st=tgt;rw[if_neg (by decide),Nat.zero_add] at hroom;refine af ?_;refine xp rfl (av (H.ew _ _ _ _ _ _ _) rfl) ?_;refine xo rfl (cL) ?_;rintro _ h4 ⟨rfl,k9,e4,z4⟩;refine aO rfl (aZ rfl rfl k9) ?_;rintro _ h5 ⟨rfl,k9,x5,z5⟩;have k9:aC h5 h3.size 214 [.bool false,.slice (some ⟨h2.size,0,none⟩) n n,.slice (some ⟨h2.size,0,none⟩) n n]:=k9;have e35:aj h3 h5:=aj.only e4 x5 (Nat.le_refl _);have e05:=e03.trans e35;generalize hL5e:(λb=>L2 b\/b=Array.size h3:Nat->Prop)=L5;have hL5:∀b,L5 b->h.size<=b/\b<h5.size:=by rw[<-hL5e];rintro b (k|k);(have:=hL2 b k;omega);omega
       have hL4':L5 h.size:=by rw[<-hL5e];exact .inl hLn
       have hL6':L5 h1.size:=by rw[<-hL5e];exact .inl hLp
       have hL9':L5 h3.size:=by rw[<-hL5e];exact .inr rfl
       have R5:ql O rb vs vb vl h L5 h5.size h5 vs st:=⟨hr.ext (O':=Eu O L5) e05 (λ_ _ k=>k) (λ_ _ k=>k.elim) (λb hb k=>k.elim id (λk=>by have:=hL5 b k;omega)),e05.mono (λ_ _ k=>k.elim),λb hb=>.inl hb,Nat.le_refl _,by omega,hltM,hO,hL5⟩
       have hnb3:aL .bool h3 (oN O rb vs vb L2) (.slice (some ⟨h2.size,0,none⟩) n n) (dn n):=bN.read (h1:=λ_=>rfl) q7 (λb hb k=>by
        rcases k with k|k|k
        · have:=hltM b k;omega
        · have:=hO b k;omega
        · rw[<-hLe] at k;rcases k with k|k<;>omega)
       have hnb5:aL .bool h5 (oN O rb vs vb L5) (.slice (some ⟨h2.size,0,none⟩) n n) (dn n):=hnb3.mv ⟨e35.size,λb hb hn=>⟨e35.block b hb (λk=>k),by
        rintro(k|k|k)
        · exact hn (.inl k)
        · exact hn (.inr (.inl k))
        · rw[<-hL5e] at k
          rcases k with k|k
          · exact hn (.inr (.inr k))
          · omega⟩⟩
       have LB5:vK h.size h1.size (bP 3 s (.slice oa kn kc)) h5:=⟨q4.ah e35,q6.ah e35⟩
       refine af ?_;refine Kt (σ:=Nat) (λi=>[(0,.pointer (some ⟨rb,0,none⟩)),(2,.int .i64 (n:Nat)),(4,.pointer (some ⟨h.size,0,none⟩)),(6,.pointer (some ⟨h1.size,0,none⟩)),(12,.pointer (some ⟨h3.size,0,none⟩)),(13,.int .i64 (i:Nat))]) (λi h'=>i<=kn/\∃vs' p fa fn fc la ln lc stc,ql O rb vs vb vl h L5 h5.size h' vs' stc/\vK h.size h1.size (bP 3 s (.slice oa kn kc)) h'/\aC h' h3.size 214 [.bool p.null,.slice fa fn fc,.slice la ln lc]/\aL .bool h' (oN O rb vs' vb L5) (.slice fa fn fc) p.first/\aL .bool h' (oN O rb vs' vb L5) (.slice la ln lc) p.last/\fF n p/\kX n stc/\stc.1.length+fo (kids.drop i)<=n/\cQ n (kids.drop i) p stc=tgt) (λi=>kn-i) (0) ⟨Nat.zero_le _,vs,⟨false,dn n,dn n⟩,_,_,_,_,_,_,st,R5,LB5,k9,hnb5,hnb5,nC n false,hok,hroom,htgt⟩ ?_;rintro i g ⟨hi,vs',p,fa,fn,fc,la,ln,lc,stc,R,LB,k9,hf,hl,hpok,hcok,hcroom,hcon⟩ ih2;have hvb:=hr.wP;have hL5s:Array.size h3<Array.size h5:=(hL5 _ hL9').2;refine af ?_;refine xp rfl (aA rfl (LB.k4.cell (i:=5) rfl)) ?_;refine af ?_;refine aN (λhlt=>?_) (λhlt=>?_)
       · have hik:i<kids.length:=by omega
         obtain⟨x,hx⟩:∃x,kids[i]? =some x:=⟨_,List.getElem?_eq_getElem hik⟩
         have hdr:kids.drop i=x::kids.drop (i+1):=by
          obtain⟨hi',rfl⟩:=List.getElem?_eq_some_iff.1 hx;exact List.drop_eq_getElem_cons hi'
         rw[hdr,cQ] at hcon;rw[hdr] at hcroom;simp only[fo] at hcroom;have hszx:=vO hx;have hwx:=rU hwl hx;have hokx:=iT n x stc hcok;have hroomx:=hokx.2.2.2 hwx;obtain⟨b,o,cs,ha,hob,hrow,hnd⟩:=(hsl.mv R.old).get i x hx;obtain⟨w2,rfl,-⟩:=aI.open hnd;have hgz:=R.size;refine af ?_;refine xp rfl (aA rfl (LB.k4.cell (i:=5) rfl)) ?_;refine aR ?_;refine xp rfl (bZ rfl rfl i rfl ha) ?_;refine xp rfl (cj rfl hrow) ?_;refine af ?_;refine xo rfl (aE rfl (ih (x:=x) (O:=Eu O L5) (by omega) R.at_ (λb hb=>R.Kw b (.inr hb)) hnd hwx hcok (by omega) hn)) ?_;rintro _ g1 ⟨vs1,f1,l1,rfl,a1,hf1,hl1,e1x,ho1⟩;refine xo rfl (cL) ?_;rintro _ g2 ⟨rfl,k11,e2x,z2x⟩;generalize dG n x stc=out at *;have hf1':∃oa n c,f1= .slice oa n c:=by obtain⟨oa,n,c,rfl,_⟩:=hf1;exact⟨_,_,_,rfl⟩
         obtain⟨f1a,f1n,f1c,rfl⟩:=hf1';have hl1':∃oa n c,l1= .slice oa n c:=by obtain⟨oa,n,c,rfl,_⟩:=hl1;exact⟨_,_,_,rfl⟩
         obtain⟨l1a,l1n,l1c,rfl⟩:=hl1';have R1:=R.sub a1 e1x ho1;have z1x:=e1x.size;have LB1:=LB.ext e1x (R.loc _ hL4') (R.loc _ hL6');have k9:=k9.ext e1x (R.loc _ hL9');have hf:=hf.mv (R.Is e1x ho1);have hl:=hl.mv (R.Is e1x ho1);refine aO rfl (aZ rfl rfl k11) ?_;rintro _ g3 ⟨rfl,k11,x3,z3x⟩;have k11:aC g3 g1.size 214 [.bool out.1.null,.slice f1a f1n f1c,.slice l1a l1n l1c]:=k11;have e13:aj g1 g3:=aj.only e2x x3 (Nat.le_refl _);have R3':=R1.ah e13;have LB3:=LB1.ah e13;have k9:=k9.ah e13;have hf:=hf.mv (Mv.ah e13);have hl:=hl.mv (Mv.ah e13);have hf1:aL .bool g3 (oN O rb vs1 vb L5) _ out.1.first:=aL.mv hf1 (Mv.ah e13)
         have hl1:aL .bool g3 (oN O rb vs1 vb L5) _ out.1.last:=aL.mv hl1 (Mv.ah e13);have hcpok:=nW hpok hokx.1;have hg1n:¬g1.size=h3.size:=by omega
         have wmask:∀{ga gb:aq}{w:Value}{xs:List Bool},ql O rb vs vb vl h L5 h5.size ga vs1 out.2->bN Value.bool gb ga.size 4 w xs->aL .bool gb (oN O rb vs1 vb L5) w xs:=λR ho=>bN.read (h1:=λ_=>rfl) ho (λb hb k=>by have:=R.Kw b k;omega)
         have hgl:∀{ga gb:aq},aj ga gb->Ext (λb=>g3.size<=b) ga gb:=λe=>e.mono (λ_ _ k=>k.elim)
         have lf:p.first.length<=out.1.first.length:=by rw[hpok.first,hokx.1.first];exact Nat.le_refl _
         have ll:p.last.length<=out.1.last.length:=by rw[hpok.last,hokx.1.last];exact Nat.le_refl _
         have lfn:p.first.length<=1000000:=by rw[hpok.first];exact hn
         have lln:p.last.length<=1000000:=by rw[hpok.last];exact hn
         refine af ?_;refine Gn 18 17 ?_;refine aF 0 ?_;refine bq 1 rfl (λh' e=>aA rfl (e.old (k9.cell (i:=0) rfl))) ?_;refine aF 2 ?_;refine aF 6 ?_;refine Qx 122 (λhg=>?_) (λhg=>?_)
         · refine ox 3 ?_;refine ox 4 ?_;refine aF 5 ?_;refine bq 7 rfl (λh' e=>aA rfl (e.old (k9.cell (i:=1) rfl))) ?_;refine aF 8 ?_;refine bq 9 rfl (λh' e=>aA rfl (e.old (k11.cell (i:=1) rfl))) ?_;refine aF 11 ?_;refine bq 12 rfl (λh' e=>aA rfl (e.old (k9.cell (i:=2) rfl))) ?_;refine aF 13 ?_;refine bq 14 rfl (λh' e=>aA rfl (e.old (k11.cell (i:=2) rfl))) ?_;refine cV 10 rfl (aE rfl (jj hf hf1 lf lfn)) ?_;rintro w5 g5 ⟨ho5,e5x⟩;refine⟨λ_=>hgl e5x,?_⟩;refine cV 15 rfl (aE rfl (jj (hl.mv (Mv.ah e5x)) (hl1.mv (Mv.ah e5x)) ll lln)) ?_;rintro w6 g6 ⟨ho6,e6x⟩;refine⟨λ_=>hgl e6x,?_⟩;obtain⟨wa,wc,rfl,_⟩:=(show aB g5 g3.size 4 1 w5 (jr p.first out.1.first).length ((jr p.first out.1.first).map Value.bool) from ho5).open;obtain⟨ua,uc,rfl,_⟩:=(show aB g6 g5.size 4 1 w6 (jr p.last out.1.last).length ((jr p.last out.1.last).map Value.bool) from ho6).open;have R5x:=R3'.ah e5x;have R6x:=R5x.ah e6x;have hf2:=(wmask R3' ho5).mv (Mv.ah e6x);have hl2:=wmask R5x ho6;have e36x:=e5x.trans e6x;refine bq 16 rfl (λh' e=>av (H.ew _ _ _ _ _ _ _) rfl) ?_;refine gU 17 rfl (aZ rfl rfl ((k9.ah e36x))) ?_;rintro _ g7 ⟨rfl,k9',x7,z7⟩;refine⟨nofun,?_⟩;have k9':aC g7 h3.size 214 [.bool true,.slice wa (jr p.first out.1.first).length wc,.slice ua (jr p.last out.1.last).length uc]:=k9';refine fV ?_;refine af ?_;exact ih2 (i+1) ⟨by omega,vs1,iy p out.1,_,_,_,_,_,_,_,R6x.put x7 hL9',(LB3.ah e36x).ext x7 (by show ¬_=_;omega) (by show ¬_=_;omega),by simp only[iy,hg,Bool.true_or];exact k9',hf2.mv (R6x.iE x7 hL9'),hl2.mv (R6x.iE x7 hL9'),hcpok,hokx.2.1,by omega,hcon⟩
         · refine aF 3 ?_;refine bq 4 rfl (λh' e=>aA rfl (e.old (k11.cell (i:=0) rfl))) ?_;refine aF 5 ?_;refine bq 7 rfl (λh' e=>aA rfl (e.old (k9.cell (i:=1) rfl))) ?_;refine aF 8 ?_;refine bq 9 rfl (λh' e=>aA rfl (e.old (k11.cell (i:=1) rfl))) ?_;refine aF 11 ?_;refine bq 12 rfl (λh' e=>aA rfl (e.old (k9.cell (i:=2) rfl))) ?_;refine aF 13 ?_;refine bq 14 rfl (λh' e=>aA rfl (e.old (k11.cell (i:=2) rfl))) ?_;refine cV 10 rfl (aE rfl (jj hf hf1 lf lfn)) ?_;rintro w5 g5 ⟨ho5,e5x⟩;refine⟨λ_=>hgl e5x,?_⟩;refine cV 15 rfl (aE rfl (jj (hl.mv (Mv.ah e5x)) (hl1.mv (Mv.ah e5x)) ll lln)) ?_;rintro w6 g6 ⟨ho6,e6x⟩;refine⟨λ_=>hgl e6x,?_⟩;obtain⟨wa,wc,rfl,_⟩:=(show aB g5 g3.size 4 1 w5 (jr p.first out.1.first).length ((jr p.first out.1.first).map Value.bool) from ho5).open;obtain⟨ua,uc,rfl,_⟩:=(show aB g6 g5.size 4 1 w6 (jr p.last out.1.last).length ((jr p.last out.1.last).map Value.bool) from ho6).open;have R5x:=R3'.ah e5x;have R6x:=R5x.ah e6x;have hf2:=(wmask R3' ho5).mv (Mv.ah e6x);have hl2:=wmask R5x ho6;have e36x:=e5x.trans e6x;refine bq 16 rfl (λh' e=>av (H.ew _ _ _ _ _ _ _) rfl) ?_;refine gU 17 rfl (aZ rfl rfl ((k9.ah e36x))) ?_;rintro _ g7 ⟨rfl,k9',x7,z7⟩;refine⟨nofun,?_⟩;have k9':aC g7 h3.size 214 [.bool out.1.null,.slice wa (jr p.first out.1.first).length wc,.slice ua (jr p.last out.1.last).length uc]:=k9';refine fV ?_;refine af ?_;exact ih2 (i+1) ⟨by omega,vs1,iy p out.1,_,_,_,_,_,_,_,R6x.put x7 hL9',(LB3.ah e36x).ext x7 (by show ¬_=_;omega) (by show ¬_=_;omega),by simp only[iy,hg,Bool.false_or];exact k9',hf2.mv (R6x.iE x7 hL9'),hl2.mv (R6x.iE x7 hL9'),hcpok,hokx.2.1,by omega,hcon⟩
       · have hnil:kids.drop i=[]:=List.drop_of_length_le (by omega);rw[hnil,cQ] at hcon;refine af ?_;refine xp rfl (cj rfl k9.row) ?_;refine aO rfl (aZ rfl rfl LB.k6) ?_;rintro _ g9 ⟨rfl,hk9,hx9,hz9⟩;refine af ?_;have hk9:aC g9 h1.size 214 [.bool p.null,.slice fa fn fc,.slice la ln lc]:=hk9;refine cE (cz rfl hk9.row cD) ?_;subst hcon;exact⟨_,rfl,(R.put hx9 hL6').fin (hf.mv (R.iE hx9 hL6')) (hl.mv (R.iE hx9 hL6'))⟩
     · have h3k':¬k=3:=Og h3k;refine af ?_
       have st45:∀(b45:Bool) (h':aq) (ρ':Env),Sub [(0,.pointer (some ⟨rb,0,none⟩)),(2,.int .i64 (n:Nat)),(4,.pointer (some ⟨h.size,0,none⟩)),(6,.pointer (some ⟨h1.size,0,none⟩)),(7,.slice (some ⟨h2.size,0,none⟩) n n),(20,.int .i64 (k:Nat)),(138,.bool b45)] ρ'->h'=h3->b45=decide (k=4\/k=5)->G prog 130 f130 [.code [1,1,1,1,1,1,1,0,1,0,1,1],.blk 0,.code [1,1,1]] ρ' h' (bK (D3 O rb h vs vb vl (dG n (.mk k s kids) st))):=by
        rintro b45 h3' ρ' hsub rfl hb45;refine G.sub (ρ':=[(0,.pointer (some ⟨rb,0,none⟩)),(2,.int .i64 (n:Nat)),(4,.pointer (some ⟨h.size,0,none⟩)),(6,.pointer (some ⟨h1.size,0,none⟩)),(7,.slice (some ⟨h2.size,0,none⟩) n n),(20,.int .i64 (k:Nat)),(138,.bool b45)]) hsub ?_;refine jS (λh45=>?_) (λh45=>?_)
        · have hk45:k=4\/k=5:=by rw[h45] at hb45;exact of_decide_eq_true hb45.symm
          have hone:kids.length=1:=by
           rcases hk45 with rfl|rfl<;>(simp[lu] at hw;exact hw.1)
          obtain⟨x,rfl⟩:∃x,kids=[x]:=by match kids,hone with| [x],_=>exact⟨x,rfl⟩
          have hkn1:kn=1:=by simpa using hkn.symm
          have hszx:js x<=eR [x]:=by simp[eR]
          have hcx:cnt x<=fo [x]:=by simp[fo]
          have hwx:lu x=true:=by simpa [ng] using hwl
          have hglu:dG n (.mk k s [x]) st=(⟨(dG n x st).1.null ||k ==4,(dG n x st).1.first,(dG n x st).1.last⟩,((dG n x st).2.1,bO (dG n x st).1.last (dG n x st).1.first (dG n x st).2.2)):=by rw[dG];simp[cJ,h1k',h2k',h3k',hk45]
          rw[hglu];have hokx:=iT n x st hok;obtain⟨b,o,cs,ha,hob,hrow,hnd⟩:=(hsl.mv (Mv.ah e03)).get 0 x rfl;obtain⟨w2,rfl,-⟩:=aI.open hnd;have hO3:∀b,Eu O L2 b->b<h3'.size:=λb hb=>R3.Kw b (.inr hb)
          refine af ?_;refine xp rfl (aA rfl (q4.cell (i:=5) rfl)) ?_;refine xp rfl (bZ rfl rfl 0 rfl ha) ?_;refine xp rfl (cj rfl hrow) ?_;refine af ?_;refine xo rfl (aE rfl (ih (x:=x) (O:=Eu O L2) (by omega) R3.at_ hO3 hnd hwx hok (by omega) hn)) ?_;rintro _ h5 ⟨vs5,f5,l5,rfl,a5,hf5,hl5,e5,ho5⟩;refine xo rfl (cL) ?_;rintro _ h6 ⟨rfl,k15,e6,z6⟩;generalize dG n x st=out at *;have hf1:∃oa n c,f5= .slice oa n c:=by obtain⟨oa,n,c,rfl,_⟩:=hf5;exact⟨_,_,_,rfl⟩
          obtain⟨fa,fn,fc,rfl⟩:=hf1;have hl1:∃oa n c,l5= .slice oa n c:=by obtain⟨oa,n,c,rfl,_⟩:=hl5;exact⟨_,_,_,rfl⟩
          obtain⟨la,ln,lc,rfl⟩:=hl1;have R5:=R3.sub a5 e5 ho5;have z5:=e5.size;have q4:=(q4.ext e5 (R3.loc _ hLn)).ah e6;have q6:=(q6.ext e5 (R3.loc _ hLp)).ah e6;refine aO rfl (aZ rfl rfl k15) ?_;rintro _ h7 ⟨rfl,k15,x7,z7⟩;have k15:aC h7 h5.size 214 [.bool out.1.null,.slice fa fn fc,.slice la ln lc]:=k15;have e57:aj h5 h7:=aj.only e6 x7 (Nat.le_refl _);have q4:=q4.ext x7 (by show ¬_=_;omega);have q6:=q6.ext x7 (by show ¬_=_;omega);have R7:=R5.ah e57;have hf7:aL .bool h7 (oN O rb vs5 vb L2) _ out.1.first:=aL.mv hf5 (Mv.ah e57)
          have hl7:aL .bool h7 (oN O rb vs5 vb L2) _ out.1.last:=aL.mv hl5 (Mv.ah e57);refine af ?_;refine xp rfl (aA rfl (k15.cell (i:=2) rfl)) ?_;refine af ?_;refine xp rfl (aA rfl (k15.cell (i:=1) rfl)) ?_;refine xo rfl (aE rfl (sK R7.at_ (λb hb=>R7.Kw b (.inr hb)) (fq hl7 (λ_ k=>.inl k)) (fq hf7 (λ_ k=>.inl k)) hokx.2.1 hokx.1.last hokx.1.first hn)) ?_;rintro _ h8 ⟨a8,e8⟩;have R8:=R7.QD a8 e8;have hf8:=hf7.mv (R7.Hu e8);have hl8:=hl7.mv (R7.Hu e8);have hvb:=hr.wP;have k15:=k15.ext e8 (λk=>by have:=hvb _ k.symm;omega);have q4:=q4.ext e8 (λk=>by have:=hvb _ k.symm;omega);have q6:=q6.ext e8 (λk=>by have:=hvb _ k.symm;omega);refine af ?_;refine xp rfl (aA rfl (k15.cell (i:=0) rfl)) ?_;refine af ?_;refine cX 156 (λhg=>?_) (λhg=>?_)
          · refine af ?_;refine xp rfl (aA rfl (k15.cell (i:=1) rfl)) ?_;refine af ?_;refine xp rfl (aA rfl (k15.cell (i:=2) rfl)) ?_;refine xp rfl (av (H.ew _ _ _ _ _ _ _) rfl) ?_;refine aO rfl (aZ rfl rfl q6) ?_;rintro _ h9 ⟨rfl,hk9,hx9,hz9⟩;refine af ?_;have hk9:aC h9 h1.size 214 [.bool true,.slice fa fn fc,.slice la ln lc]:=hk9;refine cE (cz rfl hk9.row cD) ?_;have R9:=R8.put hx9 hLp;have hfin:=R9.fin (p:=⟨out.1.null ||k ==4,out.1.first,out.1.last⟩) (hf8.mv (R8.iE hx9 hLp)) (hl8.mv (R8.iE hx9 hLp));simp only[hg,Bool.true_or] at hfin ⊢;exact⟨_,rfl,hfin⟩
          · refine af ?_;refine xp rfl (aA rfl (q4.cell (i:=0) rfl)) ?_;refine af ?_;refine xp rfl (aA rfl (k15.cell (i:=1) rfl)) ?_;refine af ?_;refine xp rfl (aA rfl (k15.cell (i:=2) rfl)) ?_;refine xp rfl (av (H.ew _ _ _ _ _ _ _) rfl) ?_;refine aO rfl (aZ rfl rfl q6) ?_;rintro _ h9 ⟨rfl,hk9,hx9,hz9⟩;refine af ?_;have hk9:aC h9 h1.size 214 [.bool (decide ((k:Int)=4)),.slice fa fn fc,.slice la ln lc]:=hk9;refine cE (cz rfl hk9.row cD) ?_;have R9:=R8.put hx9 hLp;have hfin:=R9.fin (p:=⟨out.1.null ||k ==4,out.1.first,out.1.last⟩) (hf8.mv (R8.iE hx9 hLp)) (hl8.mv (R8.iE hx9 hLp));have hkd:(k ==4)=decide ((k:Int)=4):=by rcases hk45 with rfl|rfl<;>rfl
            simp only[hg,Bool.false_or,hkd] at hfin ⊢;exact⟨_,rfl,hfin⟩
        · have hk45:¬(k=4\/k=5):=by rw[h45] at hb45;exact of_decide_eq_false hb45.symm
          refine af ?_;refine aN (λh6k=>?_) (λh6k=>?_)
          · obtain rfl:k=6:=by omega
            have hone:kids.length=1:=by simp[lu] at hw;exact hw.1
            obtain⟨x,rfl⟩:∃x,kids=[x]:=by match kids,hone with| [x],_=>exact⟨x,rfl⟩
            have hkn1:kn=1:=by simpa using hkn.symm
            have hszx:js x<=eR [x]:=by simp[eR]
            have hcx:cnt x<=fo [x]:=by simp[fo]
            have hwx:lu x=true:=by simpa [ng] using hwl
            have hglu:dG n (.mk 6 s [x]) st=(⟨true,(dG n x st).1.first,(dG n x st).1.last⟩,(dG n x st).2):=by rw[dG];simp[cJ]
            rw[hglu];have hokx:=iT n x st hok;obtain⟨b,o,cs,ha,hob,hrow,hnd⟩:=(hsl.mv (Mv.ah e03)).get 0 x rfl;obtain⟨w2,rfl,-⟩:=aI.open hnd;have hO3:∀b,Eu O L2 b->b<h3'.size:=λb hb=>R3.Kw b (.inr hb)
            refine af ?_;refine xp rfl (aA rfl (q4.cell (i:=5) rfl)) ?_;refine xp rfl (bZ rfl rfl 0 rfl ha) ?_;refine xp rfl (cj rfl hrow) ?_;refine af ?_;refine xo rfl (aE rfl (ih (x:=x) (O:=Eu O L2) (by omega) R3.at_ hO3 hnd hwx hok (by omega) hn)) ?_;rintro _ h5 ⟨vs5,f5,l5,rfl,a5,hf5,hl5,e5,ho5⟩;refine xo rfl (cL) ?_;rintro _ h6 ⟨rfl,k15,e6,z6⟩;generalize dG n x st=out at *;have hf1:∃oa n c,f5= .slice oa n c:=by obtain⟨oa,n,c,rfl,_⟩:=hf5;exact⟨_,_,_,rfl⟩
            obtain⟨fa,fn,fc,rfl⟩:=hf1;have hl1:∃oa n c,l5= .slice oa n c:=by obtain⟨oa,n,c,rfl,_⟩:=hl5;exact⟨_,_,_,rfl⟩
            obtain⟨la,ln,lc,rfl⟩:=hl1;have R5:=R3.sub a5 e5 ho5;have z5:=e5.size;have q6:=(q6.ext e5 (R3.loc _ hLp)).ah e6;refine aO rfl (aZ rfl rfl k15) ?_;rintro _ h7 ⟨rfl,k15,x7,z7⟩;have k15:aC h7 h5.size 214 [.bool out.1.null,.slice fa fn fc,.slice la ln lc]:=k15;have e57:aj h5 h7:=aj.only e6 x7 (Nat.le_refl _);have q6:=q6.ext x7 (by show ¬_=_;omega);have R7:=R5.ah e57;have hf7:aL .bool h7 (oN O rb vs5 vb L2) _ out.1.first:=aL.mv hf5 (Mv.ah e57)
            have hl7:aL .bool h7 (oN O rb vs5 vb L2) _ out.1.last:=aL.mv hl5 (Mv.ah e57);refine af ?_;refine xp rfl (aA rfl (k15.cell (i:=1) rfl)) ?_;refine af ?_;refine xp rfl (aA rfl (k15.cell (i:=2) rfl)) ?_;refine xp rfl (av (H.ew _ _ _ _ _ _ _) rfl) ?_;refine aO rfl (aZ rfl rfl q6) ?_;rintro _ h9 ⟨rfl,hk9,hx9,hz9⟩;refine af ?_;have hk9:aC h9 h1.size 214 [.bool true,.slice fa fn fc,.slice la ln lc]:=hk9;refine cE (cz rfl hk9.row cD) ?_;have R9:=R7.put hx9 hLp;exact⟨_,rfl,R9.fin (p:=⟨true,out.1.first,out.1.last⟩) (hf7.mv (R7.iE hx9 hLp)) (hl7.mv (R7.iE hx9 hLp))⟩
          · have h6k':¬k=6:=Og h6k;have hglu:dG n (.mk k s kids) st=(⟨true,dn n,dn n⟩,st):=by rw[dG];simp[h1k',h2k',h3k',hk45,h6k']
            rw[hglu];refine af ?_;refine xp rfl (av (H.ew _ _ _ _ _ _ _) rfl) ?_;refine aO rfl (aZ rfl rfl q6) ?_;rintro _ h9 ⟨rfl,hk9,hx9,hz9⟩;refine af ?_;have hk9:aC h9 h1.size 214 [.bool true,.slice (some ⟨h2.size,0,none⟩) n n,.slice (some ⟨h2.size,0,none⟩) n n]:=hk9;refine cE (cz rfl hk9.row cD) ?_;have R9:=R3.put hx9 hLp
            have hnb:aL .bool h3' (oN O rb vs vb L2) (.slice (some ⟨h2.size,0,none⟩) n n) (dn n):=bN.read (h1:=λ_=>rfl) q7 (λb hb k=>by
             rcases k with k|k|k
             · have:=hltM b k;omega
             · have:=hO b k;omega
             · rw[<-hLe] at k;rcases k with k|k<;>omega)
            exact⟨_,rfl,R9.fin (p:=⟨true,dn n,dn n⟩) (hnb.mv (R3.iE hx9 hLp)) (hnb.mv (R3.iE hx9 hLp))⟩
       refine aN (λh4k=>?_) (λh4k=>?_)
       · have h4k':k=4:=by omega
         refine aQ ?_;exact st45 (decide ((k:Int)=4)) _ _ (by exact sb rfl) rfl (by simp[h4k'])
       · have h4k':¬k=4:=Og h4k;refine cI ?_
         iterate 2 refine aR ?_
         refine cO ?_;exact st45 (decide ((k:Int)=5)) _ _ (by exact sb rfl) rfl (by simp only[decide_eq_decide];omega)
theorem K0:∀m,Fp m:=by
 intro m
 induction m with
 |zero=>intro x h O rb vs vb vl w st n hsz;have:=jM x;omega
 |succ m I=>exact He I
def Qc:gW Nat:=.record 4 (by decide) cn (λ_=>rfl) (λx v hv=>by simp[cn] at hv;rcases hv with rfl|rfl|rfl|rfl<;>rfl)
def DZ (h:aq) (O:Nat->Prop) (rb:Nat) (r:qL):Prop :=
 ∃vs vb vl,¬O rb/\aC h rb 212 [vs,vb,vl]/\aL Qc h O vs r.sets/\aL Hz h O vb r.behind/\aL .bool h O vl r.last
theorem DZ.mv {h h':aq}{O O':Nat->Prop}{rb:Nat}{r:qL}(k:DZ h O rb r) (m:Mv O O' h h'):DZ h' O' rb r:=by
 obtain⟨vs,vb,vl,I,hk,h1,U,J⟩:=k;have hm:=m.block rb hk.lt I;exact⟨vs,vb,vl,hm.2,hm.1.trans hk,h1.mv m,U.mv m,J.mv m⟩
theorem I8 {x:Nd}{w:Value}(hx:aI h O (bP x.kind x.set w) x) (hw:lu x=true) (hsz:js x<=500000) :
 au prog 100 #[.agg (bP x.kind x.set w).toArray] h (bK λr h'=>∃rb,r= .pointer (some ⟨rb,0,none⟩)/\DZ h' (λb=>b<h.size) rb (gG x)/\aj h h'):=by
 have hcs:=E1 x;have hx:=hx.mv (O':=λb=>O b\/h.size<=b) ⟨Nat.le_refl _,λb hb hn=>⟨rfl,λk=>k.elim hn (λk=>by omega)⟩⟩;refine bJ ?_;refine af ?_;refine xo rfl (mh) ?_;rintro _ h1 ⟨rfl,k1,e1,z1⟩;have k1:aC h1 h.size 182 (bP x.kind x.set w):=k1;refine af ?_;refine xp rfl (cj rfl k1.row) ?_;refine xo rfl (aE rfl (JU _ (x:=x) (Nat.le_refl _) (by omega) (hx.ah e1))) ?_;rintro _ h2 ⟨rfl,e2⟩;refine af ?_;refine xp rfl (av (H.E8 ) rfl) ?_;refine xo rfl (lg) ?_;rintro _ _ ⟨rfl,rfl⟩;refine xp rfl (av (H.Lg _ _ _) rfl) ?_;refine xo rfl (mh) ?_;rintro _ h4 ⟨rfl,k4,e4,z4⟩;have q3:fG 4 cn (h2.push (.cells #[.int .u64 0,.int .u64 0,.int .u64 0,.int .u64 0] 102)) 0 102 (.slice (some ⟨h2.size,0,none⟩) 1 1) [0]:=fG.kC (λ_=>rfl) h2 0 102 0 (Nat.zero_le _) (cs:=[.int .u64 0,.int .u64 0,.int .u64 0,.int .u64 0]) (by simp[cn,JN]);have e3:aj h2 (h2.push (.cells #[.int .u64 0,.int .u64 0,.int .u64 0,.int .u64 0] 102)):=Ext.push _ _ _;have z3:(h2.push (.cells #[.int .u64 0,.int .u64 0,.int .u64 0,.int .u64 0] 102)).size=h2.size+1:=by simp
 generalize h2.push (.cells #[.int .u64 0,.int .u64 0,.int .u64 0,.int .u64 0] 102)=h3 at *;have k4:aC h4 h3.size 212 [.slice (some ⟨h2.size,0,none⟩) 1 1,.slice none 0 0,.slice none 0 0]:=k4;have hz2:=e2.size;have e04:aj h h4:=((e1.trans e2).trans e3).trans e4
 have a4:jB h4 (λb=>b<h.size) h3.size (.slice (some ⟨h2.size,0,none⟩) 1 1) (.slice none 0 0) (.slice none 0 0) ([0],[]) :=
  ⟨k4,fG.ah q3 e4,cH.nil _ _ _ _ _,λb _ hb=>(by cases hb),λhb=>(by simp[Value.ownBlock] at hb;omega),λhb=>(by cases hb)⟩
 have k1:=((k1.ah e2).ah e3).ah e4;have hn:cnt x+1<=1000000:=by omega
 generalize hnn:cnt x+1=n at *;have hnn':((cnt x:Nat):Int)+1=(n:Nat):=by omega
 rw[hnn'];refine af ?_;refine fK (σ:=Nat×Option Addr×Nat) (λq=>[(5,.int .i64 (q.1:Nat))]) (λq h'=>q.1<=n/\jB h' (λb=>b<h.size) h3.size (.slice (some ⟨h2.size,0,none⟩) 1 1) (.slice q.2.1 q.1 q.2.2) (.slice none 0 0) ([0],List.replicate q.1 (dn n))/\aj h h'/\aC h' h.size 182 (bP x.kind x.set w)/\h4.size<=h'.size/\(∀b,(Value.slice q.2.1 q.1 q.2.2).ownBlock=some b->h4.size<=b)) (λq=>n-q.1) ((0,none,0)) ⟨Nat.zero_le _,a4,e04,k1,Nat.le_refl _,λb hb=>(by cases hb)⟩ rfl ?_;rintro⟨i,ba,bc⟩ g ⟨hi,ag,eg,kg,hgz,hvn⟩ ih
 try dsimp only
 dsimp only at hi ag hvn;have hown:=ag.wP;refine af ?_;refine aN (λhlt=>?_) (λhlt=>?_)
 · have hin:i<n:=by omega
   obtain⟨css,hc1,hc2,hc3⟩:=id ag.rows;simp only[List.length_replicate] at hc1 hc2
   have hrM1:¬(bU (Value.slice ba i bc).ownBlock h3.size\/Array.size g<=h3.size):=by
    rintro(k|k)
    · exact(hown _ k.symm).1 rfl
    · have:=ag.blk.lt;omega
   have hlto:∀b,(bU (Value.slice ba i bc).ownBlock b\/b=h3.size\/bU (Value.slice (some ⟨h2.size,0,none⟩) 1 1).ownBlock b\/b<h.size)->b<g.size:=by
    rintro b (k|k|k|k)
    · exact(hown b k.symm).2
    · have:=ag.blk.lt;omega
    · exact(ag.zu b k.symm).2
    · have:=eg.size;omega
   refine af ?_;refine jK 12 (λb=>bU (Value.slice ba i bc).ownBlock b\/Array.size g<=b) (λi=>Nat.blt i 11) ?_;refine aF 0 ?_;refine aF 1 ?_;refine aF 2 ?_;refine aF 3 ?_;refine bq 4 rfl (λh' e=>aA rfl (e.cell hrM1 (ag.blk.cell (i:=1) rfl))) ?_;refine aF 5 ?_;refine cV 6 rfl (aV.gk underlying130 H.K7 H.LH rfl rfl rfl (by omega) (by decide)) ?_;rintro _ g5 ⟨rfl,k5,e5⟩;refine⟨λ_=>e5.mono (λ_ _ k=>k.elim),?_⟩;have k5:bN Value.bool g5 g.size 4 (.slice (some ⟨g.size,0,none⟩) n n) (dn n):=by unfold bN dn;simpa using k5
   have z5:=e5.size;have hc2':aB g5 0 130 1 (.slice ba i bc) i css.flatten:=aB.gR hc2 e5;refine cV 7 rfl (iD [_]) ?_;rintro _ _ ⟨rfl,rfl⟩;refine⟨λ_=>by first|exact Ext.push _ _ _|assumption,?_⟩;refine cV 8 rfl (vL rfl rfl hc2' rfl rfl) ?_;rintro v2 g6 ⟨ho6,hx6,hx6',hv6⟩;refine⟨λ_=>hx6'.mono (λ_ _ k=>.inl k),?_⟩;obtain⟨oa2,c2,rfl,_⟩:=ho6.open
   have hrow6:cH Hz (λb=>b=h3.size\/bU (Value.slice (some ⟨h2.size,0,none⟩) 1 1).ownBlock b\/b<h.size) g6 0 130 (.slice oa2 (i+1) c2) (List.replicate i (dn n)++[dn n]) :=
    cH.eC (e:=Hz) (h:=g5) (v:=.slice ba i bc) (css:=css) (cs:=[.slice (some ⟨g.size,0,none⟩) n n]) (by simpa using hc1) (λj cs y a b=>Hz.mv (hc3 j cs y a b) (Mv.ah e5)) (by rw[List.length_replicate];exact ho6) hx6 hv6
     ⟨_,rfl,bN.read (h1:=λ_=>rfl) k5 (λb hb k=>by have:=hlto b k;omega)⟩
   rw[<-List.replicate_succ'] at hrow6;have z6:=hx6.size;refine H8 9 ?_;refine aF 10 ?_;refine gU 11 rfl (iG rfl rfl (((ag.blk.ah e5).ext hx6 (λk=>(hown _ k.symm).1 rfl)))) ?_;rintro _ g7 ⟨rfl,k7,x7,z7⟩;refine⟨nofun,?_⟩;have k7:aC g7 h3.size 212 [.slice (some ⟨h2.size,0,none⟩) 1 1,.slice oa2 (i+1) c2,.slice none 0 0]:=k7
   have a7:jB g7 (λb=>b<h.size) h3.size (.slice (some ⟨h2.size,0,none⟩) 1 1) (.slice oa2 (i+1) c2) (.slice none 0 0) ([0],List.replicate (i+1) (dn n)) :=
    ⟨k7,aB.ext x7 (aB.ext hx6 (aB.gR ag.sets e5) (λb hb k=>ag.apart b hb k.symm)) (λb hb (e:b=h3.size)=>(ag.zu b hb).1 e),hrow6.kU x7 (λb hb (e:b=h3.size)=>by
     rcases hv6 b hb with k|k
     · exact(hown b k).1 e
     · omega) (λb _ k=>.inl k) (λb _ k=>k),λb hb hb2=>by
     have hbs:=(ag.zu b hb).2
     rcases hv6 b hb2 with k|k
     · exact ag.apart b hb k
     · omega,ag.ns,λhb=>by
     have:=ag.blk.lt
     rcases hv6 _ hb with k|k
     · exact(hown _ k).1 rfl
     · omega⟩
   have e07:aj h g7:=⟨by have:=eg.size;omega,λb hb k=>by
    rw[x7.block b (by have:=eg.size;omega) (by show ¬_=_;omega),hx6.block b (by have:=eg.size;omega) (λk2=>by have:=hvn b k2.symm;omega),e5.block b (by have:=eg.size;omega) (λk=>k)];exact eg.block b hb k⟩
   refine fV ?_;refine af ?_
   exact ih (i+1,oa2,c2) ⟨hin,a7,e07,((kg.ah e5).ext hx6 (λk2=>by have:=hvn _ k2.symm;omega)).ext x7 (by show ¬_=_;omega),by omega,λb hb=>by
    rcases hv6 b hb with k|k
    · exact hvn b k
    · omega⟩ (by show n-(i+1)<n-i;omega)
 · obtain rfl:i=n:=by omega
   have hruok:kX i ([0],List.replicate i (dn i)):=⟨by simp,λb hb=>by rw[(List.mem_replicate.1 hb).2];exact dy _⟩
   have hvs:∀b,(Value.slice (some ⟨h2.size,0,none⟩) 1 1).ownBlock=some b->b=h2.size:=λb hb=>by simp[Value.ownBlock] at hb;omega
   have hnd:aI g (yW h3.size (.slice (some ⟨h2.size,0,none⟩) 1 1) (.slice ba i bc)) (bP x.kind x.set w) x:=hx.mv ⟨eg.size,λb hb hn=>⟨eg.block b hb (λk=>k),by
    rintro(k|k|k)
    · omega
    · have:=hvs b k.symm;omega
    · have:=hvn b k.symm;omega⟩⟩
   refine af ?_;refine xp rfl (cj rfl kg.row) ?_;refine af ?_;refine xo rfl (aE rfl (K0 (js x) (x:=x) (st:=([0],List.replicate i (dn i))) (n:=i) (Nat.le_refl _) ag (λb k=>by have:=eg.size;omega) hnd hw hruok (by show 1+cnt x<=i;omega) hn)) ?_;rintro _ g8 ⟨vs8,f8,l8,rfl,a8,hf8,hl8,e8,ho8⟩;refine xo rfl (cL) ?_;rintro _ g9 ⟨rfl,k6,e9,z9⟩;have hglu:=iT i x ([0],List.replicate i (dn i)) hruok;have hofe:gG x=⟨(dG i x ([0],List.replicate i (dn i))).2.1,(dG i x ([0],List.replicate i (dn i))).2.2.set 0 (dG i x ([0],List.replicate i (dn i))).1.first,(dG i x ([0],List.replicate i (dn i))).1.last.set 0 (dG i x ([0],List.replicate i (dn i))).1.null⟩:=by subst hnn;rfl
   rw[hofe];generalize dG i x ([0],List.replicate i (dn i))=out at *;obtain⟨fa,fn,fc,rfl⟩:∃oa n c,f8= .slice oa n c:=by obtain⟨oa,n,c,rfl,_⟩:=hf8;exact⟨_,_,_,rfl⟩
   obtain⟨la,ln,lc,rfl⟩:∃oa n c,l8= .slice oa n c:=by obtain⟨oa,n,c,rfl,_⟩:=hl8;exact⟨_,_,_,rfl⟩
   refine aO rfl (aZ rfl rfl k6) ?_;rintro _ g10 ⟨rfl,k6,x10,z10⟩;have k6:aC g10 g8.size 214 [.bool out.1.null,.slice fa fn fc,.slice la ln lc]:=k6;have e810:aj g8 g10:=aj.only e9 x10 (Nat.le_refl _);have a10:=a8.ah (O':=λb=>b<h.size) e810 (λ_ _ k=>k);have hf10:=aL.mv hf8 (Mv.ah e810);have hl10:=aL.mv hl8 (Mv.ah e810);obtain⟨row0,hrow0⟩:∃r,out.2.2[0]? =some r:=⟨_,List.getElem?_eq_getElem (by have:=hglu.2.1.rows;omega)⟩
   obtain⟨gb,bc2,cs0,hvb,_,hgb2,hra,hfz,⟨w0,rfl,_⟩,hput⟩:=a10.rows.put hrow0;have hlen2:out.2.2.length=i:=hglu.2.1.rows;rw[hlen2] at hvb;cases hvb;have z8:=e8.size;have z810:=e810.size;have hgz8:h4.size<=g8.size:=by omega
   have hvn':h4.size<=gb:=hvn gb rfl;refine af ?_;refine Gn 8 7 ?_;refine aF 0 ?_;refine aF 1 ?_;refine aF 2 ?_;refine bq 3 rfl (λh' e=>aA rfl (e.old (a10.blk.cell (i:=1) rfl))) ?_;refine aF 4 ?_;refine bq 5 rfl (λh' e=>aA rfl (e.old (k6.cell (i:=1) rfl))) ?_;refine bq 6 rfl (λh' e=>bZ rfl rfl 0 rfl rfl) ?_;refine gU 7 rfl (bf H.zK rfl rfl rfl (hra 0 _ rfl) (hfz _)) ?_;rintro _ g11 ⟨rfl,hg11⟩;refine⟨nofun,?_⟩
   have hput:=hput 0 (.slice fa fn fc) out.1.first (by decide) ⟨_,rfl,fq hf10 (λb k=>by
    rcases k with k|k|k|k
    · exact .inl (.inr (.inr k))
    · exact .inl (.inl k)
    · exact .inl (.inr (.inl k))
    · exact .inr k)⟩
   have hput:cH Hz (λb=>b=h3.size\/bU vs8.ownBlock b\/b<h.size) g11 0 130 (.slice (some ⟨gb,0,none⟩) i bc) (out.2.2.set 0 out.1.first):=by rw[hg11];exact hput
   have x11:Ext (λb=>b=gb) g10 g11:=by rw[hg11];exact Ext.dx _ _ _ rfl
   have hgs:vs8.ownBlock≠some gb:=λe=>a10.apart gb e rfl
   have hgr:gb≠h3.size:=λe=>a10.nb (by subst e;rfl)
   have a11:jB g11 (λb=>b<h.size) h3.size vs8 (.slice (some ⟨gb,0,none⟩) i bc) (.slice none 0 0) (out.2.1,out.2.2.set 0 out.1.first) :=
    ⟨a10.blk.ext x11 (by show ¬_=_;omega),aB.ext x11 a10.sets (λb hb e=>hgs (by subst e;exact hb)),hput,a10.apart,a10.ns,a10.nb⟩
   have z11:=x11.size;have hn6:¬g8.size=gb:=by have:=(a8.wP gb rfl).2;omega
   have k6:=k6.ext x11 hn6;have hl11:=fq (Q':=λb=>b=gb) hl10 (λb k=>.inl (.inr (.inr (by subst k;rfl))));have hl11:=hl11.mv (Mv.bY x11 (O':=λb=>b=gb) (λb _ k=>⟨k,k⟩));obtain⟨hll,hlrow,hlm⟩:=aL.row hl11;have hllen:=hglu.1.last;have hone:∀u∈out.1.last.map Value.bool,u.oneCell'=true:=λu hu=>by simp at hu;rcases hu with ⟨_,rfl⟩|⟨_,rfl⟩<;>rfl
   refine fV ?_;refine af ?_;refine xp rfl (aA rfl (k6.cell (i:=2) rfl)) ?_;refine xo rfl (aV.append underlying130 H.K7 rfl rfl (aB.nil g11 g11.size 4 1) (by simp[hll]) hlrow hone (by simp only[maxLen];omega) (by omega) (by omega)) ?_;rintro wl g12 ⟨ho12,hx12,-,hv12⟩;have ho12':aB g12 g11.size 4 1 wl ln (out.1.last.map Value.bool):=by simpa using ho12
   have e12:aj g11 g12:=sL hx12;obtain⟨oal,cl,rfl,_⟩:=ho12'.open;have z12:=e12.size;refine af ?_;refine aO rfl (iG rfl rfl ((a11.blk.ah e12))) ?_;rintro _ g13 ⟨rfl,k13,x13,z13⟩;have k13:aC g13 h3.size 212 [vs8,.slice (some ⟨gb,0,none⟩) i bc,.slice oal ln cl]:=k13;have hr11:=a11.blk.lt
   have hol:bN Value.bool g13 g11.size 4 (.slice oal ln cl) out.1.last:=by
    unfold bN;rw[hll];exact aB.ext x13 ho12' (λb hb (e:b=h3.size)=>by have:=(aB.lt ho12' hb).1;omega)
   obtain⟨l0,hl0⟩:∃y,out.1.last[0]? =some y:=⟨_,List.getElem?_eq_getElem (by omega)⟩
   obtain⟨gl,cl',hvl,hgl1,hgl2,hlc,hlf,hlset⟩:=hol.at hl0;rw[hll] at hvl;cases hvl;have hlset:=hlset out.1.null;have hn63:¬g8.size=h3.size:=by have:=a8.blk.lt;omega
   have k6:=(k6.ah e12).ext x13 hn63;refine af ?_;refine Gn 8 7 ?_;refine aF 0 ?_;refine aF 1 ?_;refine aF 2 ?_;refine bq 3 rfl (λh' e=>aA rfl (e.old (k13.cell (i:=2) rfl))) ?_;refine aF 4 ?_;refine bq 5 rfl (λh' e=>aA rfl (e.old (k6.cell (i:=0) rfl))) ?_;refine bq 6 rfl (λh' e=>bZ rfl rfl 0 rfl rfl) ?_;refine gU 7 rfl (bf H.Cv rfl rfl rfl hlc hlf) ?_;rintro _ g14 ⟨rfl,hg14⟩;refine⟨nofun,?_⟩;rw[<-hg14] at hlset;have x14:Ext (λb=>b=gl) g13 g14:=by rw[hg14];exact Ext.dx _ _ _ rfl
   refine fV ?_;refine af ?_;refine aP ?_
   have hlt11:∀b,yW h3.size vs8 (.slice (some ⟨gb,0,none⟩) i bc) b->b<g11.size:=by
    rintro b (k|k|k)
    · omega
    · exact(a11.zu b k.symm).2
    · exact(a11.wP b k.symm).2
   have e1114:Ext (λb=>b=h3.size) g11 g14:=⟨by have:=x14.size;omega,λb hb hn=>by rw[x14.block b (by omega) (by omega),x13.block b (by omega) hn];exact e12.block b hb (λk=>k)⟩
   have hss:∀b,vs8.ownBlock=some b->h.size<=b:=λb hb=>by
    have:=eg.size
    rcases ho8 b hb with k|k
    · have:=hvs b k;omega
    · omega
   refine⟨_,rfl,h3.size,rfl,⟨vs8,_,_,by omega,k13.ext x14 (by show ¬_=_;omega),?_,?_,?_⟩,?_⟩
   · exact fG.read (yO (aB.ext e1114 a11.sets (λb hb e=>(a11.zu b hb).1 e)) hss) (λb hb k=>by omega)
   · exact(a11.rows.kU e1114 (λb hb (e:b=h3.size)=>(a11.wP b hb).1 e) (λb _ k=>.inl k) (λb _ k=>k)).wO (λb hb k=>by have:=hvn b hb;omega) (λb _ k=>.inr (.inr k))
   · exact bN.read (h1:=λ_=>rfl) hlset (λb hb k=>by omega)
   · have hzg:=eg.size;refine⟨by have:=x14.size;omega,λb hb k=>?_⟩;rw[e1114.block b (by omega) (by omega),x11.block b (by omega) (by omega),e810.block b (by omega) (λk=>k),e8.block b (by omega) ?_]
     · exact eg.block b hb k
     · rintro(k|k|k)
       · omega
       · have:=hvs b k.symm;omega
       · have:=hvn b k.symm;omega
theorem AZ {r:qL}(hr:DZ h O rb r) (hok:lY r n) (hn:n<=1000000) :
 au prog 101 #[.pointer (some ⟨rb,0,none⟩)] h (bK λv h'=>bN Value.bool h' h.size 4 v (qS r)/\aj h h'):=by
 obtain⟨vs,vb,vl,ho,hk,h1,h2,h3⟩:=hr;obtain⟨sa,sn,sc,rfl,hs1,_⟩:=h1;have hsl:=hok.sets;have hsp:=hok.pos;refine bJ ?_;refine af ?_;refine xp rfl (aA rfl (hk.cell (i:=0) rfl)) ?_;refine af ?_;refine xo rfl (aV.gk underlying130 H.K7 H.LH rfl rfl rfl (by omega) (by decide)) ?_;rintro _ g1 ⟨rfl,k1,e1⟩;have k1:bN Value.bool g1 h.size 4 (.slice (some ⟨h.size,0,none⟩) sn sn) (dn r.sets.length):=by unfold bN dn;rw[hs1];simpa using k1
 obtain⟨g',c',hv',_,_,hcell,hfz,hset⟩:=k1.at (i:=0) (x:=false) (by unfold dn;rw[List.getElem?_replicate,if_pos (by omega)]);rw[dy,hs1] at hv';cases hv';have hset:=hset true;refine aR ?_;refine cO ?_;refine aQ ?_;refine cI ?_;refine aR ?_;refine xp rfl (bZ rfl rfl 0 rfl rfl) ?_;refine aO rfl (bf H.Cv rfl rfl rfl hcell hfz) ?_;rintro _ g2 ⟨rfl,hg2⟩;rw[<-hg2] at hset;refine af ?_;refine aP ?_;exact⟨_,rfl,hset,aj.only e1 (by rw[hg2];exact Ext.dx _ _ _ rfl:Ext (λb=>b=h.size) g1 g2) (Nat.le_refl _)⟩
theorem Fa (ha:aL .bool h O v a) (hn:a.length<=1000000) :
 au prog 102 #[v] h (bK λr h'=>r= .bool (lW a)/\h'=h):=by
 obtain⟨oa,U,ca,rfl,J⟩:=ha.open;have hna:=J.len;refine bJ ?_;refine af ?_;refine fK (σ:=Nat) (λi=>[(3,.int .i64 (i:Nat))]) (λi h'=>i<=U/\h'=h/\lW (a.drop i)=lW a) (λi=>U-i) (0) ⟨Nat.zero_le _,rfl,rfl⟩ rfl ?_;rintro i g ⟨hi,rfl,I⟩ ih;refine af ?_;refine aN (λZ=>?_) (λZ=>?_)
 · obtain⟨ba,oo,x,Y,_,hx,ab⟩:=J.at (show i<U by omega)
   have hd:a.drop i=x::a.drop (i+1):=by
    obtain⟨aa,rfl⟩:=List.getElem?_eq_some_iff.1 hx;exact List.drop_eq_getElem_cons aa
   rw[hd] at I;simp only[lW,List.any_cons,id] at I
   iterate 4 refine aQ ?_
   refine cI ?_
   iterate 2 refine aR ?_
   refine xp rfl (bZ rfl rfl i rfl Y) (xp rfl (aA rfl ab) ?_);refine af ?_;refine jS (λhb=>?_) (λhb=>?_)
   · subst hb;refine af ?_;refine aP ?_;exact⟨_,rfl,by rw[show lW a=true by rw[lW,<-I];rfl];rfl,rfl⟩
   · subst hb;refine af ?_;exact ih (i+1) ⟨by omega,rfl,by rw[lW,lW,<-I];rfl⟩
 · have hd:a.drop i=[]:=List.drop_of_length_le (by omega);rw[hd] at I;refine af ?_;refine aP ?_;exact⟨_,rfl,by rw[<-I];rfl,rfl⟩
theorem DE {Oa:Nat->Prop}{r:qL}(hr:DZ h O rb r) (hok:lY r n) (ha:aL .bool h Oa v a) (hal:a.length=r.sets.length) (hn:n<=1000000) :
 au prog 103 #[.pointer (some ⟨rb,0,none⟩),v] h (bK λu h'=>u= .bool (jH r a)/\h'=h):=by
 obtain⟨vs,vb,vl,ho,hk,h1,h2,h3⟩:=hr;obtain⟨la,ln,lc,rfl,hsl⟩:=h3.open;obtain⟨oa,na,ca,rfl,hsa⟩:=ha.open;have hna:=hsa.len;have hln:=hsl.len;have hss:=hok.sets;have hll:=hok.last;refine bJ ?_;refine af ?_;refine fK (σ:=Nat) (λi=>[(5,.int .i64 (i:Nat))]) (λi h'=>i<=na/\h'=h/\(List.zipWith (· && ·) (a.drop i) (r.last.drop i)).any id=jH r a) (λi=>na-i) (0) ⟨Nat.zero_le _,rfl,rfl⟩ rfl ?_;rintro i g ⟨hi,rfl,hcon⟩ ih;refine af ?_;refine aN (λhlt=>?_) (λhlt=>?_)
 · obtain⟨ba,oo,x,hoa,_,hx,hcx⟩:=hsa.at (show i<na by omega);obtain⟨bl,ol,y,hol,_,hy,hcy⟩:=hsl.at (show i<ln by omega)
   have hd:a.drop i=x::a.drop (i+1):=by
    obtain⟨hi',rfl⟩:=List.getElem?_eq_some_iff.1 hx;exact List.drop_eq_getElem_cons hi'
   have hd2:r.last.drop i=y::r.last.drop (i+1):=by
    obtain⟨hi',rfl⟩:=List.getElem?_eq_some_iff.1 hy;exact List.drop_eq_getElem_cons hi'
   rw[hd,hd2] at hcon;simp only[List.zipWith_cons_cons,List.any_cons,id] at hcon
   iterate 4 refine aQ ?_
   refine dU [(24,.bool (x && y))] rfl ?_ ?_
   · iterate 2 refine aR ?_
     refine xp rfl (bZ rfl rfl i rfl hoa) ?_;refine xp rfl (aA rfl hcx) ?_;refine af ?_;refine cX 16 (λhg=>?_) (λhg=>?_)
     · refine af ?_;refine xp rfl (aA rfl (hk.cell (i:=2) rfl)) ?_;refine aR ?_;refine xp rfl (bZ rfl rfl i rfl hol) ?_;refine xp rfl (aA rfl hcy) ?_;refine af ?_;exact aD rfl ⟨ai rfl (by simp[hg]),sb rfl⟩
     · refine af ?_;exact aD rfl ⟨ai rfl (by simp[hg]),sb rfl⟩
   · refine jS (λhb=>?_) (λhb=>?_)
     · refine af ?_;refine aP ?_;rw[hb] at hcon;exact⟨_,rfl,by rw[<-hcon];rfl,rfl⟩
     · rw[hb,Bool.false_or] at hcon;refine af ?_;exact ih (i+1) ⟨by omega,rfl,hcon⟩
 · have hd:a.drop i=[]:=List.drop_of_length_le (by omega);rw[hd] at hcon;refine af ?_;refine aP ?_;exact⟨_,rfl,by rw[<-hcon];rfl,rfl⟩
theorem Gd (c:UInt8):∀(k:Nat) (out:List Bool) (sets:List Nat) (q:Nat) (o:Bool) (s:Nat),out[q]? =some o->sets[q]? =some s->(vG c k out sets)[q]? =some (o && decide (0<k+q) && s.testBit c.toNat)
 |k,[],sets,q,o,s,h,_=>by simp at h
 |k,_::out,[],q,o,s,_,h=>by simp at h
 |k,x::out,y::sets,0,o,s,h1,I=>by simp at h1 I;subst h1 I;simp[vG]
 |k,x::out,y::sets,q+1,o,s,h1,I=>by
  rw[vG];simp only[List.getElem?_cons_succ] at h1 I ⊢;rw[Gd c (k+1) out sets q o s h1 I,show k+1+q=k+(q+1) by omega]
theorem Cz {Oa:Nat->Prop}{r:qL}(c:UInt8) (hr:DZ h O rb r) (hok:lY r n) (ha:aL .bool h Oa v a) (hal:a.length=r.sets.length) (hn:n<=1000000) :
 au prog 104 #[.pointer (some ⟨rb,0,none⟩),v,.int .u8 (c.toNat:Nat)] h (bK λu h'=>bN Value.bool h' h.size 4 u (jE r a c)/\aj h h'):=by
 obtain⟨vs,vb,vl,ho,hk,h1,h2,h3⟩:=hr;obtain⟨ba,bn,bc,rfl,hsb⟩:=h2.open;obtain⟨sa,sn,sc,rfl,hss⟩:=h1.open;obtain⟨oa,na,ca,rfl,hsa⟩:=ha.open;have hna:=hsa.len;have hbn:=hsb.len;have hsn:=hss.len;have hsl:=hok.sets;have hrows:=hok.rows;subst hna;refine bJ ?_;refine af ?_;refine xo rfl (aV.gk underlying130 H.K7 H.LH rfl rfl rfl (by omega) (by decide)) ?_;rintro _ h1 ⟨rfl,k1,e1⟩;have k1:bN Value.bool h1 h.size 4 (.slice (some ⟨h.size,0,none⟩) a.length a.length) (dn a.length):=by unfold bN dn;simpa using k1
 have hbl:∀b∈r.behind,(dn a.length).length<=b.length:=λb hb=>by rw[hok.each b hb,dy];omega
 have hol:=sx a r.behind (dn a.length) hbl;rw[dy] at hol;generalize htgt:qV a r.behind (dn a.length)=tgt at hol;refine af ?_;refine fK (σ:=Nat×Value×List Bool) (λq=>[(7,q.2.1),(8,.int .i64 (q.1:Nat))]) (λq h'=>q.1<=a.length/\aj h h'/\bN Value.bool h' h.size 4 q.2.1 q.2.2/\q.2.2.length=a.length/\qV (a.drop q.1) (r.behind.drop q.1) q.2.2=tgt) (λq=>a.length-q.1) ((0,_,dn a.length)) ⟨Nat.zero_le _,e1,k1,dy _,htgt⟩ rfl ?_;rintro⟨i,ov,cur⟩ g ⟨hi,eg,hov,hcl,hcon⟩ ih
 try dsimp only
 dsimp only at hi hov hcl hcon;have hkg:=hk.ah eg;have hzg:=eg.size;refine af ?_;refine aN (λhlt=>?_) (λhlt=>?_)
 · have hia:i<a.length:=by omega
   obtain⟨b1,o1,x,hoa,_,hx,hcx⟩:=(hsa.mv (Mv.ah eg)).at hia;obtain⟨row,hrow⟩:∃row,r.behind[i]? =some row:=⟨_,List.getElem?_eq_getElem (by omega)⟩
   have hrl:=hok.each row (List.mem_of_getElem? hrow)
   have hd:a.drop i=x::a.drop (i+1):=by
    obtain⟨hi',rfl⟩:=List.getElem?_eq_some_iff.1 hx;exact List.drop_eq_getElem_cons hi'
   have hd2:r.behind.drop i=row::r.behind.drop (i+1):=by
    obtain⟨hi',rfl⟩:=List.getElem?_eq_some_iff.1 hrow;exact List.drop_eq_getElem_cons hi'
   rw[hd,hd2,qV] at hcon
   iterate 4 refine aQ ?_
   refine cI ?_
   iterate 2 refine aR ?_
   refine xp rfl (bZ rfl rfl i rfl hoa) ?_;refine xp rfl (aA rfl hcx) ?_;refine af ?_;refine jS (λhb=>?_) (λhb=>?_)
   · rw[if_pos hb] at hcon;obtain⟨b2,o2,cs2,hba,_,hra,⟨w,rfl,hw⟩⟩:=(hsb.mv (Mv.ah eg)).get i row hrow;refine af ?_;refine xp rfl (aA rfl (hkg.cell (i:=1) rfl)) ?_;refine aR ?_;refine xp rfl (bZ rfl rfl i rfl hba) ?_;refine xp rfl (aA rfl (hra 0 _ rfl)) ?_;refine xo rfl (aE rfl (jj (bN.read (O:=λ_=>False) (h1:=λ_=>rfl) hov (λ_ _ k=>k)) hw (by omega) (by omega))) ?_;rintro w5 g5 ⟨ho5,e5⟩;refine af ?_;exact ih (i+1,w5,jr cur row) ⟨hia,eg.trans e5,iX ho5 (by omega),by show (jr cur row).length=_;simp[jr];omega,hcon⟩
   · rw[if_neg (by rw[hb];decide)] at hcon;refine af ?_;exact ih (i+1,ov,cur) ⟨hia,eg,hov,hcl,hcon⟩
 · have hd:a.drop i=[]:=List.drop_of_length_le (by omega);have hz:qV [] (r.behind.drop i) cur=cur:=by simp[qV]
   rw[hd,hz] at hcon;subst hcon;generalize hfin:vG c 0 cur r.sets=fin;have hfl:fin.length=a.length:=by rw[<-hfin,yG _ _ _ _ (by omega)];exact hcl
   obtain⟨ova,ovc,rfl,_⟩:=(show aB g h.size 4 1 ov cur.length (cur.map Value.bool) from hov).open;refine af ?_;refine fK (σ:=Nat) (λi=>[(9,.int .i64 (i:Nat))]) (λi h'=>i<=a.length/\aj h h'/\bN Value.bool h' h.size 4 (.slice ova cur.length ovc) (fin.take i++cur.drop i)) (λi=>a.length-i) (0) ⟨Nat.zero_le _,eg,by simpa using hov⟩ rfl ?_;rintro i g ⟨hi,eg,hov⟩ ih;have hkg:=hk.ah eg;have hzg:=eg.size;refine af ?_;refine aN (λhlt=>?_) (λhlt=>?_)
   · have hia:i<a.length:=by omega
     obtain⟨x,hx⟩:∃x,cur[i]? =some x:=⟨_,List.getElem?_eq_getElem (by omega)⟩
     obtain⟨s,hs⟩:∃s,r.sets[i]? =some s:=⟨_,List.getElem?_eq_getElem (by omega)⟩
     have hfa:=Gd c 0 cur r.sets i x s hx hs;rw[hfin,Nat.zero_add] at hfa;obtain⟨hfi,hfv⟩:=List.getElem?_eq_some_iff.1 hfa;obtain⟨g',c',hv',hgb,_,hcell,hfz,hset⟩:=hov.at (by rw[Bp hfl hia];exact hx);rw[Bo hfl hcl hi,<-hcl] at hv';cases hv';have hms:=KR hfl hcl hia;rw[hfv] at hms;have hset:=hset (x && decide (0<i) && s.testBit c.toNat);rw[hms] at hset
     have fin2:∀d,d=(x && decide (0<i) && s.testBit c.toNat)->∀ga gb,aj g ga->gb=dx ga ⟨g',0+i*1,none⟩ (.bool d)->aj h gb/\bN Value.bool gb h.size 4 (.slice (some ⟨g',0,none⟩) cur.length ovc) (fin.take (i+1)++cur.drop (i+1)):=by
      rintro d rfl ga gb ea rfl;have hova:=hov.ah ea;obtain⟨g2',c2',hv2,_,_,_,_,hset2⟩:=hova.at (by rw[Bp hfl hia];exact hx);rw[Bo hfl hcl hi,<-hcl] at hv2;cases hv2;have hset2:=hset2 (x && decide (0<i) && s.testBit c.toNat);rw[hms] at hset2;exact⟨aj.only (eg.trans ea) (Ext.dx (M:=λb=>b=g') ga _ _ rfl) hgb,hset2⟩
     iterate 3 refine aQ ?_
     refine cI ?_
     iterate 4 refine aR ?_
     refine xp rfl (bZ rfl rfl i rfl rfl) ?_;refine xp rfl (aA rfl hcell) ?_;refine af ?_;refine cX 44 (λhg=>?_) (λhg=>?_)
     · refine af ?_;refine cX 48 (λhg2=>?_) (λhg2=>?_)
       · have hg2':=of_decide_eq_true hg2;obtain⟨b3,o3,cs3,hsa3,_,hrow3,rfl⟩:=(hss.mv (Mv.ah eg)).get i s hs;refine af ?_;refine xp rfl (aA rfl (hkg.cell (i:=0) rfl)) ?_;refine aR ?_;refine xp rfl (bZ rfl rfl i rfl hsa3) ?_;refine xp rfl (cj rfl hrow3) ?_;refine af ?_;refine xo rfl (aE rfl (rA s c)) ?_;rintro _ g5 ⟨rfl,e5⟩;obtain⟨g5',c5',hv5,_,_,hcell5,hfz5,_⟩:=(hov.ah e5).at (by rw[Bp hfl hia];exact hx);rw[Bo hfl hcl hi,<-hcl] at hv5;cases hv5;refine aR ?_;refine xp rfl (bZ rfl rfl i rfl rfl) ?_;refine aO rfl (bf H.Cv rfl rfl rfl hcell5 hfz5) ?_;rintro _ g6 ⟨rfl,hg6⟩;refine af ?_;exact ih (i+1) ⟨hia,fin2 _ (by rw[hg,decide_eq_true (show 0<i by omega)];rfl) g5 g6 e5 hg6⟩
       · have hg2':=of_decide_eq_false hg2
         iterate 9 refine Ks ?_
         refine aR ?_;refine xp rfl (bZ rfl rfl i rfl rfl) ?_;refine aO rfl (bf H.Cv rfl rfl rfl hcell hfz) ?_;rintro _ g6 ⟨rfl,hg6⟩;refine af ?_;exact ih (i+1) ⟨hia,fin2 _ (by rw[decide_eq_false (show ¬0<i by omega)];simp) g g6 (Ext.refl _ _) hg6⟩
     · iterate 2 refine Ks ?_
       iterate 2 refine aR ?_
       iterate 9 refine Ks ?_
       refine aR ?_;refine xp rfl (bZ rfl rfl i rfl rfl) ?_;refine aO rfl (bf H.Cv rfl rfl rfl hcell hfz) ?_;rintro _ g6 ⟨rfl,hg6⟩;refine af ?_;exact ih (i+1) ⟨hia,fin2 _ (by rw[hg];rfl) g g6 (Ext.refl _ _) hg6⟩
   · have hie:i=a.length:=by omega
     rw[List.take_of_length_le (by omega),List.drop_of_length_le (by omega),List.append_nil] at hov;refine af ?_;refine aP ?_;refine⟨_,rfl,?_,eg⟩;rw[jE,htgt,hfin];exact hov
def Nk:gW qL:=⟨1,by decide,λh O cs r=>∃rb,cs=[.pointer (some ⟨rb,0,none⟩)]/\DZ h O rb r,λh=>by obtain⟨rb,rfl,_⟩:=h;rfl,λh=>by
 obtain⟨rb,rfl,_⟩:=h;intro u hu;simp at hu;subst hu;rfl,λh m=>by
 obtain⟨rb,hc,hv⟩:=h;exact⟨rb,hc,hv.mv m⟩⟩
def gE:List By->Int
 | []=>0
 |s::r=>if (aU s).2≠0 then (aU s).2 else gE r
def eM (l:List By):Int:=if l.length=0\/64<l.length then 2 else if gE l≠0 then gE l else if 2000<ni l then 70 else 0
def dD (l:List By):List qL:=l.map λs=>gG (aU s).1
def M7 (h h':aq) (l:List By) (r:Value):Prop :=
 ∃v,r= .tuple #[v,.int .i64 (eM l)]/\(eM l=0->aL Nk h' (λb=>b<h.size) v (dD l))
theorem CL {rv:Value}{rules:List By}(hr:aL oA h (λ_=>False) rv rules) (bi:∀s∈rules,s.length<=1000000) :
 au prog 57 #[rv] h (bK λr h'=>M7 h h' rules r/\aj h h'):=by
 obtain⟨oa,kn,kc,rfl,ao⟩:=id hr.open;have hkn:=ao.len;have hkc:=ao.le;have hcap:=ao.cap;generalize ag:gE rules=ba;refine au.of func57 rfl rfl (Kz func57 2 [0,2,3] rfl (iC rfl (iC rfl (G.IP [(16,.bool (decide (kn=0\/64<kn)))] [(0,_),(2,_),(3,_)] ⟨rfl,rfl,rfl,trivial⟩ func57 rfl ?_ ?_))))
 · refine KA 1 rfl rfl (az.mL underlying73 rfl) (B6 2 rfl (pR (d:=12) rfl (λhg=>?_) (λhg=>?_)))
   · refine B6 4 rfl (jf rfl ?_);exact⟨rfl,ai rfl (by have:=of_decide_eq_true hg;simp;omega),rfl,rfl,rfl,trivial⟩
   · refine KA 1 rfl rfl (az.mL underlying73 rfl) (B6 2 rfl (jf rfl ?_));exact⟨rfl,ai rfl (by have:=of_decide_eq_false hg;simp only[decide_eq_decide];omega),rfl,rfl,rfl,trivial⟩
 · refine vk rfl rfl (λa8=>?_) (λa8=>?_)
   · refine Kz func57 2 [0,2,3,16] rfl (G.ret func57 rfl rfl ?_);have hp:eM rules=2:=by unfold eM;rw[if_pos (by omega)]
     exact⟨_,rfl,⟨_,by rw[hp];rfl,λk=>by rw[hp] at k;cases k⟩,Ext.refl _ _⟩
   · have hp:eM rules=if gE rules≠0 then gE rules else if 2000<ni rules then 70 else 0:=by unfold eM;rw[if_neg (by omega)]
     rw[ag] at hp;refine me rfl (Kz func57 1 [0,2,3,4,16] rfl (Kz func57 1 [0,2,3,4,5,16] rfl (iC rfl (Kz func57 1 [0,2,3,4,5,6,16] rfl (G.block rfl rfl (uw (σ:=Nat×Value) (λq=>[(0,.slice oa kn kc),(4,q.2),(5,.int .i64 (ni (rules.take q.1):Nat)),(6,.int .i64 (q.1:Nat))]) (λq h'=>q.1<=kn/\aj h h'/\cH Nk (λb=>b<h.size) h' h.size 185 q.2 (dD (rules.take q.1))/\ni (rules.take q.1)<=200*q.1/\gE (rules.drop q.1)=ba) (λq=>kn-q.1) ((0,.slice none 0 0)) rfl ⟨rfl,rfl,rfl,rfl,trivial⟩ ⟨Nat.zero_le _,Ext.refl _ _,cH.nil _ _ _ _ _,by simp[ni],ag⟩ ?_))))));rintro⟨i,ov⟩ g ⟨hi,eg,ac,ae,I⟩ ih
     try dsimp only
     dsimp only at hi ac ae I;have hzg:=eg.size;refine iC rfl (Mm func57 2 rfl (xp rfl (az.mL underlying73 rfl) (D5 1 [0,4,5,6,20] rfl (vk rfl rfl (λbm=>?_) (λbm=>?_)))))
     · obtain⟨s,hs⟩:∃s,rules[i]? =some s:=⟨_,List.getElem?_eq_getElem (by omega)⟩
       have bt:rules.drop i=s::rules.drop (i+1):=by
        obtain⟨bo,rfl⟩:=List.getElem?_eq_some_iff.1 hs;exact List.drop_eq_getElem_cons bo
       rw[bt,gE] at I;obtain⟨bb,n',c',an,_,_,_,aa⟩:=id (hr.ah eg);cases an;obtain⟨b,o,cs,ha,bk,Z,rfl⟩:=aa i s hs;refine me rfl (iC rfl (G.block rfl rfl (Mm func57 2 rfl (xp rfl (az.iS underlying73 H.D6 rfl rfl i rfl ha (by omega)) (xp rfl (eB H.Nl rfl (Z 0 _ rfl)) (xo rfl (kO (vs:=[_]) func99 rfl H.P4 rfl (au.HX (Bd s (bi s (List.mem_of_getElem? hs))))) ?_))))));rintro _ g1 ⟨⟨w,rfl,a6⟩,aw⟩;refine B6 3 rfl (xo rfl (aV.BV H.LI) ?_);rintro _ g2 ⟨rfl,k9,b1,z12⟩;refine RW.FN rfl rfl rfl (aV.jZ H.Cw rfl rfl k9 (by first|rfl|(simp;done)|(simp;omega)) (by first|decide|exact of_decide_eq_true rfl|(simp;done)|(simp;omega)) (aI.one a6)) ?_;rintro _ g3 ⟨rfl,al,b0,z23⟩;refine D5 1 [0,4,5,6,7,8,20] rfl (iC rfl (Kz func57 2 [0,4,5,6,7,8,20,32] rfl ?_));have al:aC g3 g1.size 182 (bP (aU s).1.kind (aU s).1.set w):=al;have ad:aj g1 g3:=aj.only b1 b0 (Nat.le_refl _);have z01:=aw.size;have z13:=ad.size;refine vk rfl rfl (λJ=>?_) (λJ=>?_)
       · rw[if_pos (by exact J)] at I;have U:eM rules=(aU s).2:=by rw[hp,<-I,if_pos J]
         refine Kz func57 3 [0,2,3,4,5,6,7,8,20,32] rfl (G.ret func57 rfl rfl ?_);exact⟨_,rfl,⟨_,by rw[U];rfl,λk=>by rw[U] at k;exact absurd k J⟩,(eg.trans aw).trans ad⟩
       · have h0:(aU s).2=0:=by simpa using J
         rw[if_neg (by simpa using h0)] at I;have ab:=ig h0;obtain⟨css,bx,a7,bv⟩:=id ac;have hrl2:(dD (rules.take i)).length=i:=by simp[dD];omega
         refine me rfl (Mm func57 1 rfl (xp rfl (az.kD H.Kb H.Cw rfl al.row (by first|rfl|(simp;done)|(simp;omega))) (xo rfl (kO (vs:=[_]) func100 rfl H.N7 rfl (au.HX (I8 (a6.ah ad) ab.2.1 (by omega)))) ?_)));rintro _ g4 ⟨rb,rfl,bj,a_⟩;have z34:=a_.size;have ar:aj g g4:=(aw.trans ad).trans a_;refine xo rfl (aV.uf (us:=[_]) underlying137 H.L7 rfl rfl (by decide) (by simp[Value.oneCell'])) ?_;rintro _ _ ⟨rfl,rfl⟩;refine xo rfl (aV.dA underlying137 H.L7 rfl rfl ((a7.gR ar)) rfl rfl (by first|decide|simp[Value.oneCell']) (by omega) (by decide) (by omega)) ?_;rintro v2 g6 ⟨bl,am,hx6',bc⟩;have be:rules.take (i+1)=rules.take i++[s]:=by rw[List.take_add_one,hs];rfl
         have bh:dD (rules.take (i+1))=dD (rules.take i)++[gG (aU s).1]:=by rw[be];simp[dD]
         have ak:∀b,ov.ownBlock=some b->h.size<=b/\b<g.size:=λb hb=>a7.lt hb
         have ap:cH Nk (λb=>b<h.size) g6 h.size 185 v2 (dD (rules.take (i+1))):=by
          rw[bh]
          exact cH.eC (h:=g4) (v:=ov) (css:=css) (cs:=[.pointer (some ⟨rb,0,none⟩)]) bx (λj cs y a b=>Nk.mv (bv j cs y a b) (Mv.ah ar)) bl am bc ⟨rb,rfl,bj.mv ⟨Nat.le_refl _,λb hb hn=>⟨rfl,λk=>hn (by
           rcases k with k|k
           · have:=ak b k.symm;omega
           · omega)⟩⟩⟩
         have htt:=tw hs
         have a':aj h g6:=⟨by have:=am.size;omega,λb hb k=>by
          rw[am.block b (by omega) (λk2=>by have:=ak b k2.symm;omega),ar.block b (by omega) (λk=>k)];exact eg.block b hb k⟩
         obtain⟨bb,n',c',an,_,_,_,aa⟩:=id (hr.ah a');cases an;obtain⟨b,o,cs,ha,bk,Z,rfl⟩:=aa i s hs;have bd:((ni (rules.take i):Nat):Int)+((bs s).size:Nat)=(ni (rules.take (i+1)):Nat):=by rw[aJ s];omega
         have hbs:=aJ s;refine D5 1 [0,4,5,6,7,8,20,32] rfl (G.mE func57 rfl (B6 3 rfl (xp rfl (az.iS underlying73 H.D6 rfl rfl i rfl ha (by omega)) (xp rfl (eB H.Nl rfl (Z 0 _ rfl)) (xp rfl (az.mK underlying9 rfl) (xp rfl (az.ow rfl rfl ⟨by omega,by omega⟩) (D5 1 [0,4,5,6,7,8,20,32] rfl ?_)))))));refine G.pL (G.mE func57 rfl (KA 1 rfl rfl (az.ow rfl rfl ⟨by omega,by omega⟩) (D5 1 [0,4,5,6,7,8,20,32] rfl ?_)));exact ih (i+1,v2) _ _ ⟨rfl,rfl,by rw[<-bd];rfl,rfl,trivial⟩ ⟨by show i+1<=kn;omega,a',ap,by show ni (rules.take (i+1))<=200*(i+1);omega,I⟩ (by show kn-(i+1)<kn-i;omega)
     · have bn:i=rules.length:=by omega
       subst bn;rw[List.take_length] at ac ae;have a1:rules.drop rules.length=[]:=List.drop_length;rw[a1,gE] at I;subst I;rw[if_neg (by decide)] at hp;refine af ?_;refine aN (λY=>?_) (λY=>?_)
       · rw[List.take_length] at Y;have U:eM rules=70:=by rw[hp,if_pos (by omega)]
         refine af ?_;refine aP ?_;exact⟨_,rfl,⟨_,by rw[U];rfl,λk=>by rw[U] at k;cases k⟩,eg⟩
       · rw[List.take_length] at Y;have U:eM rules=0:=by rw[hp,if_neg (by omega)]
         refine af ?_;refine aP ?_;exact⟨_,rfl,⟨_,by rw[U];rfl,λ_=>ac.read (λb hb k=>by omega) (λb _ k=>k)⟩,eg⟩
def su (rs:List qL) (s:By) (a:Int):Int×Int×Int:=if a<0\/(s.length:Int)<a then (0,-1,0) else wN rs (s.drop a.toNat)
def O4 (rs:List qL):Prop:=∀r∈rs,∃n,lY r n/\n<=1000000
def Mz (r:qL) (ri:Nat) (now:List Bool) (k:Nat) (b:Int×Int×Int):Int×Int×Int:=if jH r now=true/\(b.2.1<0\/b.1<k) then (k,ri,if b.2.2<k then (k:Int) else b.2.2) else (b.1,b.2.1,if b.2.2<k then (k:Int) else b.2.2)
theorem Bq {rs:List qL}{s:By}{a:Int}(hr:aL Nk h O v rs) (hok:O4 rs) (hrl:rs.length<=1000000) (hs:s.length<=1000000) :
 au prog 59 #[v,.string (bs s),.int .i64 a] h (bK λr h'=>r= .tuple #[.int .i64 (su rs s a).1,.int .i64 (su rs s a).2.1,.int .i64 (su rs s a).2.2]/\aj h h'):=by
 have hbs:=aJ s;obtain⟨oa,rn,rc,rfl,hsl⟩:=hr.open;have hrn:=hsl.len;refine bJ ?_;refine aQ ?_;refine cI ?_
 iterate 3 refine aR ?_
 refine cO ?_;refine aQ ?_;refine cI ?_
 iterate 3 refine aR ?_
 refine cO ?_
 iterate 2 refine aQ ?_
 refine dU [(22,.bool (decide (a<0\/(s.length:Int)<a)))] rfl ?_ ?_
 · refine af ?_;refine cX 17 (λhg=>?_) (λhg=>?_)
   · have hg':=of_decide_eq_true hg;refine af ?_;exact aD rfl ⟨ai rfl (by simp[hg']),sb rfl⟩
   · have hg':=of_decide_eq_false hg;refine af ?_;exact aD rfl ⟨ai rfl (by simp only[decide_eq_decide];omega),sb rfl⟩
 · refine aN (λhz=>?_) (λhz=>?_)
   · refine af ?_;refine aP ?_;rw[su,if_pos hz];exact⟨_,rfl,rfl,Ext.refl _ _⟩
   · obtain⟨k0,rfl⟩:=Int.eq_ofNat_of_zero_le (show 0<=a by omega);have hk:k0<=s.length:=by omega
     have hma:su rs s (k0:Nat)=ko 0 rs (s.drop k0) (0,-1,0):=by rw[su,if_neg hz];rfl
     rw[hma];generalize htgt:ko 0 rs (s.drop k0) (0,-1,0)=tgt;refine af ?_;refine Kt (σ:=Nat×Int×Int×Int) (λq=>[(0,.slice oa rn rc),(1,.string (bs s)),(2,.int .i64 (k0:Nat)),(9,.int .i64 q.2.1),(10,.int .i64 q.2.2.1),(11,.int .i64 q.2.2.2),(12,.int .i64 (q.1:Nat))]) (λq h'=>aj h h'/\q.1<=rn/\ko q.1 (rs.drop q.1) (s.drop k0) q.2=tgt) (λq=>rn-q.1) ((0,0,-1,0)) ⟨Ext.refl _ _,Nat.zero_le _,htgt⟩ ?_;rintro⟨i,b⟩ g ⟨eg,hi,hcon⟩ ih
     try dsimp only
     dsimp only at hi hcon;refine af ?_;refine aN (λhlt=>?_) (λhlt=>?_)
     · obtain⟨r,hri⟩:∃r,rs[i]? =some r:=⟨_,List.getElem?_eq_getElem (by omega)⟩
       obtain⟨n,hrok,hn⟩:=hok r (List.mem_of_getElem? hri)
       have hdr:rs.drop i=r::rs.drop (i+1):=by
        obtain⟨hi',rfl⟩:=List.getElem?_eq_some_iff.1 hri;exact List.drop_eq_getElem_cons hi'
       rw[hdr,ko] at hcon;obtain⟨b1,o1,cs1,hoa,_,hrow,⟨rb,rfl,hrd⟩⟩:=(hsl.mv (Mv.ah eg)).get i r hri
       iterate 4 refine aQ ?_
       refine cI ?_
       iterate 2 refine aR ?_
       refine xp rfl (bZ rfl rfl i rfl hoa) ?_;refine xp rfl (aA rfl (hrow 0 _ rfl)) ?_;refine xo rfl (aE rfl (AZ hrd hrok hn)) ?_;rintro w1 g1 ⟨ho1,e1⟩;refine af ?_;refine Kt (σ:=Nat×Value×List Bool×Int×Int×Int) (λq=>[(0,.slice oa rn rc),(1,.string (bs s)),(2,.int .i64 (k0:Nat)),(9,.int .i64 q.2.2.2.1),(10,.int .i64 q.2.2.2.2.1),(11,.int .i64 q.2.2.2.2.2),(12,.int .i64 (i:Nat)),(13,q.2.1),(14,.int .i64 (q.1:Nat))]) (λq h'=>aj h h'/\k0<=q.1/\q.1<=s.length/\bN Value.bool h' h.size 4 q.2.1 q.2.2.1/\q.2.2.1.length=r.sets.length/\ko (i+1) (rs.drop (i+1)) (s.drop k0) (sr r i (s.drop q.1) q.2.2.1 (q.1-k0) q.2.2.2)=tgt) (λq=>s.length-q.1) ((k0,w1,qS r,b)) ⟨eg.trans e1,Nat.le_refl _,hk,iX ho1 eg.size,qR r,by rw[Nat.sub_self];exact hcon⟩ ?_;rintro⟨j,nv,now,b⟩ g2 ⟨eg2,hkj,hj,hnv,hnl,hcon⟩ ih2
       try dsimp only
       dsimp only at hkj hj hnv hnl hcon;have hzg2:=eg2.size;have hnr:aL .bool g2 (λ_=>False) nv now:=bN.read (h1:=λ_=>rfl) hnv (λ_ _ k=>k);have hrs:=hrok.sets;have hjk:(j:Int)-(k0:Nat)=((j-k0:Nat):Int):=by omega
       obtain⟨b1,o1,cs1,hoa,_,hrow,⟨rb2,rfl,hrd⟩⟩:=(hsl.mv (Mv.ah eg2)).get i r hri;refine af ?_;refine xo rfl (aE rfl (Fa hnr (by omega))) ?_;rintro _ g3 ⟨rfl,hg3⟩;refine af ?_;subst hg3;refine jS (λhany=>?_) (λhany=>?_)
       · iterate 4 refine aQ ?_
         refine cI ?_
         iterate 6 refine aR ?_
         refine cO ?_
         iterate 2 refine aQ ?_
         refine dU [(60,.bool (decide (jH r now=true/\(b.2.1<0\/b.1<((j-k0:Nat):Int)))))] rfl ?_ ?_
         · iterate 2 refine aR ?_
           refine xp rfl (bZ rfl rfl i rfl hoa) ?_;refine xp rfl (aA rfl (hrow 0 _ rfl)) ?_;refine af ?_;refine xo rfl (aE rfl (DE hrd hrok hnr hnl hn)) ?_;rintro _ g4 ⟨rfl,hg4⟩;subst hg4;refine af ?_;refine cX 50 (λhg=>?_) (λhg=>?_)
           · refine af ?_;refine cX 53 (λhg2=>?_) (λhg2=>?_)
             · have hg2':=of_decide_eq_true hg2;refine af ?_;exact aD rfl ⟨ai rfl (by simp[hg,hg2']),sb rfl⟩
             · have hg2':=of_decide_eq_false hg2;refine af ?_;exact aD rfl ⟨ai rfl (by simp only[hg,true_and,decide_eq_decide];omega),sb rfl⟩
           · refine af ?_;exact aD rfl ⟨ai rfl (by simp[hg]),sb rfl⟩
         · generalize hb':Mz r i now (j-k0) b=b' at *
           have fin:∀(_u:Unit) (h':aq) (ρ':Env),Sub [(0,.slice oa rn rc),(1,.string (bs s)),(2,.int .i64 (k0:Nat)),(9,.int .i64 b'.1),(10,.int .i64 b'.2.1),(11,.int .i64 b'.2.2),(12,.int .i64 (i:Nat)),(13,nv),(14,.int .i64 (j:Nat))] ρ'->h'=g3->G prog 59 f59 [.code [1,1,0,0,1,0,0,1,1,0,0,1,0,0,1,0,1,1,1],.blk 3,.code [1,1,0,0,1,1,0,0,1,0,0,1,0,1,1,1],.loop [0,0,1,1,0,0,1,0,0,1,0,1,1,1],.blk 2,.blk 1,.code [1,1,0,0,1,0,1,1,1],.loop [0,0,1,0,1,1,1],.blk 0,.code [1,1,1,1]] ρ' h' (bK λr h'=>r= .tuple #[.int .i64 tgt.1,.int .i64 tgt.2.1,.int .i64 tgt.2.2]/\aj h h'):=by
            rintro _u g4 ρ' hsub rfl;refine G.sub (ρ':=[(0,.slice oa rn rc),(1,.string (bs s)),(2,.int .i64 (k0:Nat)),(9,.int .i64 b'.1),(10,.int .i64 b'.2.1),(11,.int .i64 b'.2.2),(12,.int .i64 (i:Nat)),(13,nv),(14,.int .i64 (j:Nat))]) hsub ?_;refine af ?_;refine aN (λhend=>?_) (λhend=>?_)
            · have hje:j=s.length:=by omega
              have hd:s.drop j=[]:=List.drop_of_length_le (by omega);rw[hd,sr,if_neg (by rw[hany];decide)] at hcon;have hcon:ko (i+1) (rs.drop (i+1)) (s.drop k0) b'=tgt:=by rw[<-hb',<-hcon];rfl
              refine af ?_;exact ih (i+1,b') ⟨eg2,by show i+1<=rn;omega,hcon⟩
            · have hje:j<s.length:=by omega
              have hd:s.drop j=s[j]::s.drop (j+1):=List.drop_eq_getElem_cons hje;rw[hd,sr,if_neg (by rw[hany];decide)] at hcon;have hcon:ko (i+1) (rs.drop (i+1)) (s.drop k0) (sr r i (s.drop (j+1)) (jE r now s[j]) (j-k0+1) b')=tgt:=by rw[<-hb',<-hcon];rfl
              refine af ?_;refine Gn 10 10 ?_;refine aF 0 ?_;refine aF 1 ?_;refine bq 2 rfl (λh' e=>bZ rfl rfl i rfl hoa) ?_;refine bq 3 rfl (λh' e=>aA rfl (e.old (hrow 0 _ rfl))) ?_;refine aF 4 ?_;refine aF 5 ?_;refine aF 6 ?_;refine bq 7 rfl (λh' e=>tq rfl rfl j rfl (eH (List.getElem?_eq_getElem hje))) ?_;refine cV 8 rfl (aE rfl (Cz s[j] hrd hrok hnr hnl hn)) ?_;rintro w5 g5 ⟨ho5,e5⟩;refine⟨λ_=>e5.mono (λ_ _ k=>k.elim),?_⟩;refine aF 9 ?_;refine fV ?_;refine af ?_;exact ih2 (j+1,w5,jE r now s[j],b') ⟨eg2.trans e5,by show k0<=j+1;omega,hje,iX ho5 (by omega),pW hrok hnl _,by show ko _ _ _ (sr r i _ _ (j+1-k0) b')=tgt;rw[show j+1-k0=j-k0+1 by omega];exact hcon⟩ (by show s.length-(j+1)<s.length-j;omega)
           refine aN (λhbest=>?_) (λhbest=>?_)
           · have hb1:b'=(((j-k0:Nat):Int),(i:Int),if b.2.2<((j-k0:Nat):Int) then ((j-k0:Nat):Int) else b.2.2):=by rw[<-hb',Mz,if_pos hbest]
             subst hb1;refine cI ?_
             iterate 6 refine aR ?_
             refine cO ?_;exact fin () _ _ ⟨rfl,rfl,rfl,by show some (Value.int _ _)=_;rw[<-hjk],rfl,by rw[<-hjk];rfl,rfl,rfl,rfl,trivial⟩ rfl
           · have hb1:b'=(b.1,b.2.1,if b.2.2<((j-k0:Nat):Int) then ((j-k0:Nat):Int) else b.2.2):=by rw[<-hb',Mz,if_neg hbest]
             subst hb1;refine aQ ?_;exact fin () _ _ ⟨rfl,rfl,rfl,rfl,rfl,by rw[<-hjk];rfl,rfl,rfl,rfl,trivial⟩ rfl
       · rw[tJ (by simpa using hany)] at hcon;refine af ?_;exact ih (i+1,b) ⟨eg2,by show i+1<=rn;omega,hcon⟩
     · have hd:rs.drop i=[]:=List.drop_of_length_le (by omega);rw[hd,ko] at hcon;refine af ?_;refine aP ?_;exact⟨_,rfl,by rw[<-hcon];rfl,eg⟩
end
end Go.Proofs.YtnjahnbpnpkmhaaGreatDoor
namespace Go.Proofs.YtnjahnbpnpkmhaaGreatDoor
open Go Go.Lw
set_option maxRecDepth 20000
section
variable {rules:List By}
theorem Ab:∀(l:List By) (i:Nat) (ss:List bL) (t:List Nat),(∃q,jG i l ss t= .inr q/\gE l=0)\/(jG i l ss t= .inl (gE l)/\gE l≠0)
  | [],i,ss,t=>.inl ⟨_,rfl,rfl⟩
  |s::r,i,ss,t=>by
    rw[jG,gE]
    by_cases h:(aU s).2≠0
    · rw[if_pos h,if_pos h];exact .inr ⟨rfl,h⟩
    · rw[if_neg h,if_neg h];exact Ab r _ _ _
theorem xl (l:List By):(∃q,eo l= .inr q/\eM l=0)\/(eo l= .inl (eM l)/\eM l≠0):=by
  unfold eo eM
  by_cases h:l.length=0\/64<l.length
  · rw[if_pos h,if_pos h];exact .inr ⟨rfl,by decide⟩
  · rw[if_neg h,if_neg h]
    rcases Ab l 0 [] [] with ⟨q,h1,I⟩|⟨h1,I⟩
    · rw[h1,if_neg (by simpa using I)]
      by_cases hl:2000<ni l
      · refine .inr ⟨by simp[hl],by rw[if_pos hl];decide⟩
      · refine .inl ⟨(q.1++[⟨0,0,q.2,0⟩],q.1.length),by simp[hl],by rw[if_neg hl]⟩
    · rw[h1,if_pos I];exact .inr ⟨rfl,I⟩
theorem CT (h:eM rules=0):∀s∈rules,(aU s).2=0:=by
  have key:∀l:List By,gE l=0->∀s∈l,(aU s).2=0:=by
    intro l
    induction l with
    |nil=>intro _ s hs;cases hs
    |cons x r ih =>
      intro h s hs;rw[gE] at h
      by_cases hx:(aU x).2≠0
      · rw[if_pos hx] at h;exact absurd h hx
      · rw[if_neg hx] at h
        rcases List.mem_cons.1 hs with rfl|hs
        · simpa using hx
        · exact ih h s hs
  unfold eM at h;split at h
  · cases h
  · split at h
    · rename_i h2;exact absurd h h2
    · rename_i h2;exact key rules (by simpa using h2)
theorem IJ (h:eM rules=0):∀x∈rules.map (λs=>(aU s).1),lu x=true:=λx I=>by
  obtain⟨s,hs,rfl⟩:=List.mem_map.1 I;exact(ig (CT h s hs)).2.1
theorem Et (rules:List By):dD rules=(rules.map λs=>(aU s).1).map gG:=by simp[dD]
theorem IK (h:eM rules=0):O4 (dD rules):=λr hr=>by
  obtain⟨s,hs,rfl⟩:=List.mem_map.1 hr;have I:=ig (CT h s hs);have:=E1 (aU s).1;exact⟨_,I7 I.2.1,by omega⟩
theorem EE (h:eM rules=0) (s:By) (a:Int):oW rules s a=((su (dD rules) s a).1,(su (dD rules) s a).2.1):=by
  rcases xl rules with ⟨⟨ss,st⟩,h1,_⟩|⟨_,h2⟩
  · have hm:=eZ h1;have hst:=hm.stl;unfold oW su xj;rw[h1];simp only
    by_cases U:a<0\/(s.length:Int)<a
    · rw[if_pos (.inr U),if_pos U]
    · rw[if_neg (by omega),if_neg U];have Z:=uK hm (s.drop a.toNat);have Y:=zo (IJ h) (s.drop a.toNat);rw[<-Et] at Y;refine Z.uniq Y (λk r _=>?_);simp only[List.getElem?_map];constructor
      · rintro⟨s',I,hl⟩;exact⟨_,by rw[I];rfl,hl⟩
      · rintro⟨x,J,hl⟩;cases I:rules[r]? with
        |none=>rw[I] at J;cases J
        |some s'=>rw[I] at J;cases J;exact⟨s',rfl,hl⟩
  · exact absurd h h2
end
end Go.Proofs.YtnjahnbpnpkmhaaGreatDoor
namespace Go.Proofs.YtnjahnbpnpkmhaaGreatDoor
open Go Go.Lw
set_option maxRecDepth 20000 set_option maxHeartbeats 4000000
section
variable {i:Nat}
def Oq:gW (List qL):=⟨1,by decide,λh O cs rs=>∃oa n c,cs=[.slice oa n c]/\aL Nk h O (.slice oa n c) rs,λh=>by obtain⟨oa,n,c,rfl,_⟩:=h;rfl,λh=>by
 obtain⟨oa,n,c,rfl,_⟩:=h;intro u hu;simp at hu;subst hu;rfl,λh m=>by
 obtain⟨oa,n,c,hc,hv⟩:=h;exact⟨oa,n,c,hc,hv.mv m⟩⟩
def oV:List (List qL):=[dD (bX 0),dD (bX 1),dD (bX 2)]
theorem C7 (hi:i<3):oV.take (i+1)=oV.take i++[dD (bX (i:Nat))]/\oV[i]? =some (dD (bX (i:Nat))):=by
 have:i=0\/i=1\/i=2:=by omega
 rcases this with rfl|rfl|rfl<;>exact⟨rfl,rfl⟩
theorem Br {l:List By}{q:List bL×Nat}(h:eo l= .inr q):eM l=0:=by
 rcases xl l with ⟨_,_,I⟩|⟨h1,_⟩
 · exact I
 · rw[h] at h1;cases h1
theorem wZ (hi:i<3):eM (bX (i:Nat))=0/\∀s∈bX (i:Nat),s.length<=1000000:=by
 have:i=0\/i=1\/i=2:=by omega
 rcases this with rfl|rfl|rfl
 · exact⟨Br N9,λs hs=>(show ∀s∈wK,s.length<=1000000 by decide +kernel) s hs⟩
 · exact⟨Br Jh,λs hs=>(show ∀s∈wJ,s.length<=1000000 by decide +kernel) s hs⟩
 · exact⟨Br N8,λs hs=>(show ∀s∈wI,s.length<=1000000 by decide +kernel) s hs⟩
theorem C6 {h:aq}:au Tryz.prog 30 #[] h (bK λr h'=>aL Oq h' (λ_=>False) r oV/\aj h h'):=by
 refine bJ ?_;refine af ?_;refine Kt (σ:=Nat×Value) (λq=>[(1,q.2),(2,.int .i64 (q.1:Nat))]) (λq h'=>q.1<=3/\aj h h'/\cH Oq (λb=>b<h.size) h' h.size 137 q.2 (oV.take q.1)) (λq=>3-q.1) ((0,.slice none 0 0)) ⟨Nat.zero_le _,Ext.refl _ _,cH.nil _ _ _ _ _⟩ ?_;rintro⟨i,ov⟩ g ⟨hi,eg,Y⟩ ih
 try dsimp only
 dsimp only at hi Y;have hzg:=eg.size;refine af ?_;refine aN (λao=>?_) (λao=>?_)
 · have aa:i<3:=by omega
   obtain⟨an,hm2⟩:=C7 aa;obtain⟨am,al⟩:=wZ aa;obtain⟨css,ar,ab,ap⟩:=id Y;have hrl2:(oV.take i).length=i:=by rw[List.length_take];show min i 3=i;omega
   refine af ?_;refine xo rfl (aE rfl (tM (i:Nat))) ?_;rintro _ g1 ⟨ad,e1⟩;refine xo rfl (aE rfl (CL ad al)) ?_;rintro _ g2 ⟨⟨rv,rfl,ae⟩,e2⟩;obtain⟨ra,rn,rc,rfl,ag⟩:=(ae am).open;have z1:=e1.size;have z2:=e2.size;have Z:aj g g2:=e1.trans e2;refine af ?_;refine xo rfl (iD [_]) ?_;rintro _ _ ⟨rfl,rfl⟩;refine xo rfl (vL rfl rfl ((ab.gR Z)) rfl rfl) ?_;rintro v2 g6 ⟨ak,J,hx6',ac⟩;have I:∀b,ov.ownBlock=some b->h.size<=b/\b<g.size:=λb hb=>ab.lt hb
   have U:cH Oq (λb=>b<h.size) g6 h.size 137 v2 (oV.take (i+1)):=by
    rw[an]
    exact cH.eC (h:=g2) (v:=ov) (css:=css) (cs:=[.slice ra rn rc]) ar (λj cs y a b=>Oq.mv (ap j cs y a b) (Mv.ah Z)) ak J ac ⟨ra,rn,rc,rfl,ag.shut.mv ⟨Nat.le_refl _,λb hb hn=>⟨rfl,λk=>hn (by
     rcases k with k|k
     · have:=I b k.symm;omega
     · omega)⟩⟩⟩
   have aw:aj h g6:=⟨by have:=J.size;omega,λb hb k=>by
    rw[J.block b (by omega) (λk2=>by have:=I b k2.symm;omega),Z.block b (by omega) (λk=>k)];exact eg.block b hb k⟩
   refine af ?_;exact ih (i+1,v2) ⟨by show i+1<=3;omega,aw,U⟩
 · obtain rfl:i=3:=by omega
   refine af ?_;refine aP ?_;exact⟨_,rfl,Y.read (λb hb k=>by cases k) (λb _ k=>k.elim),eg⟩
theorem IS (hi:i<3) (s:By) (k:Nat) (hk:k<=s.length):((su (dD (bX (i:Nat))) s (k:Nat)).1,(su (dD (bX (i:Nat))) s (k:Nat)).2.1)=gI (i:Nat) (s.drop k):=by
 rw[<-EE (wZ hi).1]
 have key:∀{l:List By}{q:List bL×Nat},eo l= .inr q->oW l s (k:Nat)=dN q.1 q.2 (s.drop k):=λh=>by
  unfold oW;rw[h];simp only[xj];rw[if_neg (by have:=(eZ h).stl;omega)];rfl
 have:i=0\/i=1\/i=2:=by omega
 rcases this with rfl|rfl|rfl
 · exact key N9
 · exact key Jh
 · exact key N8
end
end Go.Proofs.YtnjahnbpnpkmhaaGreatDoor

/- What the proof of the statement leans on (part 22). -/
import Derived.Lib.ItoaLen
import Derived.Test.YtoickfdopobmgaaGreatDoorQu

namespace Go.Proofs.YtoickfdopobmgaaGreatDoor
open Go
def gH (l:List Int):By:=l.flatMap fun n=>Lib.itoa n++[32]
theorem sA (u:Nat):∀c∈Lib.decDigits u,48<=c.toNat/\c.toNat<=57:=by
  induction u using Nat.strongRecOn with
  |_ u ih =>
    intro c hc;rw[Lib.decDigits] at hc;split at hc
    · rename_i h;simp at hc;subst hc;simp;omega
    · rename_i h
      rcases List.mem_append.1 hc with k|k
      · exact ih (u / 10) (by omega) c k
      · simp at k;subst k;have:u%10<10:=Nat.mod_lt _ (by decide);simp;omega
def JR (l:By):Nat:=l.foldl (fun a c=>a*10+(c.toNat-48)) 0
theorem uD (u:Nat):JR (Lib.decDigits u)=u:=by
  induction u using Nat.strongRecOn with
  |_ u ih =>
    rw[Lib.decDigits];split
    · rename_i h;simp[JR];omega
    · rename_i h;have h1:=ih (u / 10) (by omega);unfold JR at h1 ⊢;rw[List.foldl_append,h1];have:u%10<10:=Nat.mod_lt _ (by decide);simp;omega
theorem wu (n:Int):∀c∈Lib.itoa n,c≠32:=by
  intro c hc e;subst e;unfold Lib.itoa at hc;split at hc
  · rcases List.mem_cons.1 hc with k|k
    · cases k
    · have:=(sA _ _ k).1;simp at this
  · have:=(sA _ _ hc).1;simp at this
theorem Jp {m n:Int}(h:Lib.itoa m=Lib.itoa n):m=n:=by
  have neg:∀a b:Nat,45::Lib.decDigits a≠Lib.decDigits b:=fun a b e=>by
    have:(45:UInt8)∈Lib.decDigits b:=by rw[<-e];exact List.mem_cons_self
    have:=(sA _ _ this).1;simp at this
  unfold Lib.itoa at h;split at h<;>split at h
  · have h:=congrArg JR (List.cons.inj h).2;rw[uD,uD] at h;omega
  · exact absurd h (neg _ _)
  · exact absurd h.symm (neg _ _)
  · have h:=congrArg JR h;rw[uD,uD] at h;omega
theorem tU:∀(a b r s:By),(∀c∈a,c≠32)->(∀c∈b,c≠32)->a++32::r=b++32::s->a=b/\r=s
  | [],[],r,s,_,_,h=>by simpa using h
  | [],d::b,r,s,_,hb,h=>by
    simp only[List.nil_append,List.cons_append,List.cons.injEq] at h;exact absurd h.1.symm (hb d List.mem_cons_self)
  |c::a,[],r,s,ha,_,h=>by
    simp only[List.nil_append,List.cons_append,List.cons.injEq] at h;exact absurd h.1 (ha c List.mem_cons_self)
  |c::a,d::b,r,s,ha,hb,h=>by
    simp only[List.cons_append,List.cons.injEq] at h;have:=tU a b r s (fun x hx=>ha x (List.mem_cons_of_mem _ hx)) (fun x hx=>hb x (List.mem_cons_of_mem _ hx)) h.2;exact⟨by rw[h.1,this.1],this.2⟩
theorem key_inj:∀{l m:List Int},gH l=gH m->l=m
  | [],[],_=>rfl
  | [],n::m,h=>by
    have:=congrArg List.length h;simp[gH] at this
  |n::l,[],h=>by
    have:=congrArg List.length h;simp[gH] at this
  |n::l,k::m,h=>by
    have h':Lib.itoa n++32::gH l=Lib.itoa k++32::gH m:=by simpa [gH] using h
    obtain⟨h1,h2⟩:=tU _ _ _ _ (wu n) (wu k) h';rw[Jp h1,key_inj h2]
theorem AU:∀(l:List Int),(∀n∈l,-9223372036854775808<=n/\n<=9223372036854775807)->(gH l).length<=22*l.length
  | [],_=>by simp[gH]
  |n::l,h=>by
    have h1:=AU l (fun x hx=>h x (List.mem_cons_of_mem _ hx));have hn:=h n List.mem_cons_self;have h2:=Lib.itoa_length_le n hn.1 hn.2;have e:gH (n::l)=Lib.itoa n++[32]++gH l:=rfl;have h3:(gH (n::l)).length=(Lib.itoa n).length+1+(gH l).length:=by rw[e,List.length_append,List.length_append];rfl
    rw[h3,List.length_cons];omega
theorem Jm (l:List Int) (n:Int):gH (l++[n])=gH l++Lib.itoa n++[32]:=by simp[gH]
end Go.Proofs.YtoickfdopobmgaaGreatDoor
namespace Go.Proofs.YtoickfdopobmgaaGreatDoor
open Go.Proofs.Tryz
open Go Go.Lw
set_option maxRecDepth 20000 set_option maxHeartbeats 4000000
section
variable {h:ai}{b:Nat}{v:Value}{l:List UInt8}
theorem bInfo:∃j,Tryz.prog.info? 109=some j/\j.size≠0:=⟨_,rfl,by decide⟩
theorem Mu:∃i,Tryz.prog.info? 5=some i/\i.zero=some (.int .u8 0)/\i.size=1/\i.bytes=1:=⟨_,rfl,rfl,rfl,rfl⟩
theorem Pe:liesAt Tryz.prog Tryz.prog.depth 109 (2 / Tryz.prog.cellsOf 109) 0 109 1=true:=by kernel_rfl
theorem KB:Tryz.prog.cellsOf 5=1:=by kernel_rfl
theorem um (hb:aD h b 109 [.pointer none,v]) :
 aq Tryz.prog 86 #[.pointer (some ⟨b,0,none⟩)] h (bw fun _ h'=>aD h' b 109 [.pointer (some ⟨b,0,none⟩),v]/\Ext (fun i=>i=b) h h'/\h'.size=h.size):=by
 obtain⟨j,hj,hj0⟩:=bInfo;refine bL ?_;refine af ?_;refine xp rfl (aA rfl (hb.cell (i:=0) rfl)) ?_;refine xp rfl (ay.n8 underlying107 rfl rfl) ?_;refine af ?_;refine fF rfl (by decide) ?_;refine cD ?_
 iterate 2 refine aW ?_
 refine xp rfl (ay.HW underlying107 underlying222 hj hj0 hb (by simp) rfl) ?_;refine xp rfl (ay.IT func135 (by decide +kernel) (by kernel_rfl) (by kernel_rfl) (by kernel_rfl) rfl) ?_;refine xp rfl (ay.Ew underlying222 underlying107 hj hb Pe rfl) ?_;refine af ?_;refine aM rfl (mj rfl rfl hb) ?_;rintro _ h1 ⟨rfl,hb1,hx1,hs1⟩;refine af ?_;refine Hz ?_;exact⟨_,rfl,hb1,hx1,hs1⟩
theorem wW (hb:aD h b 109 [.pointer (some ⟨b,0,none⟩),v]) :
 aq Tryz.prog 86 #[.pointer (some ⟨b,0,none⟩)] h (bw fun _ h'=>aD h' b 109 [.pointer (some ⟨b,0,none⟩),v]/\Ext (fun i=>i=b) h h'/\h'.size=h.size):=by
 obtain⟨j,hj,hj0⟩:=bInfo;refine bL ?_;refine af ?_;refine xp rfl (aA rfl (hb.cell (i:=0) rfl)) ?_;refine xp rfl (ay.n8 underlying107 rfl rfl) ?_;refine af ?_;refine fe rfl Bool.false_ne_true ?_;refine af ?_;refine xp rfl (aA rfl (hb.cell (i:=0) rfl)) ?_;refine aW ?_;refine xp rfl (ay.Ed underlying107 hj rfl rfl) ?_;refine af ?_;refine fe rfl Bool.false_ne_true ?_;refine af ?_;refine Hz ?_;exact⟨_,rfl,hb,Ext.refl _ _,rfl⟩
theorem iZ {p:Value}(hb:aD h b 109 [p,v]) (hp:p= .pointer none\/p= .pointer (some ⟨b,0,none⟩)) :
 aq Tryz.prog 86 #[.pointer (some ⟨b,0,none⟩)] h (bw fun _ h'=>aD h' b 109 [.pointer (some ⟨b,0,none⟩),v]/\Ext (fun i=>i=b) h h'/\h'.size=h.size):=by
 rcases hp with rfl|rfl
 · exact um hb
 · exact wW hb
theorem cu (s:ByteArray) (hb:kG h b 109 5 l) (hl:l.length+s.size<=140737488355328) :
 aq Tryz.prog 46 #[.pointer (some ⟨b,0,none⟩),.string s] h (bw fun r h'=>r= .tuple #[.int .i64 s.size,.nilIface]/\kG h' b 109 5 (l++s.data.toList)/\Ext (fun i=>b<=i) h h'):=by
 obtain⟨i,hi,hi0,hi1,hi2⟩:=Mu;obtain⟨p,v,hk,hp,hv⟩:=hb;have hlt:=hk.lt;refine bL ?_;refine af ?_;refine xo rfl (aE rfl (iZ hk hp)) ?_;rintro _ h1 ⟨hk1,hx1,hs1⟩;refine af ?_;have hv1:Dv h1 (b+1) 5 v l:=aB.ext hx1 hv (fun g hg=>by have:=nN hv g hg.symm;omega);refine xp rfl (aA rfl (hk1.cell (i:=1) rfl)) ?_;refine af ?_;refine xo rfl (aQ.Hr underlying53 underlying9 hi hi0 hi1 hi2 rfl rfl hv1 hl (by omega)) ?_;rintro v2 h2 ⟨ho2,hx2⟩;refine af ?_;have hk2:=hk1.ext hx2 (fun hm=>by have:=nN hv1 b hm;omega);obtain⟨oa2,c2,rfl,-⟩:=aB.open ho2;refine aM rfl (mj rfl rfl hk2) ?_;rintro _ h3 ⟨rfl,hk3,hx3,hs3⟩;refine af ?_;refine bp ?_;have ho3:Dv h3 (b+1) 5 _ (l++s.data.toList):=aB.ext hx3 ho2 (fun g hg=>by have:=nN ho2 g hg.symm;omega);exact⟨_,rfl,rfl,⟨_,_,hk3,.inr rfl,ho3⟩,((hx1.mono (fun _ _ k=>by show b<=_;omega)).trans (hx2.mono (fun g _ k=>by have:=nN hv1 g k;show b<=g;omega))).trans (hx3.mono (fun _ _ k=>by show b<=_;omega))⟩
theorem kG.ah {h h':ai}{b:Nat}{l:List UInt8}(k:kG h b 109 5 l) (e:aj h h'):kG h' b 109 5 l:=by
 obtain⟨p,v,hk,hp,hv⟩:=k;exact⟨p,v,hk.ah e,hp,bN.ah hv e⟩
theorem iK (hb:kG h b 109 5 l) (hl:l.length<=140737488355328) :
 aq Tryz.prog 47 #[.pointer (some ⟨b,0,none⟩)] h (bw fun r h'=>r= .string ⟨l.toArray⟩/\Ext (fun i=>b<=i) h h'):=by
 obtain⟨p,v,hk,hp,hv⟩:=hb;obtain⟨oa,c,rfl,hw⟩:=aB.open hv;have hc1:=hk.cell (i:=1) rfl;refine bL ?_;refine af ?_;refine me 12 (fun i=>b+1<=i) (fun i=>Nat.blt i 12) ?_;refine aI 0 ?_;refine aI 1 ?_;refine aI 2 ?_;refine bI 3 rfl (fun h' e=>aA rfl (e.cell (by show ¬b+1<=b;omega) hc1)) ?_;refine aI 5 ?_;refine aI 6 ?_;refine aI 7 ?_;refine bI 8 rfl (fun h' e=>aA rfl (e.cell (by show ¬b+1<=b;omega) hc1)) ?_;refine aI 9 ?_;refine dH 4 rfl (aQ.Gm underlying173 rfl hv) ?_;rintro u h1 ⟨⟨q,rfl,hs⟩,he⟩;refine⟨fun _=>he.of,?_⟩;refine dH 10 rfl (sP underlying173 KB rfl rfl hs hl) ?_;rintro _ h2 ⟨rfl,hx2⟩;refine⟨fun _=>hx2,?_⟩;refine aI 11 ?_;refine iT ?_;refine bp ?_;exact⟨_,rfl,rfl,(aj.of he).trans (hx2.mono (fun g _ k=>by have:b+1<=g:=k;show b<=g;omega))⟩
def rM (h:ai):Prop:=BM Tryz.prog h "internal/strconv.uint64pow10" =some (Lib.pow10Tab.map fun z=>Value.int .u64 z).toArray
theorem rM.ah {h':ai}(k:rM h) (e:aj h h'):rM h':=DH e k
theorem qh (hg:rM h) (n:Int) (hn : -9223372036854775808<=n/\n<=9223372036854775807) :
 aq Tryz.prog 40 #[.int .i64 n] h (bw fun r h'=>r= .string (bs (Lib.itoa n))/\aj h h'):=by
 refine aq.oK fun w hw=>?_
 subst hw;refine(Tryz.strconv_Itoa n hn.1 hn.2 w hg).mono ?_;rintro e w' ⟨rfl,k,os,rfl⟩;refine⟨_,rfl,⟨rfl,?_⟩,rfl,rfl,rfl⟩;refine⟨by simp[Go.Sort.grow],fun b hb _=>?_⟩;simp[Go.Sort.grow,Array.getElem?_append_left hb]
theorem fX (c:UInt8) (hb:kG h b 109 5 l) (hl:l.length<=900000000) :
 aq Tryz.prog 105 #[.pointer (some ⟨b,0,none⟩),.int .u8 (c.toNat:Nat)] h (bw fun _ h'=>kG h' b 109 5 (l++[c])/\Ext (fun g=>b<=g) h h'):=by
 obtain⟨p,v,hk,hp,hv⟩:=hb;have hlt:=hk.lt;refine bL ?_;refine af ?_;refine xo rfl (aE rfl (iZ hk hp)) ?_;rintro _ h1 ⟨hk1,hx1,hs1⟩;refine af ?_;have hv1:Dv h1 (b+1) 5 v l:=aB.ext hx1 hv (fun g hg=>by have:=nN hv g hg.symm;omega);refine xp rfl (aA rfl (hk1.cell (i:=1) rfl)) ?_;refine af ?_;refine xo rfl (iL [_]) ?_;rintro _ _ ⟨rfl,rfl⟩;refine xo rfl (uH rfl rfl hv1 rfl rfl) ?_;rintro v2 h2 ⟨ho2,hx2,hx2',hv2⟩;have hk2:=hk1.ext hx2 (fun hm=>by have:=nN hv1 b hm;omega);have ho2':Dv h2 (b+1) 5 v2 (l++[c]):=bN.of (ys:=[c]) ho2 rfl rfl rfl;obtain⟨oa2,c2,rfl,-⟩:=ho2.open;refine af ?_;refine aM rfl (mj rfl rfl hk2) ?_;rintro _ h3 ⟨rfl,hk3,hx3,hs3⟩;refine af ?_;refine bp ?_;exact⟨_,rfl,⟨_,_,hk3,.inr rfl,aB.ext hx3 ho2' (fun g hg=>by have:=nN ho2' g hg.symm;omega)⟩,((hx1.mono (fun _ _ k=>by show b<=_;omega)).trans (hx2.mono (fun g _ k=>by have:=nN hv1 g k;show b<=g;omega))).trans (hx3.mono (fun _ _ k=>by show b<=_;omega))⟩
theorem sr {O:Nat->Prop}(hg:rM h){l:List Int}(hv:aT (.int .i64) h O v l) (hl:l.length<=1000000) (hb:∀n∈l,-9223372036854775808<=n/\n<=9223372036854775807) :
 aq Tryz.prog 55 #[v] h (bw fun r h'=>r= .string (bs (gH l))/\aj h h'):=by
 obtain⟨oa,n,c,rfl,hsl⟩:=hv.open;have hn:=hsl.len;refine bL ?_;refine af ?_;refine xo rfl (cO) ?_;rintro _ h0 ⟨rfl,hk0,he0,hs0⟩;refine af ?_;have hb0:kG h0 h.size 109 5 []:=xT hk0;refine gY (σ:=Nat) (fun i=>[(8,.int .i64 (i:Nat))]) (fun i h'=>i<=n/\aj h h'/\kG h' h.size 109 5 (gH (l.take i))/\h0.size<=h'.size) (fun i=>n-i) (0) ⟨Nat.zero_le _,he0,hb0,Nat.le_refl _⟩ rfl ?_;rintro i g ⟨hi,eg,hbg,hgz⟩ ih;have hlen:=AU (l.take i) (fun x hx=>hb x (List.mem_of_mem_take hx));rw[List.length_take] at hlen;refine af ?_;refine aR (fun hlt=>?_) (fun hlt=>?_)
 · obtain⟨b1,o1,x,hoa,_,hx,hcx⟩:=(hsl.mv (Mv.ah eg)).at (show i<n by omega);have hbx:=hb x (List.mem_of_getElem? hx);have hil:=Lib.itoa_length_le x hbx.1 hbx.2;have hbsz:=aG (Lib.itoa x);have hbl:(bs (Lib.itoa x)).data.toList=Lib.itoa x:=by simp[bs]
   have hnx:gH (l.take (i+1))=gH (l.take i)++(bs (Lib.itoa x)).data.toList++[32]:=by rw[List.take_add_one,hx,Option.toList_some,Jm,hbl]
   iterate 4 refine aX ?_
   refine cD ?_;refine xp rfl (cz rfl rfl i rfl hoa) ?_;refine xp rfl (aA rfl hcx) ?_;refine af ?_;refine xo rfl (aE rfl (qh (hg.ah eg) x hbx)) ?_;rintro _ g1 ⟨rfl,e1⟩;refine xo rfl (aE rfl (cu (bs (Lib.itoa x)) (kG.ah hbg e1) (by omega))) ?_;rintro _ g2 ⟨rfl,hb2,hx2⟩;refine af ?_;refine xo rfl (aE rfl (fX 32 hb2 (by rw[List.length_append,hbl];omega))) ?_;rintro _ g3 ⟨hb3,hx3⟩;refine af ?_;have z1:=e1.size;have z2:=hx2.size;have z3:=hx3.size;rw[<-hnx] at hb3
   have e3:aj h g3:=⟨by have:=eg.size;omega,fun b hb k=>by
    rw[hx3.block b (by have:=eg.size;omega) (by show ¬_<=_;omega),hx2.block b (by have:=eg.size;omega) (by show ¬_<=_;omega),e1.block b (by have:=eg.size;omega) (fun k=>k)];exact eg.block b hb k⟩
   exact ih (i+1) ⟨by omega,e3,hb3,by omega⟩
 · have hie:l.take i=l:=List.take_of_length_le (by omega);rw[hie] at hbg;have hkl:=AU l hb;refine af ?_;refine xo rfl (aE rfl (iK hbg (by omega))) ?_;rintro _ g1 ⟨rfl,hx1⟩;refine af ?_;refine bp ?_;exact⟨_,rfl,rfl,⟨by have:=hx1.size;have:=eg.size;omega,fun b hb k=>by rw[hx1.block b (by have:=eg.size;omega) (by show ¬_<=_;omega)];exact eg.block b hb k⟩⟩
end
end Go.Proofs.YtoickfdopobmgaaGreatDoor
namespace Go.Proofs.YtoickfdopobmgaaGreatDoor
open Go
structure Row where
  v:List Int
  len:v.length=256
structure bG where
  next:List Row
  rule:List Int
def bG.to (d:bG) (s:Nat) (c:UInt8):Int:=match d.next[s]? with|some r=>r.v.getD c.toNat (-1)|none=> -1
def bG.ru (d:bG) (s:Nat):Int:=d.rule.getD s (-1)
structure bG.Ok (d:bG):Prop where
  len:d.rule.length=d.next.length
  size:d.next.length<=2000
  to:∀r∈d.next,∀x∈r.v,-1<=x/\x<d.next.length
  ru:∀x∈d.rule,-1<=x/\x<=1000000
theorem Row.at {r:Row}(c:UInt8):∃x,r.v[c.toNat]? =some x/\r.v.getD c.toNat (-1)=x/\x∈r.v:=by
  have h:=r.len;have hc:=c.toNat_lt;have hx:r.v[c.toNat]? =some (r.v[c.toNat]'(by omega)):=List.getElem?_eq_getElem (by omega);exact⟨_,hx,by rw[List.getD_eq_getElem?_getD,hx];rfl,List.getElem_mem _⟩
theorem bG.qH {d:bG}(k:d.Ok){s:Nat}(c:UInt8) : -1<=d.to s c/\d.to s c<d.next.length:=by
  unfold bG.to;cases h:d.next[s]? with
  |none=>simp only;omega
  |some r =>
    obtain⟨x,hx,he,hm⟩:=r.at c;simp only;rw[he];exact k.to r (List.mem_of_getElem? h) x hm
def aK (d:bG):By->Nat->Nat->Int×Int->Int×Int×Int
  | [],st,k,b=>if 0<=d.ru st then (k,d.ru st,k) else (b.1,b.2,k)
  |c::l,st,k,b =>
    if 0<=d.to st c then aK d l (d.to st c).toNat (k+1) (if 0<=d.ru st then (k,d.ru st) else b)
    else if 0<=d.ru st then (k,d.ru st,k) else (b.1,b.2,k)
def dc (d:bG) (s:By) (a:Int):Int×Int×Int:=if d.next.length=0\/a<0\/(s.length:Int)<a then (0,-1,0) else aK d (s.drop a.toNat) 0 0 (0,-1)
end Go.Proofs.YtoickfdopobmgaaGreatDoor
namespace Go.Proofs.YtoickfdopobmgaaGreatDoor
open Go.Proofs.Tryz
open Go Go.Lw
set_option maxRecDepth 20000 set_option maxHeartbeats 4000000
section
variable {h:ai}
def bP (r:Row):List Value:=r.v.map (.int .i64)
@[simp] theorem mU (r:Row):(bP r).length=256:=by simp[bP,r.len]
def FM:fQ Row:=.record 256 (by decide) bP mU (fun r v hv=>by simp[bP] at hv;obtain⟨_,_,rfl⟩:=hv;rfl)
def pR (h:ai) (db:Nat) (d:bG):Prop :=
 ∃vn vr,aD h db 143 [vn,vr]/\aT FM h (fun _=>False) vn d.next/\aT (.int .i64) h (fun _=>False) vr d.rule
theorem pR.ah {h h':ai}{db:Nat}{d:bG}(k:pR h db d) (e:aj h h'):pR h' db d:=by
 obtain⟨vn,vr,h1,h2,h3⟩:=k;exact⟨vn,vr,h1.ah e,h2.mv (Mv.ah e),h3.mv (Mv.ah e)⟩
def Mi (h:ai) (p:Value) (d:bG):Prop:=(p= .pointer none/\d=⟨[],[]⟩)\/∃db,p= .pointer (some ⟨db,0,none⟩)/\pR h db d
theorem Hg:aq Tryz.prog 58 #[.pointer none] h (bw fun r h'=>r= .bool true/\h'=h):=by
 refine bL ?_;refine aX ?_;refine cD ?_;refine aW ?_;refine cX ?_;refine aX ?_;refine fL [(2,.bool true)] rfl ?_ ?_
 · refine aW ?_;refine xp rfl (ay.n8 underlying79 rfl rfl) ?_;refine af ?_;refine RW.cV (d:=5) (b':=true) rfl (rfl) ?_;refine af ?_;exact aF rfl ⟨au rfl (rfl),sb rfl⟩
 · refine bp ?_;exact⟨_,rfl,rfl,rfl⟩
theorem C0 {db:Nat}{d:bG}(k:pR h db d):aq Tryz.prog 58 #[.pointer (some ⟨db,0,none⟩)] h (bw fun r h'=>r= .bool (decide (d.next.length=0))/\h'=h):=by
 obtain⟨vn,vr,hk,⟨na,nn,nc,rfl,hnl,_⟩,h2⟩:=k;refine bL ?_;refine aX ?_;refine cD ?_;refine aW ?_;refine cX ?_;refine aX ?_;refine fL [(2,.bool (decide (d.next.length=0)))] rfl ?_ ?_
 · refine aW ?_;refine xp rfl (ay.n8 underlying79 rfl rfl) ?_;refine af ?_;refine RW.cV (d:=5) (b':=false) rfl (rfl) ?_;refine af ?_;refine xp rfl (aA rfl (hk.cell (i:=0) rfl)) ?_;refine af ?_;exact aF rfl ⟨au rfl (by simp only[decide_eq_decide];omega),sb rfl⟩
 · refine bp ?_;exact⟨_,rfl,rfl,rfl⟩
theorem CZ {p:Value}{d:bG}(k:Mi h p d):aq Tryz.prog 58 #[p] h (bw fun r h'=>r= .bool (decide (d.next.length=0))/\h'=h):=by
 rcases k with ⟨rfl,rfl⟩|⟨db,rfl,k⟩
 · exact Hg
 · exact C0 k
theorem A8 {p:Value}{d:bG}{s:By}{a:Int}(k:Mi h p d) (hok:d.Ok) (hs:s.length<=1000000) :
 aq Tryz.prog 113 #[p,.string (bs s),.int .i64 a] h (bw fun r h'=>r= .tuple #[.int .i64 (dc d s a).1,.int .i64 (dc d s a).2.1,.int .i64 (dc d s a).2.2]/\h'=h):=by
 have hbs:=aG s;refine bL ?_;refine aX ?_;refine cD ?_
 iterate 3 refine aW ?_
 refine cX ?_;refine aX ?_;refine cD ?_;refine aW ?_;refine cX ?_
 iterate 2 refine aX ?_
 refine fL [(22,.bool (decide (d.next.length=0\/a<0\/(s.length:Int)<a)))] rfl ?_ ?_
 · refine af ?_;refine xo rfl (aE rfl (CZ k)) ?_;rintro _ h0 ⟨rfl,hh0⟩;subst hh0;refine af ?_;refine dG 13 (fun hg=>?_) (fun hg=>?_)
   · have hg':=of_decide_eq_true hg;refine af ?_;exact aF rfl ⟨au rfl (by simp[hg']),sb rfl⟩
   · have hg':=of_decide_eq_false hg;refine af ?_;refine dG 17 (fun hg2=>?_) (fun hg2=>?_)
     · have hg2':=of_decide_eq_true hg2;refine af ?_;exact aF rfl ⟨au rfl (by simp[hg2']),sb rfl⟩
     · have hg2':=of_decide_eq_false hg2;refine af ?_;exact aF rfl ⟨au rfl (by simp only[decide_eq_decide];omega),sb rfl⟩
 · refine aR (fun hz=>?_) (fun hz=>?_)
   · refine af ?_;refine bp ?_;rw[dc,if_pos hz];exact⟨_,rfl,rfl,rfl⟩
   · obtain⟨k0,rfl⟩:=Int.eq_ofNat_of_zero_le (show 0<=a by omega);have hk0:k0<=s.length:=by omega
     have hma:dc d s (k0:Nat)=aK d (s.drop k0) 0 0 (0,-1):=by rw[dc,if_neg hz];rfl
     rw[hma];generalize htgt:aK d (s.drop k0) 0 0 (0,-1)=tgt
     rcases k with ⟨_,rfl⟩|⟨db,rfl,vn,vr,hk,⟨na,nn,nc,rfl,hnl,_,_,hgetn⟩,⟨ra,rn,rc,rfl,hrl,_,_,hgetr⟩⟩
     exact absurd (.inl rfl) hz;have hlen:=hok.len;have hsize:=hok.size;refine af ?_;refine NU (σ:=Int×Nat×Int×Int) (fun q=>[(0,.pointer (some ⟨db,0,none⟩)),(1,.string (bs s)),(2,.int .i64 (k0:Nat)),(6,.int .i64 q.2.2.1),(7,.int .i64 q.2.2.2),(8,.int .i64 (q.2.1:Nat)),(9,.int .i64 q.1)]) (fun q h'=>h'=h/\k0+q.2.1<=s.length/\(0<=q.1->q.1<d.next.length/\aK d (s.drop (k0+q.2.1)) q.1.toNat q.2.1 q.2.2=tgt)/\(q.1<0->(q.2.2.1,q.2.2.2,(q.2.1:Int))=tgt)) (fun q=>2*(s.length-(k0+q.2.1))+(if 0<=q.1 then 1 else 0)) ((0,0,0,-1)) ⟨rfl,by simpa using hk0,fun _=>⟨by show (0:Int)<_;omega,by simpa using htgt⟩,fun k=>absurd k (by decide)⟩ ?_;rintro⟨st,i,b1,b2⟩ g ⟨rfl,hki,hpos,hneg⟩ ih
     try dsimp only
     dsimp only at hki hpos hneg;refine af ?_;refine aR (fun hst=>?_) (fun hst=>?_)
     · obtain⟨hlt,hcon⟩:=hpos hst;obtain⟨j,rfl⟩:=Int.eq_ofNat_of_zero_le hst;have hcon:aK d (s.drop (k0+i)) j i (b1,b2)=tgt:=hcon;obtain⟨x,hx⟩:∃x,d.rule[j]? =some x:=⟨_,List.getElem?_eq_getElem (by omega)⟩
       have hru:d.ru j=x:=by unfold bG.ru;rw[List.getD_eq_getElem?_getD,hx];rfl
       obtain⟨b,o,cs,ha,_,hrow,rfl⟩:=hgetr j x hx;refine af ?_;refine xp rfl (aA rfl (hk.cell (i:=1) rfl)) ?_;refine aW ?_;refine xp rfl (cz rfl rfl j rfl ha) ?_;refine xp rfl (aA rfl (hrow 0 _ rfl)) ?_;refine af ?_
       have fin:∀(c1 c2:Int) (h':ai) (ρ':Env),Sub [(0,.pointer (some ⟨db,0,none⟩)),(1,.string (bs s)),(2,.int .i64 (k0:Nat)),(6,.int .i64 c1),(7,.int .i64 c2),(8,.int .i64 (i:Nat)),(9,.int .i64 (j:Nat))] ρ'->h'=g->(c1,c2)=(if 0<=d.ru j then ((i:Int),d.ru j) else (b1,b2))->G Tryz.prog 113 f113 [.code [1,0,1,0,0,1,0,1,1,1],.blk 1,.loop [0,0,1,0,1,1,1],.blk 0,.code [1,1,1,1]] ρ' h' (bw fun r h'=>r= .tuple #[.int .i64 tgt.1,.int .i64 tgt.2.1,.int .i64 tgt.2.2]/\h'=g):=by
        rintro c1 c2 g1 ρ' hsub rfl hc;refine G.sub (ρ':=[(0,.pointer (some ⟨db,0,none⟩)),(1,.string (bs s)),(2,.int .i64 (k0:Nat)),(6,.int .i64 c1),(7,.int .i64 c2),(8,.int .i64 (i:Nat)),(9,.int .i64 (j:Nat))]) hsub ?_;refine af ?_;refine aR (fun hend=>?_) (fun hend=>?_)
        · have hd:s.drop (k0+i)=[]:=List.drop_of_length_le (by omega);rw[hd,aK] at hcon
          have hcon:(c1,c2,(i:Int))=tgt:=by
           rw[<-hcon]
           by_cases h0:0<=d.ru j
           · rw[if_pos h0] at hc ⊢;cases hc;rfl
           · rw[if_neg h0] at hc ⊢;cases hc;rfl
          refine af ?_;refine bp ?_;exact⟨_,rfl,by rw[<-hcon];rfl,rfl⟩
        · have hki2:k0+i<s.length:=by omega
          have hd:s.drop (k0+i)=s[k0+i]::s.drop (k0+i+1):=List.drop_eq_getElem_cons hki2;rw[hd,aK,<-hc] at hcon;obtain⟨r,hr⟩:∃r,d.next[j]? =some r:=⟨_,List.getElem?_eq_getElem (by omega)⟩
          obtain⟨b3,o3,cs3,ha3,_,hrow3,rfl⟩:=hgetn j r hr;obtain⟨y,hy,he,_⟩:=r.at s[k0+i];have hc8:=s[k0+i].toNat_lt;have hto:d.to j s[k0+i]=y:=by unfold bG.to;rw[hr];exact he
          have hb:=bG.qH hok (s:=j) s[k0+i];rw[hto] at hcon hb;have hcell:cellAt g1 ⟨b3,o3+j*256+s[k0+i].toNat*1,none⟩=some (.int .i64 y):=by rw[Nat.mul_one];exact hrow3 _ _ (by simp[bP,hy])
          refine af ?_;refine cG rfl (aA rfl (hk.cell (i:=0) rfl)) ?_;refine af ?_;refine cG rfl (BA rfl rfl (k0+i) (by omega) (ia (List.getElem?_eq_getElem hki2))) ?_;refine cG rfl (cz rfl rfl j rfl ha3) ?_;refine cG rfl (zW rfl rfl s[k0+i].toNat rfl (by omega)) ?_;refine cG rfl (aA rfl hcell) ?_;refine af ?_;refine aR (fun hy0=>?_) (fun hy0=>?_)
          · rw[if_pos hy0] at hcon;obtain⟨j2,rfl⟩:=Int.eq_ofNat_of_zero_le hy0;refine af ?_;exact ih ((j2:Int),i+1,c1,c2) ⟨rfl,by show k0+(i+1)<=s.length;omega,fun _=>⟨hb.2,by show aK d (s.drop (k0+(i+1))) _ _ _=tgt;rw[show k0+(i+1)=k0+i+1 by omega];exact hcon⟩,fun k=>absurd k (by show ¬(j2:Int)<0;omega)⟩ (by show 2*(s.length-(k0+(i+1)))+(if (0:Int)<=(j2:Nat) then 1 else 0)<2*(s.length-(k0+i))+(if (0:Int)<=(j:Nat) then 1 else 0);rw[if_pos (by omega),if_pos (by omega)];omega)
          · rw[if_neg hy0] at hcon;refine af ?_;exact ih (y,i,c1,c2) ⟨rfl,hki,fun k=>absurd k hy0,fun _=>by show (c1,c2,(i:Int))=tgt;rw[<-hcon];by_cases h0:0<=d.ru j;(rw[if_pos h0] at hc ⊢;cases hc;rfl);(rw[if_neg h0] at hc ⊢;cases hc;rfl)⟩ (by show 2*(s.length-(k0+i))+(if (0:Int)<=y then 1 else 0)<2*(s.length-(k0+i))+(if (0:Int)<=(j:Nat) then 1 else 0);rw[if_neg hy0,if_pos (by omega)];omega)
       refine aR (fun hr=>?_) (fun hr=>?_)
       · refine cD ?_
         iterate 4 refine aW ?_
         refine cX ?_;exact fin _ _ _ _ (by exact sb rfl) rfl (by rw[hru,if_pos hr])
       · refine aX ?_;exact fin _ _ _ _ (by exact sb rfl) rfl (by rw[hru,if_neg hr])
     · have hcon:=hneg (by omega);refine af ?_;refine bp ?_;exact⟨_,rfl,by rw[<-hcon];rfl,rfl⟩
end
end Go.Proofs.YtoickfdopobmgaaGreatDoor
namespace Go.Proofs.YtoickfdopobmgaaGreatDoor
open Go
def AV (l:List Nat):By:=gH (l.map Int.ofNat)
theorem Jn {l m:List Nat}(h:AV l=AV m):l=m:=by
  have:=key_inj h
  have hi:∀a b:List Nat,a.map Int.ofNat=b.map Int.ofNat->a=b:=by
    intro a
    induction a with
    |nil=>intro b h;cases b with
      |nil=>rfl
      |cons y b=>simp at h
    |cons x a ih=>intro b h;cases b with
      |nil=>simp at h
      |cons y b =>
        simp only[List.map_cons,List.cons.injEq] at h;rw[ih b h.2];have:=h.1;simp only[Int.ofNat_eq_natCast] at this;rw[show x=y by omega]
  exact hi _ _ this
def pK:Nat->List (List Nat)->List Nat->Option Nat
  |_,[],_=>none
  |i,x::r,l=>if l=x then some i else pK (i+1) r l
theorem ql:∀(ls:List (List Nat)) (i j:Nat) (l:List Nat),pK i ls l=some j->i<=j/\ls[j-i]? =some l
  | [],i,j,l,h=>by cases h
  |x::r,i,j,l,h=>by
    rw[pK] at h;split at h
    · rename_i e;cases h;subst e;exact⟨Nat.le_refl _,by simp⟩
    · have:=ql r (i+1) j l h;refine⟨by omega,?_⟩;rw[show j-i=(j-(i+1))+1 by omega,List.getElem?_cons_succ];exact this.2
theorem wH:∀(ls:List (List Nat)) (i:Nat) (l:List Nat),pK i ls l=none->l∉ls
  | [],i,l,_=>List.not_mem_nil
  |x::r,i,l,h=>by
    rw[pK] at h;split at h
    · cases h
    · rename_i e;have:=wH r (i+1) l h;simp only[List.mem_cons,not_or];exact⟨e,this⟩
def dB (ss:List aZ) (cur:List Nat) (lists:List (List Nat)) (b:Nat):List (List Nat)×Int :=
  if (bV ss (UInt8.ofNat b) cur).length=0 then (lists,-1)
  else match pK 0 lists (bV ss (UInt8.ofNat b) cur) with
    |some i=>(lists,(i:Int))
    |none=>(lists++[bV ss (UInt8.ofNat b) cur],(lists.length:Int))
def mI (ss:List aZ) (cur:List Nat):Nat->Nat->List (List Nat)->List Int->List (List Nat)×List Int
  | 0,_,lists,row=>(lists,row)
  |n+1,b,lists,row=>mI ss cur n (b+1) (dB ss cur lists b).1 (row++[(dB ss cur lists b).2])
def kL (l:List Int):Row:=⟨(l++List.replicate 256 (-1)).take 256,by rw[List.length_take,List.length_append,List.length_replicate];omega⟩
theorem uA {l:List Int}(h:l.length=256):(kL l).v=l:=by
  unfold kL;simp only;rw[List.take_append_of_le_length (by omega),List.take_of_length_le (by omega)]
def lu (ss:List aZ):Nat->Nat->List (List Nat)->List Row->List Int->Option bG
  | 0,_,_,_,_=>none
  |n+1,k,lists,next,rule =>
    match lists[k]? with
    |none=>some ⟨next,rule⟩
    |some cur =>
      if 2000<(mI ss cur 256 0 lists []).1.length then none
      else lu ss n (k+1) (mI ss cur 256 0 lists []).1 (next++[kL (mI ss cur 256 0 lists []).2]) (rule++[aL ss cur])
def gC (ss:List aZ) (st:Nat):Int ⊕ bG :=
  if (bR ss st).length=0 then .inl 1
  else match lu ss 2002 0 [bR ss st] [] [] with
    |none=>.inl 70
    |some d=>.inr d
end Go.Proofs.YtoickfdopobmgaaGreatDoor
namespace Go.Proofs.YtoickfdopobmgaaGreatDoor
open Go Go.Lw
set_option maxRecDepth 20000
def PE (h:ai) (O:Nat->Prop) (cs:List Value) (x:List Nat):Prop:=∃v,cs=[v]/\aT iY h O v x
def EB:fQ (List Nat):=⟨1,by decide,PE,fun h=>by obtain⟨v,rfl,_⟩:=h;rfl,fun h=>by
    obtain⟨v,rfl,hv⟩:=h;intro u hu;simp at hu;subst hu;exact aT.L6 hv,fun h m=>by
    obtain⟨v,hc,hv⟩:=h;exact⟨v,hc,hv.mv m⟩⟩
def nH:Nat->List (List Nat)->List (ByteArray×Int)
  |_,[]=>[]
  |i,x::r=>(bs (AV x),(i:Int))::nH (i+1) r
theorem yR:∀(ls:List (List Nat)) (i:Nat) (l:List Nat),nH i (ls++[l])=nH i ls++[(bs (AV l),((i+ls.length:Nat):Int))]
  | [],i,l=>by simp[nH]
  |x::r,i,l=>by
    simp only[List.cons_append,nH];rw[yR r (i+1) l,List.length_cons,show i+1+r.length=i+(r.length+1) by omega]
theorem xA:∀(ls:List (List Nat)) (i:Nat) (l:List Nat),mg (bs (AV l)) (nH i ls)=(pK i ls l).map fun j=>(j:Int)
  | [],i,l=>rfl
  |x::r,i,l=>by
    rw[nH,mg,pK]
    by_cases h:l=x
    · subst h;rw[if_pos rfl,if_pos rfl];rfl
    · have hk:¬bs (AV l)=bs (AV x):=fun e=>h (Jn (bl e))
      rw[if_neg hk,if_neg h];exact xA r (i+1) l
theorem Dk {h:ai}{O:Nat->Prop}{v:Value}{l:List Nat}(k:aT iY h O v l):aT (.int .i64) h O v (l.map Int.ofNat):=by
  obtain⟨oa,n,c,rfl,hl,hnc,hc,hg⟩:=k;refine⟨oa,n,c,rfl,by simpa using hl,hnc,hc,fun i x hx=>?_⟩;rw[List.getElem?_map] at hx;cases hs:l[i]? with
  |none=>rw[hs] at hx;cases hx
  |some s =>
    rw[hs] at hx;simp only[Option.map_some,Option.some.injEq] at hx;subst hx;obtain⟨b,o,cs,h1,h2,h3,h4⟩:=hg i s hs;exact⟨b,o,cs,h1,h2,h3,h4⟩
structure jd (h0 h:ai) (C:Nat->Prop) (db mb:Nat) (vl vn vr:Value) (lists:List (List Nat)) (next:List Row) (rule:List Int):Prop where
  ext:aj h0 h
  dblk:aD h db 143 [vn,vr]
  nx:mh 256 bP h h0.size 147 vn next
  ru:bN (Value.int .i64) h h0.size 3 vr rule
  mp:fK Value.string (Value.int .i64) h mb (nH 0 lists)
  ls:cH EB (fun b=>¬C b) h h0.size 121 vl lists
  cty:∀b,C b->de h b 3
  cr:∀b,vr.ownBlock=some b->¬C b
  dge:h0.size<=db
  mge:h0.size<=mb
section
variable {h0 h:ai}{C:Nat->Prop}{db mb:Nat}{vl vn vr:Value}{lists:List (List Nat)}{next:List Row}{rule:List Int}
theorem jd.I9 (k:jd h0 h C db mb vl vn vr lists next rule):∀b,vl.ownBlock=some b->de h b 121:=fun b hb=>by
  obtain⟨css,_,h2,_⟩:=k.ls;exact h2.ty hb
theorem jd.GH (k:jd h0 h C db mb vl vn vr lists next rule):∀b,vn.ownBlock=some b->de h b 147:=fun _ hb=>aB.ty k.nx hb
theorem jd.Fp (k:jd h0 h C db mb vl vn vr lists next rule):∀b,vr.ownBlock=some b->de h b 3:=fun _ hb=>aB.ty k.ru hb
theorem jd.R8 (k:jd h0 h C db mb vl vn vr lists next rule):∀b,vl.ownBlock=some b->h0.size<=b:=fun b hb=>by
  obtain⟨css,_,h2,_⟩:=k.ls;exact(h2.lt hb).1
theorem jd.ah {h':ai}(k:jd h0 h C db mb vl vn vr lists next rule) (e:aj h h'):jd h0 h' C db mb vl vn vr lists next rule :=
  ⟨k.ext.trans e,k.dblk.ah e,mh.ah k.nx e,bN.ah k.ru e,k.mp.ext e (fun k=>k),k.ls.ah e,fun b hb=>(k.cty b hb).ext e (fun k=>k),k.cr,k.dge,k.mge⟩
theorem jd.put {h':ai}{x:Nat}(k:jd h0 h C db mb vl vn vr lists next rule) (e:Ext (fun b=>b=x) h h') (hx:de h x 147) (hn:vn.ownBlock≠some x) (hge:h0.size<=x):jd h0 h' C db mb vl vn vr lists next rule:=by
  have hd:¬db=x:=k.dblk.ty.ne hx (by decide);have hm:¬mb=x:=k.mp.ne hx;have hl:∀b,vl.ownBlock=some b->¬b=x:=fun b hb=>(k.I9 b hb).ne hx (by decide)
  have hr:∀b,vr.ownBlock=some b->¬b=x:=fun b hb=>(k.Fp b hb).ne hx (by decide)
  have hc:∀b,C b->¬b=x:=fun b hb=>(k.cty b hb).ne hx (by decide)
  exact⟨aj.only k.ext e hge,k.dblk.ext e hd,aB.ext e k.nx (fun b hb hbx=>hn (by subst hbx;exact hb)),aB.ext e k.ru hr,k.mp.ext e hm,
    k.ls.qD e hl (fun b _ hb hC=>hc b hC hb) (fun _ _ k=>k),fun b hb=>(k.cty b hb).ext e (hc b hb),k.cr,k.dge,k.mge⟩
end
section
variable {h0 h:ai}{C:Nat->Prop}{db mb:Nat}{vl vn vr:Value}{lists:List (List Nat)}{next:List Row}{rule:List Int}
theorem jd.MF {g3 g4:ai}{v3:Value}{r:Row}{n:Nat}(k:jd h0 h C db mb vl vn vr lists next rule) (hn:n=next.length) (ho:aB g3 h0.size 147 256 v3 (n+1) (next.flatMap bP++bP r)) (hx:Ext (cv vn.ownBlock) h g3) (hd:aD g4 db 143 [v3,vr]) (x4:Ext (fun b=>b=db) g3 g4) :
    jd h0 g4 C db mb vl v3 vr lists (next++[r]) rule:=by
  have nne:∀{b:Nat}{t:TypeId},de h b t->147≠t->¬cv vn.ownBlock b:=fun kt ht e=>(k.GH _ e.symm).ne kt ht rfl
  have d3:=k.dblk.ext hx (nne k.dblk.ty (by decide));have dne:∀{b:Nat}{t:TypeId},de g3 b t->143≠t->¬b=db:=fun kt ht e=>by subst e;exact d3.ty.ne kt ht rfl
  have mne:¬cv vn.ownBlock mb:=fun e=>k.mp.ne (k.GH _ e.symm) rfl
  have hm3:=k.mp.ext hx mne;have hdlt:=k.dblk.lt;have ru3:=aB.ext hx k.ru (fun b hb=>nne (k.Fp b hb) (by decide));have ls3:cH EB (fun b=>¬C b) g3 h0.size 121 vl lists:=k.ls.qD hx (fun b hb=>nne (k.I9 b hb) (by decide)) (fun b _ hb hC=>nne (k.cty b hC) (by decide) hb) (fun _ _ k=>k);have lty3:∀b,vl.ownBlock=some b->de g3 b 121:=fun b hb=>(k.I9 b hb).ext hx (nne (k.I9 b hb) (by decide))
  have cty3:∀b,C b->de g3 b 3:=fun b hb=>(k.cty b hb).ext hx (nne (k.cty b hb) (by decide))
  refine⟨⟨by have:=k.ext.size;have:=hx.size;have:=x4.size;omega,fun b hb kk=>?_⟩,hd,?_,aB.ext x4 ru3 (fun b hb=>dne (aB.ty ru3 hb) (by decide)),hm3.ext x4 (hm3.ne d3.ty),ls3.qD x4 (fun b hb=>dne (lty3 b hb) (by decide)) (fun b _ hb hC=>dne (cty3 b hC) (by decide) hb) (fun _ _ k=>k),fun b hb=>(cty3 b hb).ext x4 (dne (cty3 b hb) (by decide)),k.cr,k.dge,k.mge⟩
  · rw[x4.block b (by have:=k.ext.size;have:=hx.size;omega) (by have:=k.dge;omega),hx.block b (by have:=k.ext.size;omega) (fun e=>by have:=(aB.lt k.nx e.symm).1;omega)];exact k.ext.block b hb kk
  · exact aB.ext x4 (mh.of ho hn rfl) (fun b hb=>dne (aB.ty ho hb) (by decide))
theorem jd.ME {g3 g4:ai}{v3:Value}{x:Int}{n:Nat}(k:jd h0 h C db mb vl vn vr lists next rule) (hn:n=rule.length) (ho:aB g3 h0.size 3 1 v3 (n+1) (rule.map (Value.int .i64)++[.int .i64 x])) (hx:Ext (cv vr.ownBlock) h g3) (hv:∀b,v3.ownBlock=some b->vr.ownBlock=some b\/h.size<=b) (hd:aD g4 db 143 [vn,v3]) (x4:Ext (fun b=>b=db) g3 g4) :
    jd h0 g4 C db mb vl vn v3 lists next (rule++[x]):=by
  have nne:∀{b:Nat}{t:TypeId},de h b t->3≠t->¬cv vr.ownBlock b:=fun kt ht e=>(k.Fp _ e.symm).ne kt ht rfl
  have cne:∀{b:Nat},C b->¬cv vr.ownBlock b:=fun hC e=>k.cr _ e.symm hC
  have d3:=k.dblk.ext hx (nne k.dblk.ty (by decide));have dne:∀{b:Nat}{t:TypeId},de g3 b t->143≠t->¬b=db:=fun kt ht e=>by subst e;exact d3.ty.ne kt ht rfl
  have mne:¬cv vr.ownBlock mb:=fun e=>k.mp.ne (k.Fp _ e.symm) rfl
  have hm3:=k.mp.ext hx mne;have nx3:=aB.ext hx k.nx (fun b hb=>nne (k.GH b hb) (by decide));have ls3:cH EB (fun b=>¬C b) g3 h0.size 121 vl lists:=k.ls.qD hx (fun b hb=>nne (k.I9 b hb) (by decide)) (fun b _ hb hC=>cne hC hb) (fun _ _ k=>k);have lty3:∀b,vl.ownBlock=some b->de g3 b 121:=fun b hb=>(k.I9 b hb).ext hx (nne (k.I9 b hb) (by decide))
  have cty3:∀b,C b->de g3 b 3:=fun b hb=>(k.cty b hb).ext hx (cne hb)
  refine⟨⟨by have:=k.ext.size;have:=hx.size;have:=x4.size;omega,fun b hb kk=>?_⟩,hd,aB.ext x4 nx3 (fun b hb=>dne (aB.ty nx3 hb) (by decide)),?_,hm3.ext x4 (hm3.ne d3.ty),ls3.qD x4 (fun b hb=>dne (lty3 b hb) (by decide)) (fun b _ hb hC=>dne (cty3 b hC) (by decide) hb) (fun _ _ k=>k),fun b hb=>(cty3 b hb).ext x4 (dne (cty3 b hb) (by decide)),fun b hb hC=>?_,k.dge,k.mge⟩
  · rw[x4.block b (by have:=k.ext.size;have:=hx.size;omega) (by have:=k.dge;omega),hx.block b (by have:=k.ext.size;omega) (fun e=>by have:=(aB.lt k.ru e.symm).1;omega)];exact k.ext.block b hb kk
  · exact aB.ext x4 (bN.of (ys:=[x]) ho hn rfl rfl) (fun b hb=>dne (aB.ty ho hb) (by decide))
  · rcases hv b hb with e|e
    · exact k.cr b e hC
    · have:=(k.cty b hC).lt;omega
end
def Bv (res:Int ⊕ bG) (h':ai) (r:Value):Prop:=match res with
  |.inl e=>r= .tuple #[.pointer none,.int .i64 e]
  |.inr d=>∃db,r= .tuple #[.pointer (some ⟨db,0,none⟩),.int .i64 0]/\pR h' db d
end Go.Proofs.YtoickfdopobmgaaGreatDoor
namespace Go.Proofs.YtoickfdopobmgaaGreatDoor
open Go.Proofs.Tryz
open Go Go.Lw
set_option maxRecDepth 20000 set_option maxHeartbeats 4000000
theorem C1 {h:ai}{O:Nat->Prop}{nb:Nat}{v:Value}{ss:List aZ}{st:Nat}(htens:rM h) (hn:bO h O nb v ss st) (hgood:Good ss) (hss:ss.length<=30000) (hst:st<ss.length) (hpot1:1+tn ss (List.replicate ss.length false)<=1000000)
 (hpot:∀c now,List.Sublist now (List.range ss.length)->(stepG ss c now []).length+tn ss (List.replicate ss.length false)<=1000000) :
 aq Tryz.prog 30 #[.pointer (some ⟨nb,0,none⟩)] h (bw fun r h'=>Bv (gC ss st) h' r/\aj h h'):=by
 generalize hres:gC ss st=res
 have hint:∀l:List Nat,l.Sublist (List.range ss.length)->(l.map Int.ofNat).length<=1000000/\∀n∈l.map Int.ofNat,-9223372036854775808<=n/\n<=9223372036854775807:=fun l hl=>by
  have h1:=hl.length_le;rw[List.length_range] at h1;refine⟨by rw[List.length_map];omega,fun n hn=>?_⟩;obtain⟨j,hj,rfl⟩:=List.mem_map.1 hn;have:=List.mem_range.1 (hl.subset hj);simp only[Int.ofNat_eq_natCast];omega
 refine bL ?_;refine af ?_;refine xo rfl (aE rfl (BY hn hgood (by omega) (.inr hst) hpot1)) ?_;rintro w4 h1 ⟨ho1,e1⟩;have hsub0:=DR ss st;generalize hl0:bR ss st=l0 at *;have hi0:=hint l0 hsub0;obtain⟨wa,wc,rfl,_⟩:=(show aB h1 h.size 3 1 w4 l0.length (l0.map dZ) from ho1).open;refine af ?_;refine aR (fun hz=>?_) (fun hz=>?_)
 · refine af ?_;refine bp ?_;have:res= .inl 1:=by rw[<-hres,gC,hl0,if_pos (by omega)]
   subst this;exact⟨_,rfl,rfl,e1⟩
 · have hres':res=match lu ss 2002 0 [l0] [] [] with|none=>.inl 70|some d=>.inr d:=by rw[<-hres,gC,hl0,if_neg (by omega)]<;>rfl
   refine af ?_;refine xp rfl (av (H.J7 ) rfl) ?_;refine xo rfl (jj) ?_;rintro _ h2 ⟨rfl,k2,e2,z2⟩;refine af ?_;refine xo rfl (oA (ek:=Value.string) (ev:=Value.int .i64)) ?_;rintro _ h3 ⟨rfl,hm3,e3,z3⟩;have k2:aD h2 h1.size 143 [.slice none 0 0,.slice none 0 0]:=k2;have e13:=e2.trans e3;have hz1:=e1.size;refine af ?_;refine xo rfl (aE rfl (sr ((htens.ah e1).ah e13) (Dk (aT.mv (bN.read (O:=fun _=>False) (h1:=fun _=>rfl) ho1 (fun _ _ k=>k)) (Mv.ah e13))) hi0.1 hi0.2)) ?_;rintro _ h4 ⟨rfl,e4⟩;have hm4:=hm3.ext e4 (fun k=>k);have z4:=e4.size;refine aM rfl (xO (v:=(0:Int)) kB.str underlying145 underlying9 rfl rfl rfl rfl rfl hm4 (rfl:mg (bs (gH (l0.map Int.ofNat))) []=none)) ?_;rintro _ h5 ⟨rfl,hm5,x5,z5⟩;have hm5:fK Value.string (Value.int .i64) h5 h2.size (nH 0 [l0]):=hm5;have e05:aj h h5:=aj.only ((e1.trans e13).trans e4) x5 (by omega);have ho5:bN dZ h5 h.size 3 (.slice wa l0.length wc) l0:=aB.ext x5 (bN.ah (bN.ah ho1 e13) e4) (fun b hb (e:b=h2.size)=>by have:=(aB.lt ho1 hb).2;omega);have k5:aD h5 h1.size 143 [.slice none 0 0,.slice none 0 0]:=((k2.ah e3).ah e4).ext x5 (by show ¬_=_;omega);refine af ?_;refine xo rfl (iL [_]) ?_;rintro _ _ ⟨rfl,rfl⟩;refine af ?_;have e56:aj h5 (h5.push (.cells #[.slice wa l0.length wc] 121)):=Ext.push _ _ _
   have ls6:cH EB (fun b=>¬cv (Value.slice wa l0.length wc).ownBlock b) (h5.push (.cells #[.slice wa l0.length wc] 121)) h.size 121 (.slice (some ⟨h5.size,0,none⟩) 1 1) [l0] :=
    cH.pG (e:=EB) (cs:=[.slice wa l0.length wc]) ⟨_,rfl,aB.LZ (h1:=fun _=>rfl) ho5 (fun b hb k=>k hb.symm)⟩ e05.size
   generalize h5.push (.cells #[.slice wa l0.length wc] 121)=h6 at *
   have mk6:jd h h6 (cv (Value.slice wa l0.length wc).ownBlock) h1.size h2.size (.slice (some ⟨h5.size,0,none⟩) 1 1) (.slice none 0 0) (.slice none 0 0) [l0] [] [] :=
    ⟨e05.trans e56,k5.ah e56,mh.nil _ _ _ _ _,bN.nil _ _ _ _,hm5.ext e56 (fun k=>k),ls6,fun b hb=>de.ext (aB.ty ho5 hb.symm) e56 (fun k=>k),fun b hb=>(by cases hb),hz1,by omega⟩
   refine NU (σ:=Nat×Value) (fun q=>[(0,.pointer (some ⟨nb,0,none⟩)),(5,.pointer (some ⟨h1.size,0,none⟩)),(6,.map (some h2.size)),(7,q.2),(8,.int .i64 (q.1:Nat))]) (fun q h'=>∃C vn vr lists next rule,jd h h' C h1.size h2.size q.2 vn vr lists next rule/\q.1<=lists.length/\lists.length<=2000/\(next.length=q.1/\rule.length=q.1)/\(∀l∈lists,l.Sublist (List.range ss.length))/\res=(match lu ss (2002-q.1) q.1 lists next rule with|none=>.inl 70|some d=>.inr d)) (fun q=>2002-q.1) ((0,.slice (some ⟨h5.size,0,none⟩) 1 1)) ⟨_,_,_,[l0],[],[],mk6,Nat.zero_le _,by simp,⟨rfl,rfl⟩,fun l hl=>by simp at hl;subst hl;exact hsub0,hres'⟩ ?_;rintro⟨i,vl⟩ g ⟨C,vn,vr,lists,next,rule,mk,hi,hl2,⟨hnl,hrl⟩,hsl,hcon⟩ ih
   try dsimp only
   dsimp only at mk hi hnl hrl hcon;obtain⟨css,hc1,hc2,hc3⟩:=id mk.ls;obtain⟨la,lc,rfl,_⟩:=hc2.open;have hng:bO g O nb v ss st:=hn.ah mk.ext (fun _ _ k=>k);have mkg:=mk;refine af ?_;refine aR (fun hlt=>?_) (fun hlt=>?_)
   · have hil:i<lists.length:=by omega
     obtain⟨cur,hcur⟩:∃cur,lists[i]? =some cur:=⟨_,List.getElem?_eq_getElem hil⟩
     have hcsub:=hsl cur (List.mem_of_getElem? hcur);obtain⟨n,hnn⟩:∃n,2002-i=n+1:=⟨2001-i,by omega⟩
     rw[hnn,lu,hcur] at hcon;simp only at hcon;generalize hrow:mI ss cur 256 0 lists []=tgt at hcon;refine af ?_;refine xo rfl (cO) ?_;rintro _ g1 ⟨rfl,kz,ez,zz⟩;have kz:aD g1 g.size 147 (([]:List Int).map (Value.int .i64)++List.replicate (256-0) (Value.int .i64 0)):=kz;have KP:=mk.ah ez;have hvz:vn.ownBlock≠some g.size:=fun e=>by have:=(mk.GH _ e).lt;omega
     refine af ?_;refine NU (σ:=Nat×Value) (fun q=>[(0,.pointer (some ⟨nb,0,none⟩)),(5,.pointer (some ⟨h1.size,0,none⟩)),(6,.map (some h2.size)),(7,q.2),(8,.int .i64 (i:Nat)),(9,.pointer (some ⟨g.size,0,none⟩)),(33,.int .i64 (q.1:Nat))]) (fun q h'=>∃C lists' row,jd h h' C h1.size h2.size q.2 vn vr lists' next rule/\(q.1<=256/\row.length=q.1/\lists'.length<=2000+q.1)/\aD h' g.size 147 (row.map (Value.int .i64)++List.replicate (256-q.1) (Value.int .i64 0))/\lists'[i]? =some cur/\(∀l∈lists',l.Sublist (List.range ss.length))/\mI ss cur (256-q.1) q.1 lists' row=tgt) (fun q=>256-q.1) ((0,.slice la lists.length lc)) ⟨C,lists,[],KP,⟨Nat.zero_le _,rfl,by simp;omega⟩,kz,hcur,hsl,hrow⟩ ?_;rintro⟨b,vl⟩ g2 ⟨C,lists,row,mk,⟨hb,hrlen,hlb⟩,kz,hcur,hsl,hrow⟩ ih2
     try dsimp only
     dsimp only at mk hb hrlen hlb kz hrow;have hng:bO g2 O nb v ss st:=hn.ah mk.ext (fun _ _ k=>k);refine af ?_;refine aR (fun hb256=>?_) (fun hb256=>?_)
     · obtain⟨m,hm⟩:∃m,256-b=m+1:=⟨255-b,by omega⟩
       rw[hm,mI] at hrow;obtain⟨g',c',cs,hv',_,_,hrowv,_,⟨w,rfl,hw⟩,_⟩:=mk.ls.put hcur;subst hv';have hnlt:∀j∈cur,j<ss.length:=fun j hj=>List.mem_range.1 (hcsub.subset hj)
       have hcl:=hcsub.length_le;rw[List.length_range] at hcl;have hub:(UInt8.ofNat b).toNat=b:=by simp;omega
       have hwr:aT iY g2 (fun _=>False) w cur:=rN hw (fun _ k=>k.elim);have hstep:=DQ (UInt8.ofNat b) hng hgood (by omega) hwr hnlt (by omega) (hpot _ _ hcsub);rw[hub] at hstep;have hlsub:=Gh ss (UInt8.ofNat b) cur
       iterate 4 refine aX ?_
       refine cD ?_
       iterate 2 refine aW ?_
       refine cX ?_;refine aX ?_;refine cD ?_
       iterate 3 refine aW ?_
       refine xp rfl (cz rfl rfl i rfl rfl (by have:=(List.getElem?_eq_some_iff.1 hcur).1;omega)) ?_;refine xp rfl (aA rfl (hrowv 0 _ rfl)) ?_;refine aW ?_;refine xp rfl (Qb rfl (wrap_u8 ⟨by omega,by omega⟩)) ?_;refine xo rfl (aE rfl hstep) ?_;rintro w11 g3 ⟨ho3,e3⟩;generalize hl:bV ss (UInt8.ofNat b) cur=l at *;have hsN:dB ss cur lists b=if l.length=0 then (lists,-1) else match pK 0 lists l with|some i=>(lists,(i:Int))|none=>(lists++[l],(lists.length:Int)):=by unfold dB;rw[hl]<;>rfl
       have hil:=hint l hlsub;obtain⟨l11a,l11c,rfl,_⟩:=(show aB g3 g2.size 3 1 w11 l.length (l.map dZ) from ho3).open;have mk3:=mk.ah e3;have kz3:=kz.ah e3;have hkey:∀{gg:ai},aj g3 gg->aq Tryz.prog 55 #[.slice l11a l.length l11c] gg (bw fun r h'=>r= .string (bs (AV l))/\aj gg h'):=fun e=>sr (htens.ah (mk3.ext.trans e)) (Dk (aT.mv (bN.read (O:=fun _=>False) (h1:=fun _=>rfl) ho3 (fun _ _ k=>k)) (Mv.ah e))) hil.1 hil.2
       refine af ?_;refine xo rfl (aE rfl (hkey (Ext.refl _ _))) ?_;rintro _ g4 ⟨rfl,e4⟩;have mk4:=mk3.ah e4;have kz4:=kz3.ah e4;refine xp rfl (ay.vQ (z:=.int .i64 0) kB.str underlying145 underlying9 (by kernel_rfl) rfl rfl rfl mk4.mp) ?_;rw[xA];refine af ?_
       have fin:∀(to:Int) (vl2:Value) (h':ai) (ρ':Env),Sub [(0,.pointer (some ⟨nb,0,none⟩)),(5,.pointer (some ⟨h1.size,0,none⟩)),(6,.map (some h2.size)),(7,vl2),(8,.int .i64 (i:Nat)),(9,.pointer (some ⟨g.size,0,none⟩)),(10,.int .i64 (b:Nat)),(12,.int .i64 to),(33,.int .i64 (b:Nat))] ρ'->(∃C2,jd h h' C2 h1.size h2.size vl2 vn vr (dB ss cur lists b).1 next rule)->to=(dB ss cur lists b).2->aD h' g.size 147 (row.map (Value.int .i64)++List.replicate (256-b) (Value.int .i64 0))->G Tryz.prog 30 f30 [.code [1,1,1,1,0,0,1,1,0,0,1,0,1,0,0,1,0,0,1,0,1,1,1,1,1,1],.blk 3,.code [1,1,1,0,0,1,0,1,0,0,1,0,0,1,0,1,1,1,1,1,1],.loop [0,0,1,0,1,0,0,1,0,0,1,0,1,1,1,1,1,1],.blk 2,.code [1,1,0,0,1,0,0,1,0,1,1,1,1,1,1],.blk 1,.code [1,1,0,0,1,0,1,1,1,1,1,1],.loop [0,0,1,0,1,1,1,1,1,1],.blk 0,.code [1,1,1,1,1,1,1]] ρ' h' (bw fun r h'=>Bv res h' r/\aj h h'):=by
        rintro to vl2 g5 ρ' hsub ⟨C2,mk5⟩ hto kz5;refine G.sub (ρ':=[(0,.pointer (some ⟨nb,0,none⟩)),(5,.pointer (some ⟨h1.size,0,none⟩)),(6,.map (some h2.size)),(7,vl2),(8,.int .i64 (i:Nat)),(9,.pointer (some ⟨g.size,0,none⟩)),(10,.int .i64 (b:Nat)),(12,.int .i64 to),(33,.int .i64 (b:Nat))]) hsub ?_
        have hrs:(dB ss cur lists b).1.length<=lists.length+1/\(dB ss cur lists b).1[i]? =some cur/\∀x∈(dB ss cur lists b).1,x.Sublist (List.range ss.length):=by
         rw[hsN];split
         · exact⟨Nat.le_succ _,hcur,hsl⟩
         · split
           · exact⟨Nat.le_succ _,hcur,hsl⟩
           · refine⟨by simp,by rw[List.getElem?_append_left (List.getElem?_eq_some_iff.1 hcur).1];exact hcur,fun x hx=>?_⟩
             rcases List.mem_append.1 hx with k|k
             · exact hsl x k
             · have:x=l:=by simpa using k
               rw[this];exact hlsub
        have hcells:(row.map (Value.int .i64)++List.replicate (256-b) (Value.int .i64 0)).length=256:=by simp[hrlen];omega
        have hset:(row.map (Value.int .i64)++List.replicate (256-b) (Value.int .i64 0)).set (0+b*1) (.int .i64 to)=(row++[to]).map (Value.int .i64)++List.replicate (256-(b+1)) (Value.int .i64 0):=by
         rw[Nat.zero_add,Nat.mul_one,List.set_append_right _ _ (by simp;omega),show 256-b=(256-(b+1))+1 by omega,List.replicate_succ];have:b-(row.map (Value.int .i64)).length=0:=by simp;omega
         rw[this,List.set_cons_zero];simp
        have hblt:0+b*1<(row.map (Value.int .i64)++List.replicate (256-b) (Value.int .i64 0)).length:=by rw[hcells];omega
        refine cD ?_
        iterate 2 refine aW ?_
        refine xp rfl (zW rfl rfl b rfl (by omega)) ?_;refine aM rfl (bX H.nD rfl rfl rfl (kz5.cell (List.getElem?_eq_getElem hblt)) kz5.nf) ?_;rintro _ g6 ⟨rfl,hg6⟩;have k6:=kz5.set (0+b*1) (.int .i64 to);rw[<-hg6,hset] at k6;have x6:Ext (fun y=>y=g.size) g5 g6:=by rw[hg6];exact Ext.dV _ _ _ rfl
        have hzge:h.size<=g.size:=mkg.ext.size;have mk6:=mk5.put x6 kz5.ty hvz hzge;refine af ?_;exact ih2 (b+1,vl2) ⟨C2,_,row++[to],mk6,⟨by show b+1<=256;omega,by simp[hrlen],by show _<=2000+(b+1);omega⟩,k6,hrs.2.1,hrs.2.2,by show mI ss cur (256-(b+1)) (b+1) _ _=tgt;rw[show 256-(b+1)=m by omega,hto];exact hrow⟩
       refine aR (fun hz11=>?_) (fun hz11=>?_)
       · have hl0':l.length=0:=by omega
         refine cD ?_;refine aW ?_;refine cX ?_;refine aX ?_;exact fin (-1) _ _ _ (by exact sb rfl) (by rw[hsN,if_pos hl0'];exact⟨C,mk4⟩) (by rw[hsN,if_pos hl0']) kz4
       · have hl0':¬l.length=0:=by omega
         rcases hfind:pK 0 lists l with _|j
         · refine af ?_;refine fF rfl (by simp) ?_;refine af ?_;refine xo rfl (aE rfl (hkey e4)) ?_;rintro _ g5 ⟨rfl,e5⟩;have mk5:=mk4.ah e5;have hnone:mg (bs (AV l)) (nH 0 lists)=none:=by rw[xA,hfind];rfl
           refine af ?_;refine aM rfl (aQ.mapUpdate (v:=(lists.length:Int)) kB.str underlying145 underlying9 rfl rfl rfl rfl rfl mk5.mp hnone) ?_;rintro _ g6 ⟨rfl,hm6,x6,z6⟩;have hm6:fK Value.string (Value.int .i64) g6 h2.size (nH 0 (lists++[l])):=by rw[yR,Nat.zero_add];exact hm6
           have mapne:∀{b:Nat}{t:TypeId},de g5 b t->¬b=h2.size:=fun k e=>mk5.mp.ne k e.symm
           have e35:=e4.trans e5;have ho5w:bN dZ g5 g2.size 3 (.slice l11a l.length l11c) l:=bN.ah ho3 e35;have kz5:=kz4.ah e5;have kz6:=kz5.ext x6 (mapne kz5.ty);have d6:=mk5.dblk.ext x6 (mapne mk5.dblk.ty);have nx6:=aB.ext x6 mk5.nx (fun b hb=>mapne (mk5.GH b hb));have ru6:=aB.ext x6 mk5.ru (fun b hb=>mapne (mk5.Fp b hb));have ho6w:bN dZ g6 g2.size 3 (.slice l11a l.length l11c) l:=aB.ext x6 ho5w (fun b hb=>mapne (aB.ty ho5w hb))
           have ls6:cH EB (fun b=>¬(C b\/cv (Value.slice l11a l.length l11c).ownBlock b)) g6 h.size 121 (.slice (some ⟨g',0,none⟩) lists.length c') lists :=
            mk5.ls.qD x6 (fun b hb=>mapne (mk5.I9 b hb)) (fun b _ hb hC=>mapne (mk5.cty b hC) hb) (fun b _ hb hC=>hb (.inl hC))
           have lty6:de g6 g' 121:=(mk5.I9 g' rfl).ext x6 (mapne (mk5.I9 g' rfl));obtain⟨css,hc1,hc2,hc3⟩:=id ls6;have hz5:=mk5.ext.size;have hz2g:=mk.ext.size;refine af ?_;refine xo rfl (iL [_]) ?_;rintro _ _ ⟨rfl,rfl⟩;refine xo rfl (uH rfl rfl hc2 rfl rfl) ?_;rintro v7 g7 ⟨ho7,hx7,hx7',hv7⟩
           have lne:∀{b:Nat}{t:TypeId},de g6 b t->121≠t->¬cv (Value.slice (some ⟨g',0,none⟩) lists.length c').ownBlock b:=fun k ht e=>by
            simp only[cv,Value.ownBlock,Option.some.injEq] at e;subst e;exact lty6.ne k ht rfl
           have hsz3:=e3.size;have hsz35:=e35.size;have ty6:∀{b:Nat}{t:TypeId},de g5 b t->de g6 b t:=fun k=>k.ext x6 (mapne k)
           have hls7:cH EB (fun b=>¬(C b\/cv (Value.slice l11a l.length l11c).ownBlock b)) g7 h.size 121 v7 (lists++[l]) :=
            cH.gq (h:=g6) (v:=.slice (some ⟨g',0,none⟩) lists.length c') (css:=css) (cs:=[.slice l11a l.length l11c]) hc1 hc3 ho7 hx7 hv7 ⟨_,rfl,aB.LZ (h1:=fun _=>rfl) ho6w (fun b hb k=>by
             rcases k with k|k
             · exact lne (aB.ty ho6w hb) (by decide) k
             · exact k (.inr hb.symm))⟩
           have hmb6:¬cv (Value.slice (some ⟨g',0,none⟩) lists.length c').ownBlock h2.size:=fun e=>by
            simp only[cv,Value.ownBlock,Option.some.injEq] at e;exact hm6.ne (e▸lty6) rfl
           have hext7:aj h g7:=⟨by have:=hx7.size;omega,fun b hb k=>by
            rw[hx7.block b (by omega) (fun e=>by
             simp only[cv,Value.ownBlock,Option.some.injEq] at e;have:=mk5.R8 g' rfl;omega),x6.block b (by omega) (by have:=mk5.mge;omega)]
            exact mk5.ext.block b hb k⟩
           have mk7:jd h g7 (fun b=>C b\/cv (Value.slice l11a l.length l11c).ownBlock b) h1.size h2.size v7 vn vr (lists++[l]) next rule :=
            ⟨hext7,d6.ext hx7 (lne d6.ty (by decide)),aB.ext hx7 nx6 (fun b hb=>lne (aB.ty nx6 hb) (by decide)),aB.ext hx7 ru6 (fun b hb=>lne (aB.ty ru6 hb) (by decide)),hm6.ext hx7 hmb6,hls7,
             fun b hb=>by
              rcases hb with hb|hb
              · exact de.ext (ty6 (mk5.cty b hb)) hx7 (lne (ty6 (mk5.cty b hb)) (by decide))
              · exact de.ext (aB.ty ho6w hb.symm) hx7 (lne (aB.ty ho6w hb.symm) (by decide)),
             fun b hb hC=>by
              rcases hC with hC|hC
              · exact mk5.cr b hb hC
              · have h1':=(mk.Fp b hb).lt;have h2':=(aB.lt ho6w hC.symm).1;omega,mk5.dge,mk5.mge⟩
           obtain⟨v7a,v7c,rfl,_⟩:=ho7.open;refine aW ?_;refine cX ?_;refine aX ?_;exact fin (lists.length:Int) _ _ _ (by exact sb rfl) (by rw[hsN,if_neg hl0',hfind];exact⟨_,mk7⟩) (by rw[hsN,if_neg hl0',hfind]) (kz6.ext hx7 (lne kz6.ty (by decide)))
         · have hj:=ql lists 0 j l hfind;refine af ?_;refine fe rfl (by simp) ?_
           iterate 2 refine aX ?_
           exact fin (j:Int) _ _ _ (by exact sb rfl) (by rw[hsN,if_neg hl0',hfind];exact⟨C,mk4⟩) (by rw[hsN,if_neg hl0',hfind]) kz4
     · obtain rfl:b=256:=by omega
       rw[Nat.sub_self,mI] at hrow;subst hrow;simp only at hcon;obtain⟨css2,hd1,hd2,hd3⟩:=id mk.ls;obtain⟨la2,lc2,rfl,_⟩:=hd2.open;have hencr:bP (kL row)=row.map (Value.int .i64):=by rw[bP,uA hrlen]
       rw[Nat.sub_self,List.replicate_zero,List.append_nil,<-hencr] at kz;refine af ?_;refine aR (fun hbigl=>?_) (fun hbigl=>?_)
       · rw[if_pos (by omega)] at hcon;refine af ?_;refine bp ?_;exact⟨_,rfl,by rw[hcon];rfl,mk.ext⟩
       · rw[if_neg (by omega)] at hcon
         have nne:∀{b:Nat}{t:TypeId},de g2 b t->147≠t->¬(cv vn.ownBlock b\/Array.size g2<=b):=fun kt ht e=>by
          rcases e with e|e
          · exact(mk.GH _ e.symm).ne kt ht rfl
          · have:=kt.lt;omega
         have hzM:¬(cv vn.ownBlock g.size\/Array.size g2<=g.size):=by
          rintro(e|e)
          · exact hvz e.symm
          · have:=kz.lt;omega
         have hdM:=nne mk.dblk.ty (by decide);have hnx:aB g2 h.size 147 256 vn next.length (next.flatMap bP):=mk.nx
         have hone:∀u∈bP (kL row),u.oneCell'=true:=fun u hu=>by simp[bP] at hu;obtain⟨_,_,rfl⟩:=hu;rfl
         have hg2:=mk.ext.size;refine af ?_;refine me 11 (fun b=>cv vn.ownBlock b\/Array.size g2<=b) (fun i=>Nat.blt i 10) ?_;refine aI 0 ?_;refine aI 1 ?_;refine aI 2 ?_;refine aI 3 ?_;refine bI 4 rfl (fun h' e=>aA rfl (e.cell hdM (mk.dblk.cell (i:=0) rfl))) ?_;refine bI 5 rfl (fun h' e=>bY rfl (e.rowAt hzM kz.row)) ?_;refine dH 6 rfl (aQ.xe (cs:=bP (kL row)) underlying141 H.FK rfl (mU _) (by decide)) ?_;rintro _ _ ⟨rfl,rfl⟩;refine⟨fun _=>(Ext.push _ _ _),?_⟩;refine dH 7 rfl (aQ.zP underlying141 H.FK rfl rfl hnx rfl (by simp) hone (by simp only[maxLen];omega) (by omega) hg2) ?_;rintro v3 g3 ⟨ho3,hx3,hx3',hv3⟩;refine⟨fun _=>hx3'.mono (fun _ _ k=>.inl k),?_⟩;obtain⟨a3,c3,rfl,_⟩:=ho3.open;refine LS 8 ?_;refine aI 9 ?_;refine kX 10 rfl (mj rfl rfl ((mk.dblk.ext hx3 (fun e=>hdM (.inl e))))) ?_;rintro _ g4 ⟨rfl,k4,x4,z4⟩;refine⟨nofun,?_⟩;have mk4:=mk.MF (r:=kL row) rfl ho3 hx3 k4 x4;obtain⟨g',c',cs,hv',_,_,hrowv,_,⟨w,rfl,hw⟩,_⟩:=mk4.ls.put hcur;cases hv';have hng4:bO g4 O nb v ss st:=hn.ah mk4.ext (fun _ _ k=>k);have hwr:aT iY g4 (fun _=>False) w cur:=rN hw (fun _ k=>k.elim);have hnlt:∀j∈cur,j<ss.length:=fun j hj=>List.mem_range.1 (hcsub.subset hj)
         have hcl:=hcsub.length_le;rw[List.length_range] at hcl
         have rne:∀{b:Nat}{t:TypeId},de g4 b t->3≠t->¬(cv vr.ownBlock b\/Array.size g4<=b):=fun kt ht e=>by
          rcases e with e|e
          · exact(mk4.Fp _ e.symm).ne kt ht rfl
          · have:=kt.lt;omega
         have hdM4:=rne mk4.dblk.ty (by decide);have hlM4:=rne (mk4.I9 g' rfl) (by decide);have hru:aB g4 h.size 3 1 vr rule.length (rule.map (Value.int .i64)):=mk4.ru;have hg4s:=mk4.ext.size;have hli:i<lists.length:=(List.getElem?_eq_some_iff.1 hcur).1;refine iT ?_;refine me 16 (fun b=>cv vr.ownBlock b\/Array.size g4<=b) (fun i=>Nat.blt i 15) ?_;refine aI 0 ?_;refine aI 1 ?_;refine aI 2 ?_;refine aI 3 ?_;refine bI 4 rfl (fun h' e=>aA rfl (e.cell hdM4 (mk4.dblk.cell (i:=1) rfl))) ?_;refine aI 5 ?_;refine aI 6 ?_;refine aI 7 ?_;refine bI 8 rfl (fun h' e=>cz rfl rfl i rfl rfl) ?_;refine bI 9 rfl (fun h' e=>aA rfl (e.cell hlM4 (hrowv 0 _ rfl))) ?_;refine dH 10 rfl (aE rfl (yB hng4 (by omega) hwr hnlt (by omega))) ?_;rintro _ g5 ⟨rfl,hg5⟩;refine⟨fun _=>by subst hg5;exact Ext.refl _ _,?_⟩;subst hg5;refine dH 11 rfl (iL [_]) ?_;rintro _ _ ⟨rfl,rfl⟩;refine⟨fun _=>by first|exact Ext.push _ _ _|assumption,?_⟩;refine dH 12 rfl (uH rfl rfl hru rfl rfl) ?_;rintro v6 g6 ⟨ho6,hx6,hx6',hv6⟩;refine⟨fun _=>hx6'.mono (fun _ _ k=>.inl k),?_⟩;obtain⟨a6,c6,rfl,_⟩:=ho6.open;refine LS 13 ?_;refine aI 14 ?_;refine kX 15 rfl (mj rfl rfl ((mk4.dblk.ext hx6 (fun e=>hdM4 (.inl e))))) ?_;rintro _ g7 ⟨rfl,k7,x7,z7⟩;refine⟨nofun,?_⟩;have mk7:=mk4.ME (x:=aL ss cur) rfl ho6 hx6 hv6 k7 x7;refine iT ?_;refine af ?_;exact ih (i+1,_) ⟨C,_,_,lists,next++[kL row],rule++[aL ss cur],mk7,by show i+1<=lists.length;omega,by omega,⟨by simp[hnl],by simp[hrl]⟩,hsl,by rw[hcon,show 2002-(i+1)=n by omega]⟩
   · have hie:i=lists.length:=by omega
     have hnone:lists[i]? =none:=List.getElem?_eq_none (by omega);obtain⟨n,hnn⟩:∃n,2002-i=n+1:=⟨2001-i,by omega⟩
     rw[hnn,lu,hnone] at hcon;simp only at hcon;refine af ?_;refine bp ?_;refine⟨_,rfl,?_,mk.ext⟩;rw[hcon];exact⟨h1.size,rfl,vn,vr,mk.dblk,mh.read mk.nx (fun _ _ k=>k),bN.read (h1:=fun _=>rfl) mk.ru (fun _ _ k=>k)⟩
end Go.Proofs.YtoickfdopobmgaaGreatDoor
namespace Go.Proofs.YtoickfdopobmgaaGreatDoor
open Go
def bG.row (d:bG) (k:Nat):List Int:=match d.next[k]? with|some r=>r.v|none=>[]
def gx (out:List Bool) (t:Int):Bool:=decide (0<=t) && out.getD t.toNat false
def dx (d:bG) (out:List Bool) (k:Nat):Bool:=decide (0<=d.ru k) ||(d.row k).any (gx out)
def bQ (d:bG):Nat->Nat->List Bool->Bool->List Bool×Bool
  | 0,_,out,ag=>(out,ag)
  |n+1,k,out,ag=>if out.getD k false=true then bQ d n (k+1) out ag else bQ d n (k+1) (out.set k (dx d out k)) (ag ||dx d out k)
def gz (out:List Bool):Nat:=(out.filter fun b=> !b).length
def qU (d:bG):Nat->List Bool->List Bool
  | 0,out=>out
  |n+1,out=>if (bQ d d.next.length 0 out false).2=true then qU d n (bQ d d.next.length 0 out false).1 else (bQ d d.next.length 0 out false).1
def bg (d:bG):List Bool:=qU d (d.next.length+1) (List.replicate d.next.length false)
theorem wL:∀(out:List Bool) (k:Nat) (b:Bool),out[k]? =some false->gz (out.set k b)+(if b then 1 else 0)=gz out
  | [],k,b,h=>by simp at h
  |x::r,0,b,h=>by simp at h;subst h;cases b<;>simp[gz]
  |x::r,k+1,b,h=>by
    have:=wL r k b (by simpa using h);unfold gz at this ⊢;rw[List.set_cons_succ];cases x<;>simp at this ⊢ <;>omega
theorem gO (d:bG):∀(n k:Nat) (out:List Bool) (ag:Bool),(bQ d n k out ag).1.length=out.length
  | 0,_,_,_=>rfl
  |n+1,k,out,ag=>by
    rw[bQ];split
    · exact gO d n _ _ _
    · rw[gO d n];simp
theorem iH (d:bG):∀(n k:Nat) (out:List Bool) (ag:Bool),k+n<=out.length->gz (bQ d n k out ag).1<=gz out/\((bQ d n k out ag).2=true->ag=true\/gz (bQ d n k out ag).1<gz out)
  | 0,_,out,ag,_=>⟨Nat.le_refl _,fun h=>.inl h⟩
  |n+1,k,out,ag,hk=>by
    rw[bQ];split
    · exact iH d n (k+1) out ag (by omega)
    · rename_i h
      have hf:out[k]? =some false:=by
        rw[List.getD_eq_getElem?_getD,List.getElem?_eq_getElem (by omega)] at h;rw[List.getElem?_eq_getElem (by omega)];simpa using h
      have h1:=wL out k (dx d out k) hf;have h2:=iH d n (k+1) (out.set k (dx d out k)) (ag ||dx d out k) (by simp;omega);refine⟨by omega,fun ht=>?_⟩
      rcases h2.2 ht with h3|h3
      · cases hb:dx d out k with
        |true=>rw[hb,if_pos rfl] at h1;right;rw[hb] at h2;omega
        |false=>rw[hb,Bool.or_false] at h3;exact .inl h3
      · right;omega
end Go.Proofs.YtoickfdopobmgaaGreatDoor
namespace Go.Proofs.YtoickfdopobmgaaGreatDoor
open Go.Proofs.Tryz
open Go Go.Lw
set_option maxRecDepth 20000 set_option maxHeartbeats 4000000
theorem Cj (r:Row):over (List.replicate 256 (Value.int .i64 0)) 0 (bP r)=bP r:=by
 unfold over;rw[List.take_zero,List.nil_append,mU,List.drop_of_length_le (by simp),List.append_nil]
theorem Eh {h:ai}{db:Nat}{d:bG}(k:pR h db d) (hok:d.Ok) :
 aq Tryz.prog 59 #[.pointer (some ⟨db,0,none⟩)] h (bw fun r h'=>bN Value.bool h' h.size 4 r (bg d)/\aj h h'):=by
 obtain⟨vn,vr,hk,⟨na,nn,nc,rfl,hnl,hnc,hnm,hgetn⟩,⟨ra,rn,rc,rfl,hrl,hrc,hrm,hgetr⟩⟩:=k;have hlen:=hok.len;have hsize:=hok.size;have hslN:aT FM h (fun _=>False) (.slice na nn nc) d.next:=⟨_,_,_,rfl,hnl,hnc,hnm,hgetn⟩
 have hslR:aT (.int .i64) h (fun _=>False) (.slice ra rn rc) d.rule:=⟨_,_,_,rfl,hrl,hrc,hrm,hgetr⟩
 subst hnl;generalize htgt:bg d=tgt;refine bL ?_;refine af ?_;refine xp rfl (aA rfl (hk.cell (i:=0) rfl)) ?_;refine af ?_;refine xo rfl (aQ.qT underlying151 H.Rl H.Q5 rfl rfl rfl (by omega) (by decide)) ?_;rintro _ h1 ⟨rfl,k1,e1⟩;have k1:bN Value.bool h1 h.size 4 (.slice (some ⟨h.size,0,none⟩) d.next.length d.next.length) (List.replicate d.next.length false):=by unfold bN;simpa using k1
 have hf0:gz (List.replicate d.next.length false)<=d.next.length:=by unfold gz;exact Nat.le_trans (List.length_filter_le _ _) (by simp)
 refine af ?_;refine gY (σ:=Nat×Bool×List Bool) (fun q=>[(4,.bool q.2.1)]) (fun q h'=>aj h h'/\bN Value.bool h' h.size 4 (.slice (some ⟨h.size,0,none⟩) d.next.length d.next.length) q.2.2/\q.2.2.length=d.next.length/\(q.2.1=true->gz q.2.2<q.1/\qU d q.1 q.2.2=tgt)/\(q.2.1=false->q.2.2=tgt)) (fun q=>q.1+(if q.2.1 then 1 else 0)) ((d.next.length+1,true,List.replicate d.next.length false)) ⟨e1,k1,by simp,fun _=>⟨Nat.lt_succ_of_le hf0,htgt⟩,fun k=>(by cases k)⟩ rfl ?_;rintro⟨n,ag,out⟩ g ⟨eg,ho,hol,hT,hF⟩ ih
 try dsimp only
 dsimp only at ho hol hT hF;refine af ?_;refine iM (fun hag=>?_) (fun hag=>?_)
 · subst hag;obtain⟨hfn,hcon⟩:=hT rfl;obtain⟨n,rfl⟩:∃m,n=m+1:=⟨n-1,by omega⟩
   rw[qU] at hcon;have hless:=iH d d.next.length 0 out false (by omega)
   generalize hps:bQ d d.next.length 0 out false=ps at hcon hless
   refine af ?_;refine xp rfl (aA rfl ((hk.ah eg).cell (i:=0) rfl)) ?_;refine af ?_;refine gY (σ:=Nat×Bool×List Bool) (fun q=>[(4,.bool q.2.1),(21,.int .i64 (q.1:Nat))]) (fun q h'=>aj h h'/\bN Value.bool h' h.size 4 (.slice (some ⟨h.size,0,none⟩) d.next.length d.next.length) q.2.2/\q.2.2.length=d.next.length/\q.1<=d.next.length/\bQ d (d.next.length-q.1) q.1 q.2.2 q.2.1=ps) (fun q=>d.next.length-q.1) ((0,false,out)) ⟨eg,ho,hol,Nat.zero_le _,hps⟩ rfl ?_;rintro⟨k,ag,out⟩ g2 ⟨eg2,ho,hol,hkl,hcon2⟩ ih2
   try dsimp only
   dsimp only at ho hol hkl hcon2;refine af ?_;refine aR (fun hlt=>?_) (fun hlt=>?_)
   · have hkN:k<d.next.length:=by omega
     obtain⟨m,hm⟩:∃m,d.next.length-k=m+1:=⟨d.next.length-k-1,by omega⟩
     rw[hm,bQ] at hcon2;obtain⟨r,hr⟩:∃r,d.next[k]? =some r:=⟨_,List.getElem?_eq_getElem hkN⟩
     obtain⟨oa',n',c',hv',_,_,_,hgetn⟩:=id (hslN.mv (Mv.ah eg2));cases hv';obtain⟨b1,o1,cs1,ha1,_,hrow1,rfl⟩:=hgetn k r hr;have hone:∀u∈bP r,u.oneCell'=true:=fun u hu=>by simp[bP] at hu;obtain⟨_,_,rfl⟩:=hu;rfl
     obtain⟨bx,hbx⟩:∃bx,out[k]? =some bx:=⟨_,List.getElem?_eq_getElem (by omega)⟩
     have hgd:out.getD k false=bx:=by rw[List.getD_eq_getElem?_getD,hbx];rfl
     rw[hgd] at hcon2
     iterate 4 refine aX ?_
     refine cD ?_;refine aW ?_;refine xp rfl (cz rfl rfl k rfl ha1) ?_;refine xp rfl (bY rfl hrow1) ?_;refine xo rfl (cO) ?_;rintro _ g3 ⟨rfl,k6,e3,z3⟩;have k6:aD g3 g2.size 147 (List.replicate 256 (Value.int .i64 0)):=k6;refine af ?_;refine aM rfl (aY rfl rfl k6 hone) ?_;rintro _ g4 ⟨rfl,k7,x7,z7⟩;have k7:aD g4 g2.size 147 (bP r):=by rw[<-Cj r];exact k7
     have e4:aj g2 g4:=aj.only e3 x7 (Nat.le_refl _);have eg4:=eg2.trans e4;have ho4:=bN.ah ho e4;obtain⟨gg,c4,hv4,hgb,hglt,hcell,hfz,hset⟩:=ho4.at hbx;rw[hol] at hv4;cases hv4;refine cX ?_
     iterate 2 refine aX ?_
     refine cD ?_
     iterate 2 refine aW ?_
     refine xp rfl (cz rfl rfl k rfl rfl) ?_;refine xp rfl (aA rfl hcell) ?_;refine af ?_;refine iM (fun hb=>?_) (fun hb=>?_)
     · subst hb;rw[if_pos rfl] at hcon2;refine af ?_;exact ih2 (k+1,ag,out) ⟨eg4,ho4,hol,hkN,by show bQ d (d.next.length-(k+1)) _ _ _=ps;rw[show d.next.length-(k+1)=m by omega];exact hcon2⟩
     · subst hb;rw[if_neg (by decide)] at hcon2;obtain⟨x,hx⟩:∃x,d.rule[k]? =some x:=⟨_,List.getElem?_eq_getElem (by omega)⟩
       have hru:d.ru k=x:=by unfold bG.ru;rw[List.getD_eq_getElem?_getD,hx];rfl
       have hrow:d.row k=r.v:=by unfold bG.row;rw[hr]
       obtain⟨oa',n',c',hv',_,_,_,hgetr⟩:=id (hslR.mv (Mv.ah eg4));cases hv';obtain⟨b2,o2,cs2,ha2,_,hrow2,rfl⟩:=hgetr k x hx;refine af ?_;refine xp rfl (aA rfl ((hk.ah eg4).cell (i:=1) rfl)) ?_;refine aW ?_;refine xp rfl (cz rfl rfl k rfl ha2) ?_;refine xp rfl (aA rfl (hrow2 0 _ rfl)) ?_;refine aW ?_;refine xp rfl (cz rfl rfl k rfl rfl) ?_;refine aM rfl (bX H.Mz rfl rfl rfl hcell hfz) ?_;rintro _ g5 ⟨rfl,hg5⟩;have hset:=hset (decide (0<=x));rw[<-hg5] at hset;have x5:Ext (fun b=>b=h.size) g4 g5:=by rw[hg5];exact Ext.dV _ _ _ rfl
       have e5:aj h g5:=aj.only eg4 x5 (Nat.le_refl _);have hz2:=eg2.size;have hlt2:h.size<g2.size:=(aB.lt ho rfl).2;have k8:=k7.ext x5 (by show ¬_=_;omega);refine af ?_;refine xp rfl (bY rfl k8.row) ?_;refine af ?_;refine gY (σ:=Nat) (fun j=>[(42,.int .i64 (j:Nat))]) (fun j h'=>aj h h'/\bN Value.bool h' h.size 4 (.slice (some ⟨h.size,0,none⟩) d.next.length d.next.length) (out.set k (decide (0<=x) ||(r.v.take j).any (gx out)))/\j<=256) (fun j=>256-j) (0) ⟨e5,by simpa using hset,Nat.zero_le _⟩ rfl ?_;rintro j g6 ⟨eg6,ho6,hj⟩ ih3;refine af ?_;refine aR (fun hlt3=>?_) (fun hlt3=>?_)
       · have hj2:j<256:=by omega
         obtain⟨t,ht⟩:∃t,r.v[j]? =some t:=⟨_,List.getElem?_eq_getElem (by rw[r.len];exact hj2)⟩
         have htr:(r.v.take (j+1)).any (gx out)=((r.v.take j).any (gx out) ||gx out t):=by rw[List.take_add_one,ht,List.any_append];simp
         have htm:=hok.to r (List.mem_of_getElem? hr) t (List.mem_of_getElem? ht);generalize hc:(decide (0<=x) ||(r.v.take j).any (gx out))=cb at ho6;have hcell6:(out.set k cb)[k]? =some cb:=by rw[List.getElem?_set_self (by rw[hol];exact hkN)]
         obtain⟨gg,c6,hv6,_,_,hcc6,hfz6,hset6⟩:=ho6.at hcell6;rw[List.length_set,hol] at hv6;cases hv6
         have fin:∀y g7,y=(decide (0<=x) ||(r.v.take (j+1)).any (gx out))->g7=dV g6 ⟨h.size,0+k*1,none⟩ (.bool y)->aj h g7/\bN Value.bool g7 h.size 4 (.slice (some ⟨h.size,0,none⟩) d.next.length d.next.length) (out.set k (decide (0<=x) ||(r.v.take (j+1)).any (gx out)))/\j+1<=256:=by
          rintro y g7 rfl rfl;have k9:=hset6 (decide (0<=x) ||(r.v.take (j+1)).any (gx out));rw[List.set_set] at k9;exact⟨aj.only eg6 (Ext.dV (M:=fun b=>b=h.size) g6 _ _ rfl) (Nat.le_refl _),k9,hj2⟩
         refine af ?_;refine xp rfl (ay.wv underlying147 H.nD H.NO rfl rfl j rfl hj2 (show (bP r).toArray[j]? =some (Value.int .i64 t) by simp[bP,ht])) ?_;refine aW ?_;refine cX ?_;refine cD ?_
         iterate 4 refine aW ?_
         refine xp rfl (cz rfl rfl k rfl rfl) ?_;refine xp rfl (aA rfl hcc6) ?_;refine af ?_;refine dG 51 (fun hg=>?_) (fun hg=>?_)
         · iterate 8 refine PG ?_
           refine aW ?_;refine xp rfl (cz rfl rfl k rfl rfl) ?_;refine aM rfl (bX H.Mz rfl rfl rfl hcc6 hfz6) ?_;rintro _ g7 ⟨rfl,hg7⟩;refine af ?_;exact ih3 (j+1) (fin true g7 (by rw[htr,<-Bool.or_assoc,hc,hg];rfl) hg7)
         · refine af ?_;refine dG 54 (fun hg2=>?_) (fun hg2=>?_)
           · have hg2':=of_decide_eq_true hg2;obtain⟨t2,rfl⟩:=Int.eq_ofNat_of_zero_le hg2';obtain⟨bt,hbt⟩:∃bt,(out.set k cb)[t2]? =some bt:=⟨_,List.getElem?_eq_getElem (by rw[List.length_set,hol];omega)⟩
             obtain⟨gg,c6,hv6,_,_,hct,_,_⟩:=ho6.at hbt;rw[List.length_set,hol] at hv6;cases hv6
             have hlt2:gx out (t2:Nat)=bt:=by
              unfold gx;rw[decide_eq_true (show (0:Int)<=(t2:Nat) by omega),Bool.true_and,Int.toNat_natCast,List.getD_eq_getElem?_getD]
              by_cases e:k=t2
              · subst e;rw[hcell6] at hbt;cases hbt;rw[hbx,hg];rfl
              · rw[List.getElem?_set_ne e] at hbt;rw[hbt];rfl
             iterate 2 refine aW ?_
             refine xp rfl (cz rfl rfl t2 rfl rfl) ?_;refine xp rfl (aA rfl hct) ?_
             iterate 2 refine aW ?_
             refine xp rfl (cz rfl rfl k rfl rfl) ?_;refine aM rfl (bX H.Mz rfl rfl rfl hcc6 hfz6) ?_;rintro _ g7 ⟨rfl,hg7⟩;refine af ?_;exact ih3 (j+1) (fin bt g7 (by rw[htr,<-Bool.or_assoc,hc,hg,hlt2,Bool.false_or]) hg7)
           · have hg2':=of_decide_eq_false hg2
             iterate 4 refine PG ?_
             iterate 2 refine aW ?_
             refine xp rfl (cz rfl rfl k rfl rfl) ?_;refine aM rfl (bX H.Mz rfl rfl rfl hcc6 hfz6) ?_;rintro _ g7 ⟨rfl,hg7⟩;refine af ?_;exact ih3 (j+1) (fin false g7 (by rw[htr,<-Bool.or_assoc,hc,hg];unfold gx;rw[decide_eq_false hg2'];rfl) hg7)
       · have hje:j=256:=by omega
         have hla:(decide (0<=x) ||(r.v.take j).any (gx out))=dx d out k:=by
          unfold dx;rw[hru,hrow,hje,List.take_of_length_le (by rw[r.len];exact Nat.le_refl _)]
         rw[hla] at ho6;have hcell6:(out.set k (dx d out k))[k]? =some (dx d out k):=by rw[List.getElem?_set_self (by rw[hol];exact hkN)]
         obtain⟨gg,c6,hv6,_,_,hcc6,hfz6,_⟩:=ho6.at hcell6;rw[List.length_set,hol] at hv6;cases hv6;refine aX ?_;refine fL [(4,.bool (ag ||dx d out k))] rfl ?_ ?_
         · refine af ?_;refine dG 64 (fun hg=>?_) (fun hg=>?_)
           · refine af ?_;exact aF rfl ⟨au rfl (by rw[hg];rfl),sb rfl⟩
           · iterate 2 refine aW ?_
             refine xp rfl (cz rfl rfl k rfl rfl) ?_;refine xp rfl (aA rfl hcc6) ?_;refine af ?_;exact aF rfl ⟨au rfl (by rw[hg];rfl),sb rfl⟩
         · refine af ?_;exact ih2 (k+1,ag ||dx d out k,out.set k (dx d out k)) ⟨eg6,ho6,by show (out.set k _).length=_;rw[List.length_set];exact hol,hkN,by show bQ d (d.next.length-(k+1)) _ _ _=ps;rw[show d.next.length-(k+1)=m by omega];exact hcon2⟩
   · have hke:d.next.length-k=0:=by omega
     rw[hke,bQ] at hcon2;subst hcon2;simp only at hcon hless;refine af ?_
     exact ih (n,ag,out) ⟨eg2,ho,hol,fun ht=>by
      subst ht;rw[if_pos rfl] at hcon
      rcases hless.2 rfl with k|k
      · cases k
      · exact⟨by show gz out<n;omega,hcon⟩,fun hf=>by
      subst hf;rw[if_neg (by decide)] at hcon;exact hcon⟩ (by show n+(if ag=true then 1 else 0)<n+1+(if true=true then 1 else 0);rw[if_pos rfl];split<;>omega)
 · subst hag;have hcon:=hF rfl;refine af ?_;refine bp ?_;exact⟨_,rfl,by rw[<-hcon];unfold bN at ho ⊢;rw[hol] at ho ⊢;exact ho,eg⟩
end Go.Proofs.YtoickfdopobmgaaGreatDoor
namespace Go.Proofs.YtoickfdopobmgaaGreatDoor
open Go
def kN:Nat->List (List Int)->List Int->Option Nat
  |_,[],_=>none
  |i,x::r,l=>if l=x then some i else kN (i+1) r l
theorem qn:∀(ls:List (List Int)) (i j:Nat) (l:List Int),kN i ls l=some j->i<=j/\ls[j-i]? =some l
  | [],i,j,l,h=>by cases h
  |x::r,i,j,l,h=>by
    rw[kN] at h;split at h
    · rename_i e;cases h;subst e;exact⟨Nat.le_refl _,by simp⟩
    · have:=qn r (i+1) j l h;refine⟨by omega,?_⟩;rw[show j-i=(j-(i+1))+1 by omega,List.getElem?_cons_succ];exact this.2
def b9 (live:List Bool) (cls:List Int) (t:Int):Int:=if t<0\/live.getD t.toNat false=false then -2 else cls.getD t.toNat 0
def fk (d:bG) (live:List Bool) (cls:List Int) (k:Nat):List Int:=cls.getD k 0::(d.row k).map (b9 live cls)
def aV (d:bG) (live:List Bool) (cls:List Int):Nat->Nat->List (List Int)->List Int->List (List Int)×List Int
  | 0,_,seen,after=>(seen,after)
  |n+1,k,seen,after =>
    match kN 0 seen (fk d live cls k) with
    |some i=>aV d live cls n (k+1) seen (after++[(i:Int)])
    |none=>aV d live cls n (k+1) (seen++[fk d live cls k]) (after++[(seen.length:Int)])
def lC (d:bG) (live:List Bool):Nat->Nat->List Int->List Int
  | 0,_,cls=>cls
  |n+1,many,cls =>
    if (aV d live cls d.next.length 0 [] []).1.length=many then (aV d live cls d.next.length 0 [] []).2
    else lC d live n (aV d live cls d.next.length 0 [] []).1.length (aV d live cls d.next.length 0 [] []).2
def dS (d:bG) (live:List Bool):List Int:=lC d live (d.next.length+1) 0 d.rule
def kC (m:Nat) (l:List Int):Prop:=∀i,i<m->(i:Int)∈l
theorem qp:∀(m:Nat) (l:List Int),kC m l->m<=l.length
  | 0,_,_=>Nat.zero_le _
  |m+1,l,h=>by
    have hm:=h m (Nat.lt_succ_self m);have h1:kC m (l.erase (m:Int)):=fun i hi=>(List.mem_erase_of_ne (by omega)).2 (h i (by omega))
    have h2:=qp m _ h1;have h3:=List.length_erase_of_mem hm;have h4:0<l.length:=List.length_pos_of_mem hm;omega
structure EU (d:bG) (live:List Bool) (cls:List Int) (k:Nat) (seen:List (List Int)) (after:List Int):Prop where
  len:after.length=k
  size:seen.length<=k
  nums:kC seen.length after
  bound:∀x∈after,0<=x/\x<seen.length
  all:∀j,j<k->fk d live cls j∈seen
theorem mX {d:bG}{live:List Bool}{cls:List Int}:∀(n k:Nat) (seen:List (List Int)) (after:List Int),EU d live cls k seen after->EU d live cls (k+n) (aV d live cls n k seen after).1 (aV d live cls n k seen after).2
  | 0,k,seen,after,h=>h
  |n+1,k,seen,after,h=>by
    rw[aV,show k+(n+1)=(k+1)+n by omega];split
    · rename_i i hi;have hi':=qn seen 0 i _ hi;have hil:=(List.getElem?_eq_some_iff.1 hi'.2).1
      exact mX n (k+1) _ _ ⟨by simp[h.len],by have:=h.size;omega,fun j hj=>List.mem_append_left _ (h.nums j hj),fun x hx=>by
        rcases List.mem_append.1 hx with e|e
        · exact h.bound x e
        · have:x=(i:Int):=by simpa using e
          rw[this];omega,fun j hj=>by
        by_cases e:j=k
        · subst e;exact List.mem_of_getElem? hi'.2
        · exact h.all j (by omega)⟩
    · exact mX n (k+1) _ _ ⟨by simp[h.len],by have:=h.size;simp;omega,fun j hj=>by
        simp only[List.length_append,List.length_singleton] at hj
        by_cases e:j=seen.length
        · subst e;simp
        · exact List.mem_append_left _ (h.nums j (by omega)),fun x hx=>by
        simp only[List.length_append,List.length_singleton]
        rcases List.mem_append.1 hx with e|e
        · have:=h.bound x e;omega
        · have:x=(seen.length:Int):=by simpa using e
          omega,fun j hj=>by
        by_cases e:j=k
        · subst e;simp
        · exact List.mem_append_left _ (h.all j (by omega))⟩
theorem eP (d:bG) (live:List Bool) (cls:List Int):EU d live cls d.next.length (aV d live cls d.next.length 0 [] []).1 (aV d live cls d.next.length 0 [] []).2:=by
  have:=mX (d:=d) (live:=live) (cls:=cls) d.next.length 0 [] [] ⟨rfl,Nat.le_refl _,fun i hi=>absurd hi (Nat.not_lt_zero _),fun x hx=>(by cases hx),fun j hj=>absurd hj (Nat.not_lt_zero _)⟩
  rwa [Nat.zero_add] at this
theorem oq {d:bG}{live:List Bool}{cls:List Int}{many:Nat}(hc:kC many cls) (hl:cls.length=d.next.length):many<=(aV d live cls d.next.length 0 [] []).1.length:=by
  have h:=eP d live cls
  have:kC many ((aV d live cls d.next.length 0 [] []).1.map fun s=>s.getD 0 0):=fun i hi=>by
    obtain⟨k,hk⟩:=List.getElem?_of_mem (hc i hi);have hkl:=(List.getElem?_eq_some_iff.1 hk).1;have:=h.all k (by omega);refine List.mem_map.2 ⟨_,this,?_⟩;simp[fk,List.getD_eq_getElem?_getD,hk]
  have:=qp _ _ this;simpa using this
end Go.Proofs.YtoickfdopobmgaaGreatDoor
namespace Go.Proofs.YtoickfdopobmgaaGreatDoor
open Go.Proofs.Tryz
open Go Go.Lw
set_option maxRecDepth 20000 set_option maxHeartbeats 4000000
section
variable {live:List Bool}{cls:List Int}
def gZ:Nat->List (List Int)->List (ByteArray×Int)
 |_,[]=>[]
 |i,x::r=>(bs (gH x),(i:Int))::gZ (i+1) r
theorem ve:∀(ls:List (List Int)) (i:Nat) (l:List Int),gZ i (ls++[l])=gZ i ls++[(bs (gH l),((i+ls.length:Nat):Int))]
 | [],i,l=>by simp[gZ]
 |x::r,i,l=>by
  simp only[List.cons_append,gZ];rw[ve r (i+1) l,List.length_cons,show i+1+r.length=i+(r.length+1) by omega]
theorem rY:∀(ls:List (List Int)) (i:Nat),(gZ i ls).length=ls.length
 | [],_=>rfl
 |x::r,i=>by rw[gZ,List.length_cons,List.length_cons,rY r (i+1)]
theorem l7:∀(ls:List (List Int)) (i:Nat) (l:List Int),mg (bs (gH l)) (gZ i ls)=(kN i ls l).map fun j=>(j:Int)
 | [],i,l=>rfl
 |x::r,i,l=>by
  rw[gZ,mg,kN]
  by_cases h:l=x
  · subst h;rw[if_pos rfl,if_pos rfl];rfl
  · have hk:¬bs (gH l)=bs (gH x):=fun e=>h (key_inj (bl e))
    rw[if_neg hk,if_neg h];exact l7 r (i+1) l
theorem xq {t:Int}(h:t<0\/live.getD t.toNat false=false):b9 live cls t= -2:=if_pos h
theorem EM {t:Int}(h:¬(t<0\/live.getD t.toNat false=false)):b9 live cls t=cls.getD t.toNat 0:=if_neg h
theorem tH (hcb:∀x∈cls,-1<=x/\x<=1000000) (k:Nat) : -1<=cls.getD k 0/\cls.getD k 0<=1000000:=by
 rw[List.getD_eq_getElem?_getD];cases hk:cls[k]? with
 |none=>simp
 |some x=>exact hcb x (List.mem_of_getElem? hk)
theorem Ap {d:bG}(hcb:∀x∈cls,-1<=x/\x<=1000000) (k:Nat):∀x∈fk d live cls k,-9223372036854775808<=x/\x<=9223372036854775807:=by
 intro x hx
 rcases List.mem_cons.1 hx with e|e
 · have:=tH hcb k;omega
 · obtain⟨t,_,rfl⟩:=List.mem_map.1 e;unfold b9;split
   · omega
   · have:=tH hcb t.toNat;omega
theorem wI:∀(ls:List (List Int)) (i:Nat) (l:List Int),kN i ls l=none->kN i (ls++[l]) l=some (i+ls.length)
 | [],i,l,_=>by simp[kN]
 |x::r,i,l,h=>by
  rw[kN] at h;split at h
  · cases h
  · rename_i hn;rw[List.cons_append,kN,if_neg hn,wI r (i+1) l h,List.length_cons]
    congr 1;omega
theorem yx {h:ai}{db:Nat}{d:bG}{lv:Value}(htens:rM h) (k:pR h db d) (hok:d.Ok) (hlv:aT .bool h (fun _=>False) lv live) (hll:live.length=d.next.length) :
 aq Tryz.prog 60 #[.pointer (some ⟨db,0,none⟩),lv] h (bw fun r h'=>bN (Value.int .i64) h' h.size 3 r (dS d live)/\aj h h'):=by
 obtain⟨vn,vr,hk,⟨na,nn,nc,rfl,hnl,hnc,hnm,hgetn⟩,⟨ra,rn,rc,rfl,hrl,hrc,hrm,hgetr⟩⟩:=k;obtain⟨va,vm,vc,rfl,hvl,hvc,hvm,hgetv⟩:=hlv;have hlen:=hok.len;have hsize:=hok.size;have hslN:aT FM h (fun _=>False) (.slice na nn nc) d.next:=⟨_,_,_,rfl,hnl,hnc,hnm,hgetn⟩
 have hslR:aT (.int .i64) h (fun _=>False) (.slice ra rn rc) d.rule:=⟨_,_,_,rfl,hrl,hrc,hrm,hgetr⟩
 have hslV:aT .bool h (fun _=>False) (.slice va vm vc) live:=⟨_,_,_,rfl,hvl,hvc,hvm,hgetv⟩
 subst hnl;generalize htgt:dS d live=tgt;refine bL ?_;refine af ?_;refine xp rfl (aA rfl (hk.cell (i:=0) rfl)) ?_;refine af ?_;refine xo rfl (aQ.qT underlying121 H.OS H.P9 rfl rfl rfl (by omega) (by decide)) ?_;rintro _ h1 ⟨rfl,k1,e1⟩;have k1:bN (Value.int .i64) h1 h.size 3 (.slice (some ⟨h.size,0,none⟩) d.next.length d.next.length) (List.replicate d.next.length 0):=by unfold bN;simpa using k1
 refine af ?_;refine gY (σ:=Nat) (fun i=>[(26,.int .i64 (i:Nat))]) (fun i h'=>aj h h'/\bN (Value.int .i64) h' h.size 3 (.slice (some ⟨h.size,0,none⟩) d.next.length d.next.length) (d.rule.take i++List.replicate (d.next.length-i) 0)/\i<=d.next.length) (fun i=>d.next.length-i) (0) ⟨e1,by simpa using k1,Nat.zero_le _⟩ rfl ?_;rintro i g ⟨eg,ho,hi⟩ ih;refine af ?_;refine aR (fun hlt=>?_) (fun hlt=>?_)
 · have hiN:i<d.next.length:=by omega
   obtain⟨x,hx⟩:∃x,d.rule[i]? =some x:=⟨_,List.getElem?_eq_getElem (by omega)⟩
   have hxe:d.rule[i]'(by omega)=x:=(List.getElem?_eq_some_iff.1 hx).2;obtain⟨oa',n',c',hv',_,_,_,hgetr⟩:=id (hslR.mv (Mv.ah eg));cases hv';obtain⟨b2,o2,cs2,ha2,_,hrow2,rfl⟩:=hgetr i x hx;obtain⟨gg,c4,hv4,hgb,hglt,hcell,hfz,hset⟩:=ho.at (JG (z:=(0:Int)) hlen hiN);rw[JF hlen hi] at hv4;cases hv4;refine af ?_;refine xp rfl (aA rfl ((hk.ah eg).cell (i:=1) rfl)) ?_;refine aW ?_;refine xp rfl (cz rfl rfl i rfl ha2) ?_;refine xp rfl (aA rfl (hrow2 0 _ rfl)) ?_;refine xp rfl (cz rfl rfl i rfl rfl) ?_;refine aM rfl (bX H.nD rfl rfl rfl hcell hfz) ?_;rintro _ g2 ⟨rfl,hg2⟩;have hset:=hset x;rw[<-hg2,<-hxe,JE hlen hiN] at hset;have x2:Ext (fun b=>b=h.size) g g2:=by rw[hg2];exact Ext.dV _ _ _ rfl
   have e2:aj h g2:=aj.only eg x2 (Nat.le_refl _);refine af ?_;exact ih (i+1) ⟨e2,hset,hiN⟩
 · obtain rfl:i=d.next.length:=by omega
   rw[Nat.sub_self,List.replicate_zero,List.append_nil,List.take_of_length_le (by omega)] at ho;refine af ?_;refine gY (σ:=Nat×Nat×Value×List Int) (fun q=>[(5,q.2.2.1),(7,.int .i64 (q.2.1:Nat))]) (fun q h'=>aj h h'/\bN (Value.int .i64) h' h.size 3 q.2.2.1 q.2.2.2/\q.2.2.2.length=d.next.length/\(∀x∈q.2.2.2,-1<=x/\x<=1000000)/\(q.2.1<=d.next.length/\kC q.2.1 q.2.2.2/\d.next.length+1<=q.1+q.2.1)/\lC d live q.1 q.2.1 q.2.2.2=tgt) (fun q=>q.1) ((d.next.length+1,0,.slice (some ⟨h.size,0,none⟩) d.next.length d.next.length,d.rule)) ⟨eg,ho,hlen,hok.ru,⟨Nat.zero_le _,fun i hi=>absurd hi (Nat.not_lt_zero _),by simp⟩,htgt⟩ rfl ?_;rintro⟨n,many,vcl,cls⟩ g ⟨eg,ho,hcl,hcb,⟨hmN,hcov,hfuel⟩,hcon⟩ ih
   try dsimp only
   dsimp only at ho hcl hcb hmN hcov hfuel hcon;obtain⟨n,rfl⟩:∃m,n=m+1:=⟨n-1,by omega⟩
   rw[lC] at hcon;have hmore:=oq (d:=d) (live:=live) hcov hcl;have hend:=eP d live cls;generalize hps:aV d live cls d.next.length 0 [] []=ps at hcon hmore hend
   obtain⟨la,lc,rfl,_⟩:=(show aB g h.size 3 1 vcl cls.length (cls.map (Value.int .i64)) from ho).open;rw[hcl] at ho;have hown:∀b,(Value.slice la d.next.length lc).ownBlock=some b->b<g.size:=fun b hb=>(aB.lt ho hb).2
   rw[hcl];refine af ?_;refine xo rfl (oA (ek:=Value.string) (ev:=Value.int .i64)) ?_;rintro _ g1 ⟨rfl,hm1,e1',z1⟩;refine af ?_;refine xo rfl (aQ.qT underlying121 H.OS H.P9 rfl rfl rfl (by omega) (by decide)) ?_;rintro _ g2 ⟨rfl,k2,e2⟩;have k2:bN (Value.int .i64) g2 g1.size 3 (.slice (some ⟨g1.size,0,none⟩) d.next.length d.next.length) (List.replicate d.next.length 0):=by unfold bN;simpa using k2
   have hm2:=hm1.ext e2 (fun k=>k);have e12:=e1'.trans e2;refine af ?_;refine xp rfl (aA rfl ((hk.ah (eg.trans e12)).cell (i:=0) rfl)) ?_;refine af ?_;refine gY (σ:=Nat×List (List Int)×List Int) (fun q=>[(49,.int .i64 (q.1:Nat))]) (fun q h'=>aj g h'/\fK Value.string (Value.int .i64) h' g.size (gZ 0 q.2.1)/\bN (Value.int .i64) h' g1.size 3 (.slice (some ⟨g1.size,0,none⟩) d.next.length d.next.length) (q.2.2++List.replicate (d.next.length-q.1) 0)/\(q.1<=d.next.length/\q.2.2.length=q.1/\q.2.1.length<=q.1)/\aV d live cls (d.next.length-q.1) q.1 q.2.1 q.2.2=ps) (fun q=>d.next.length-q.1) ((0,[],[])) ⟨e12,hm2,k2,⟨Nat.zero_le _,rfl,Nat.le_refl _⟩,hps⟩ rfl ?_;rintro⟨k,seen,after⟩ g3 ⟨e3,hmp,haf,⟨hkN,hal,hsl⟩,hcon2⟩ ih2
   try dsimp only
   dsimp only at hmp haf hkN hal hsl hcon2;have eg3:=eg.trans e3;have ho3:=bN.ah ho e3;refine af ?_;refine aR (fun hlt=>?_) (fun hlt=>?_)
   · have hkN:k<d.next.length:=by omega
     obtain⟨m,hm⟩:∃m,d.next.length-k=m+1:=⟨d.next.length-k-1,by omega⟩
     rw[hm,aV] at hcon2;obtain⟨r,hr⟩:∃r,d.next[k]? =some r:=⟨_,List.getElem?_eq_getElem hkN⟩
     obtain⟨oa',n',c',hv',_,_,_,hgetn⟩:=id (hslN.mv (Mv.ah eg3));cases hv';obtain⟨b1,o1,cs1,ha1,_,hrow1,rfl⟩:=hgetn k r hr;have hone:∀u∈bP r,u.oneCell'=true:=fun u hu=>by simp[bP] at hu;obtain⟨_,_,rfl⟩:=hu;rfl
     have hrow:d.row k=r.v:=by unfold bG.row;rw[hr]
     iterate 4 refine aX ?_
     refine cD ?_;refine aW ?_;refine xp rfl (cz rfl rfl k rfl ha1) ?_;refine xp rfl (bY rfl hrow1) ?_;refine xo rfl (cO) ?_;rintro _ g4 ⟨rfl,k4,e4,z4⟩;have k4:aD g4 g3.size 147 (List.replicate 256 (Value.int .i64 0)):=k4;refine af ?_;refine aM rfl (aY rfl rfl k4 hone) ?_;rintro _ g5 ⟨rfl,k5,x5,z5⟩;have k5:aD g5 g3.size 147 (bP r):=by rw[<-Cj r];exact k5
     have e5:aj g3 g5:=aj.only e4 x5 (Nat.le_refl _);have ho5:=bN.ah ho3 e5;obtain⟨c,hc⟩:∃c,cls[k]? =some c:=⟨_,List.getElem?_eq_getElem (by omega)⟩
     have hgd:cls.getD k 0=c:=by rw[List.getD_eq_getElem?_getD,hc];rfl
     obtain⟨gg,c4,hv4,hgb,hglt,hcell,hfz,hset⟩:=ho5.at hc;rw[hcl] at hv4;have hla:la=some ⟨gg,0,none⟩:=by cases hv4;rfl
     refine cX ?_;refine aX ?_;refine cD ?_
     iterate 2 refine aW ?_
     refine xp rfl (cz rfl rfl k rfl hla) ?_;refine xp rfl (aA rfl hcell) ?_;have e56:aj g5 (g5.push (.cells #[.int .i64 c] 3)):=Ext.push _ _ _;have hl6:bN (Value.int .i64) (g5.push (.cells #[.int .i64 c] 3)) g5.size 3 (.slice (some ⟨g5.size,0,none⟩) 1 1) [c]:=ku (Value.int .i64) g5 3 [c] 1 rfl (by decide) g5.size (Nat.le_refl _) rfl;refine xo rfl (iL [_]) ?_;rintro _ _ ⟨rfl,rfl⟩;refine af ?_;generalize g5.push (.cells #[.int .i64 c] 3)=g6 at *;have k6:=k5.ah e56;have e36:aj g3 g6:=e5.trans e56;have ho6:=bN.ah ho5 e56;have hz5:=e5.size;refine xp rfl (bY rfl k6.row) ?_;refine af ?_;refine gY (σ:=Nat×Value) (fun q=>[(12,q.2),(60,.int .i64 (q.1:Nat))]) (fun q h'=>aj g3 h'/\bN (Value.int .i64) h' g5.size 3 q.2 (c::(r.v.take q.1).map (b9 live cls))/\q.1<=256/\g5.size<=h'.size) (fun q=>256-q.1) ((0,.slice (some ⟨g5.size,0,none⟩) 1 1)) ⟨e36,hl6,Nat.zero_le _,e56.size⟩ rfl ?_;rintro⟨j,vl⟩ g7 ⟨e7,hl7,hj,hz7⟩ ih3
     try dsimp only
     dsimp only at hl7 hj;have eg7:=eg3.trans e7;have ho7:=bN.ah ho3 e7;have hlen7:(c::(r.v.take j).map (b9 live cls)).length=j+1:=by simp[r.len];omega
     refine af ?_;refine aR (fun hlt3=>?_) (fun hlt3=>?_)
     · have hj2:j<256:=by omega
       obtain⟨t,ht⟩:∃t,r.v[j]? =some t:=⟨_,List.getElem?_eq_getElem (by rw[r.len];exact hj2)⟩
       have htm:=hok.to r (List.mem_of_getElem? hr) t (List.mem_of_getElem? ht);have htr:c::(r.v.take (j+1)).map (b9 live cls)=(c::(r.v.take j).map (b9 live cls))++[b9 live cls t]:=by rw[List.take_add_one,ht];simp
       have hlo:aB g7 g5.size 3 1 vl (c::(r.v.take j).map (b9 live cls)).length ((c::(r.v.take j).map (b9 live cls)).map (Value.int .i64)):=hl7;have hlo2:=hlo;rw[hlen7] at hlo2;obtain⟨wa,wc,rfl,_⟩:=hlo2.open;have hl8:bN (Value.int .i64) g7 g5.size 3 (.slice wa (j+1) wc) (c::(r.v.take j).map (b9 live cls)):=hl7
       have fin:∀v8 g8 x,aB g8 g5.size 3 1 v8 (j+1+1) ((c::(r.v.take j).map (b9 live cls)).map (Value.int .i64)++[.int .i64 x])->Ext (cv (Value.slice wa (j+1) wc).ownBlock) g7 g8->x=b9 live cls t->aj g3 g8/\bN (Value.int .i64) g8 g5.size 3 v8 (c::(r.v.take (j+1)).map (b9 live cls))/\j+1<=256/\g5.size<=g8.size:=by
        rintro v8 g8 x ho hx rfl;refine⟨bN.grown e7 hl8 hz5 hx,?_,hj2,Nat.le_trans hz7 hx.size⟩;rw[htr];exact bN.of ho hlen7.symm rfl rfl
       refine af ?_;refine xp rfl (ay.wv underlying147 H.nD H.NO rfl rfl j rfl hj2 (show (bP r).toArray[j]? =some (Value.int .i64 t) by simp[bP,ht])) ?_;refine aW ?_;refine cX ?_;refine aX ?_;refine cD ?_
       iterate 3 refine aW ?_
       refine dG 65 (fun hg=>?_) (fun hg=>?_)
       · have hg':=of_decide_eq_true hg;refine af ?_;refine fF rfl (by simp) ?_;refine af ?_;refine xo rfl (iL [_]) ?_;rintro _ _ ⟨rfl,rfl⟩;refine xo rfl (uH rfl rfl hlo2 rfl rfl) ?_;rintro v8 g8 ⟨ho8,hx8,hx8',hv8⟩;have ff:=fin v8 g8 (-2) ho8 hx8 (xq (.inl hg')).symm;obtain⟨v8a,v8c,rfl,_⟩:=ho8.open;refine af ?_;exact ih3 (j+1,_) ff
       · have hg':=of_decide_eq_false hg;obtain⟨t2,rfl⟩:=Int.eq_ofNat_of_zero_le (show 0<=t by omega);obtain⟨bt,hbt⟩:∃bt,live[t2]? =some bt:=⟨_,List.getElem?_eq_getElem (by omega)⟩
         have hlt2:live.getD t2 false=bt:=by rw[List.getD_eq_getElem?_getD,hbt];rfl
         obtain⟨oa',n',c',hv',_,_,_,hgetv⟩:=id (hslV.mv (Mv.ah eg7));cases hv';obtain⟨b3,o3,cs3,ha3,_,hrow3,rfl⟩:=hgetv t2 bt hbt
         iterate 2 refine aW ?_
         refine xp rfl (cz rfl rfl t2 rfl ha3) ?_;refine xp rfl (aA rfl (hrow3 0 _ rfl)) ?_;refine af ?_;refine iM (fun hb=>?_) (fun hb=>?_)
         · have hb':bt=false:=by simpa using hb
           refine af ?_;refine xo rfl (iL [_]) ?_;rintro _ _ ⟨rfl,rfl⟩;refine xo rfl (uH rfl rfl hlo2 rfl rfl) ?_;rintro v8 g8 ⟨ho8,hx8,hx8',hv8⟩;have ff:=fin v8 g8 (-2) ho8 hx8 (xq (.inr (by show live.getD t2 false=false;rw[hlt2,hb']))).symm;obtain⟨v8a,v8c,rfl,_⟩:=ho8.open;refine af ?_;exact ih3 (j+1,_) ff
         · have hb':bt=true:=by simpa using hb
           obtain⟨c2,hc2⟩:∃c2,cls[t2]? =some c2:=⟨_,List.getElem?_eq_getElem (by omega)⟩
           have hgd2:cls.getD t2 0=c2:=by rw[List.getD_eq_getElem?_getD,hc2];rfl
           obtain⟨gg2,c42,hv42,hgb2,hglt2,hcell2,hfz2,hset2⟩:=ho7.at hc2;rw[hcl] at hv42;have hla2:la=some ⟨gg2,0,none⟩:=by cases hv42;rfl
           refine cD ?_
           iterate 3 refine aW ?_
           refine xp rfl (cz rfl rfl t2 rfl hla2) ?_;refine xp rfl (aA rfl hcell2) ?_;refine xo rfl (iL [_]) ?_;rintro _ _ ⟨rfl,rfl⟩;refine xo rfl (uH rfl rfl hlo2 rfl rfl) ?_;rintro v8 g8 ⟨ho8,hx8,hx8',hv8⟩
           have ff:=fin v8 g8 c2 ho8 hx8 (by
            rw[EM (by
             rintro(e|e)
             · exact hg' e
             · rw[Int.toNat_natCast,hlt2,hb'] at e;cases e),Int.toNat_natCast,hgd2])
           obtain⟨v8a,v8c,rfl,_⟩:=ho8.open;refine af ?_;exact ih3 (j+1,_) ff
     · obtain rfl:j=256:=by omega
       have hkey:c::(r.v.take 256).map (b9 live cls)=fk d live cls k:=by unfold fk;rw[hgd,hrow,List.take_of_length_le (by rw[r.len];exact Nat.le_refl _)]
       have hkb:=Ap (d:=d) (live:=live) hcb k;have hkl:(fk d live cls k).length<=1000000:=by rw[<-hkey,hlen7];decide
       rw[hkey] at hl7;generalize hkk:fk d live cls k=key at *;refine af ?_;refine xo rfl (aE rfl (sr (O:=fun _=>False) (htens.ah eg7) (bN.read (h1:=fun _=>rfl) hl7 (fun _ _ k=>k)) hkl hkb)) ?_;rintro _ g8 ⟨rfl,e8⟩;have e38:aj g3 g8:=e7.trans e8;have eg8:aj g g8:=e3.trans e38;have mp8:=hmp.ext e38 (fun k=>k);have haf8:=bN.ah haf e38
       have hk0:(after++List.replicate (d.next.length-k) (0:Int))[k]? =some 0:=by
        rw[List.getElem?_append_right (by omega),List.getElem?_replicate,if_pos (by omega)]
       have hl0:(after++List.replicate (d.next.length-k) (0:Int)).length=d.next.length:=by simp;omega
       have hsetA:∀y:Int,(after++List.replicate (d.next.length-k) (0:Int)).set k y=(after++[y])++List.replicate (d.next.length-(k+1)) 0:=fun y=>by
        rw[List.set_append_right _ _ (by omega),hal,Nat.sub_self,show d.next.length-k=(d.next.length-(k+1))+1 by omega,List.replicate_succ,List.set_cons_zero];simp
       have hz12:=e1'.size
       have fin2:∀(gA gB:ai) (seen':List (List Int)) (y:Int),aj g gA->fK Value.string (Value.int .i64) gA g.size (gZ 0 seen')->bN (Value.int .i64) gB g1.size 3 (.slice (some ⟨g1.size,0,none⟩) d.next.length d.next.length) ((after++List.replicate (d.next.length-k) (0:Int)).set k y)->gB=dV gA ⟨g1.size,0+k*1,none⟩ (.int .i64 y)->aV d live cls m (k+1) seen' (after++[y])=ps->seen'.length<=k+1->aj g gB/\fK Value.string (Value.int .i64) gB g.size (gZ 0 seen')/\bN (Value.int .i64) gB g1.size 3 (.slice (some ⟨g1.size,0,none⟩) d.next.length d.next.length) ((after++[y])++List.replicate (d.next.length-(k+1)) 0)/\(k+1<=d.next.length/\(after++[y]).length=k+1/\seen'.length<=k+1)/\aV d live cls (d.next.length-(k+1)) (k+1) seen' (after++[y])=ps:=by
        rintro gA gB seen' y eA mA hB hgB hcp hsl';have xB:Ext (fun b=>b=g1.size) gA gB:=by rw[hgB];exact Ext.dV _ _ _ rfl
        refine⟨aj.only eA xB hz12,mA.ext xB (by show ¬_=_;omega),?_,⟨hkN,by simp[hal],hsl'⟩,?_⟩
        · rw[<-hsetA];exact hB
        · rw[show d.next.length-(k+1)=m by omega];exact hcp
       refine af ?_;refine xp rfl (ay.vQ (z:=.int .i64 0) kB.str underlying145 underlying9 (by kernel_rfl) rfl rfl rfl mp8) ?_;rw[l7]
       rcases hfind:kN 0 seen key with _|i0
       · rw[hfind] at hcon2;simp only at hcon2;have hnone:mg (bs (gH key)) (gZ 0 seen)=none:=by rw[l7,hfind];rfl
         refine af ?_;refine fF rfl (by simp) ?_;refine af ?_;refine xp rfl (ay.Ek underlying145 rfl (mp8)) ?_;refine aM rfl (aQ.mapUpdate (v:=((gZ 0 seen).length:Int)) kB.str underlying145 underlying9 rfl rfl rfl rfl rfl mp8 hnone) ?_;rintro _ g9 ⟨rfl,mp9,x9,z9⟩;have mp9:fK Value.string (Value.int .i64) g9 g.size (gZ 0 (seen++[key])):=by rw[ve,Nat.zero_add,<-rY seen 0];exact mp9
         have hsz8:=eg8.size;have e9:aj g g9:=aj.only eg8 x9 (Nat.le_refl _);have haf9:bN (Value.int .i64) g9 g1.size 3 (.slice (some ⟨g1.size,0,none⟩) d.next.length d.next.length) (after++List.replicate (d.next.length-k) (0:Int)):=aB.ext x9 haf8 (fun b hb (e:b=g.size)=>by have:=(aB.lt haf8 hb).1;omega);obtain⟨gg3,c3,hv3,_,_,hcell3,hfz3,hset3⟩:=haf9.at hk0;rw[hl0] at hv3;cases hv3;have hasc:mg (bs (gH key)) (gZ 0 (seen++[key]))=some ((seen.length:Nat):Int):=by rw[l7,wI seen 0 key hfind,Nat.zero_add];rfl
         refine af ?_;refine xp rfl (ay.lookup (z:=.int .i64 0) kB.str underlying145 underlying9 (by kernel_rfl) rfl rfl rfl mp9) ?_;rw[hasc,Option.map_some,Option.getD_some];refine xp rfl (cz rfl rfl k rfl rfl) ?_;refine aM rfl (bX H.nD rfl rfl rfl hcell3 hfz3) ?_;rintro _ g10 ⟨rfl,hg10⟩;have hg10:g10=dV g9 ⟨g1.size,0+k*1,none⟩ (.int .i64 ((seen.length:Nat):Int)):=hg10;have hB:=hset3 ((seen.length:Nat):Int);rw[<-hg10] at hB;refine af ?_;exact ih2 (k+1,seen++[key],after++[((seen.length:Nat):Int)]) (fin2 g9 g10 _ _ e9 mp9 hB hg10 hcon2 (by simp;omega))
       · rw[hfind] at hcon2;simp only at hcon2;refine af ?_;refine fe rfl (by simp) ?_;obtain⟨gg3,c3,hv3,_,_,hcell3,hfz3,hset3⟩:=haf8.at hk0;rw[hl0] at hv3;cases hv3;have hasc:mg (bs (gH key)) (gZ 0 seen)=some ((i0:Nat):Int):=by rw[l7,hfind];rfl
         refine af ?_;refine xp rfl (ay.lookup (z:=.int .i64 0) kB.str underlying145 underlying9 (by kernel_rfl) rfl rfl rfl mp8) ?_;rw[hasc,Option.map_some,Option.getD_some];refine xp rfl (cz rfl rfl k rfl rfl) ?_;refine aM rfl (bX H.nD rfl rfl rfl hcell3 hfz3) ?_;rintro _ g10 ⟨rfl,hg10⟩;have hg10:g10=dV g8 ⟨g1.size,0+k*1,none⟩ (.int .i64 ((i0:Nat):Int)):=hg10;have hB:=hset3 ((i0:Nat):Int);rw[<-hg10] at hB;refine af ?_;exact ih2 (k+1,seen,after++[((i0:Nat):Int)]) (fin2 g8 g10 _ _ eg8 mp8 hB hg10 hcon2 (Nat.le_succ_of_le hsl))
   · obtain rfl:k=d.next.length:=by omega
     rw[Nat.sub_self,List.replicate_zero,List.append_nil] at haf;rw[Nat.sub_self,aV] at hcon2;subst hcon2;dsimp only at hcon hmore hend;have hm:=hend.size;have hsl':(gZ 0 seen).length=seen.length:=rY seen 0
     have ha':bN (Value.int .i64) g3 h.size 3 (.slice (some ⟨g1.size,0,none⟩) d.next.length d.next.length) after:=EW (show aB g3 g1.size 3 1 _ after.length (after.map (Value.int .i64)) from haf) (fun b hb=>by
      cases hb;have:=eg.size;have:=e1'.size
      show h.size<=g1.size
      omega)
     refine af ?_;refine xp rfl (ay.Ek underlying145 rfl (hmp)) ?_;rw[hsl'];refine af ?_;refine aR (fun heq=>?_) (fun heq=>?_)
     · rw[if_pos (by omega)] at hcon;refine af ?_;refine bp ?_;exact⟨_,rfl,by rw[<-hcon];exact ha',eg3⟩
     · rw[if_neg (by omega)] at hcon;refine af ?_;refine xp rfl (ay.Ek underlying145 rfl (hmp)) ?_;rw[hsl'];refine af ?_;exact ih (n,seen.length,_,after) ⟨eg3,ha',hal,fun x hx=>by have:=hend.bound x hx;omega,⟨by show seen.length<=_;omega,hend.nums,by show _<=n+seen.length;omega⟩,hcon⟩
end
end Go.Proofs.YtoickfdopobmgaaGreatDoor
namespace Go.Proofs.YtoickfdopobmgaaGreatDoor
open Go
section
variable {of:List Nat}
def pL (cls:List Int):Nat->List Nat->Int->Option Nat
  |_,[],_=>none
  |i,x::r,c=>if c=cls.getD x 0 then some i else pL cls (i+1) r c
theorem wK {cls:List Int}:∀(of:List Nat) (i j:Nat) (c:Int),pL cls i of c=some j->i<=j/\∃x,of[j-i]? =some x/\c=cls.getD x 0
  | [],i,j,c,h=>by cases h
  |x::r,i,j,c,h=>by
    rw[pL] at h;split at h
    · rename_i e;cases h;exact⟨Nat.le_refl _,x,by simp,e⟩
    · obtain⟨h1,y,h2,h3⟩:=wK r (i+1) j c h;refine⟨by omega,y,?_,h3⟩;rw[show j-i=(j-(i+1))+1 by omega,List.getElem?_cons_succ];exact h2
theorem qo {cls:List Int}:∀(of:List Nat) (i:Nat) (c:Int),pL cls i of c=none->∀x∈of,c≠cls.getD x 0
  | [],i,c,h,x,hx=>by cases hx
  |y::r,i,c,h,x,hx=>by
    rw[pL] at h;split at h
    · cases h
    · rename_i hn
      rcases List.mem_cons.1 hx with e|e
      · subst e;exact hn
      · exact qo r (i+1) c h x e
def cP (live:List Bool) (cls:List Int) (of:List Nat) (t:Int):List Nat×Int :=
  if t<0\/live.getD t.toNat false=false then (of,-1) else
    match pL cls 0 of (cls.getD t.toNat 0) with
    |some i=>(of,(i:Int))
    |none=>(of++[t.toNat],(of.length:Int))
def fO (live:List Bool) (cls:List Int):List Int->List Nat->List Int->List Nat×List Int
  | [],of,row=>(of,row)
  |t::r,of,row=>fO live cls r (cP live cls of t).1 (row++[(cP live cls of t).2])
def Cw (d:bG) (live:List Bool) (cls:List Int):Nat->Nat->List Nat->List Row->List Int->bG
  | 0,_,_,next,rule=>⟨next,rule⟩
  |n+1,i,of,next,rule =>
    match of[i]? with
    |none=>⟨next,rule⟩
    |some k=>Cw d live cls n (i+1) (fO live cls (d.row k) of []).1 (next++[kL (fO live cls (d.row k) of []).2]) (rule++[d.ru k])
def mO (d:bG):bG:=if d.next.length=0 then ⟨[],[]⟩ else Cw d (bg d) (dS d (bg d)) (d.next.length+1) 0 [0] [] []
structure Dn (n:Nat) (of:List Nat):Prop where
  once:of.Nodup
  lt:∀x∈of,x<n
theorem Co:∀(n:Nat) (l:List Nat),l.Nodup->(∀x∈l,x<n)->l.length<=n
  | 0,[],_,_=>Nat.le_refl _
  | 0,x::l,_,h=>absurd (h x (by simp)) (Nat.not_lt_zero _)
  |n+1,l,hl,h=>by
    have h1:=Co n (l.erase n) (hl.erase n) (fun x hx=>by
      have:=(hl.mem_erase_iff).1 hx;have:=h x this.2;omega)
    by_cases hn:n∈l
    · have:=List.length_erase_of_mem hn;omega
    · rw[List.erase_of_not_mem hn] at h1;omega
theorem Dn.len {n:Nat}(k:Dn n of):of.length<=n:=Co n of k.once k.lt
theorem vN {live:List Bool}{cls:List Int}{n:Nat}{t:Int}(k:Dn n of) (ht:t<n):Dn n (cP live cls of t).1:=by
  unfold cP;split
  · exact k
  · rename_i hn;split
    · exact k
    · rename_i hf;have hne:=qo of 0 _ hf;refine⟨List.nodup_append.2 ⟨k.once,by simp,fun a ha b hb e=>?_⟩,fun x hx=>?_⟩
      · have:b=t.toNat:=by simpa using hb
        subst e;subst this;exact hne _ ha rfl
      · rcases List.mem_append.1 hx with e|e
        · exact k.lt x e
        · have:x=t.toNat:=by simpa using e
          omega
theorem Ee {live:List Bool}{cls:List Int}{t:Int}:of.length<=(cP live cls of t).1.length/\∀(i x:Nat),of[i]? =some x->(cP live cls of t).1[i]? =some x:=by
  unfold cP;split
  · exact⟨Nat.le_refl _,fun _ _ h=>h⟩
  · split
    · exact⟨Nat.le_refl _,fun _ _ h=>h⟩
    · exact⟨by simp,fun i x h=>by rw[List.getElem?_append_left (List.getElem?_eq_some_iff.1 h).1];exact h⟩
end
end Go.Proofs.YtoickfdopobmgaaGreatDoor
namespace Go.Proofs.YtoickfdopobmgaaGreatDoor
open Go Go.Lw
set_option maxRecDepth 20000
section
variable {v3:Value}{n:Nat}
def lM (cls:List Int):Nat->List Nat->List (Int×Int)
  |_,[]=>[]
  |i,x::r=>(cls.getD x 0,(i:Int))::lM cls (i+1) r
theorem vf (cls:List Int):∀(ls:List Nat) (i:Nat) (l:Nat),lM cls i (ls++[l])=lM cls i ls++[(cls.getD l 0,((i+ls.length:Nat):Int))]
  | [],i,l=>by simp[lM]
  |x::r,i,l=>by
    simp only[List.cons_append,lM];rw[vf cls r (i+1) l,List.length_cons,show i+1+r.length=i+(r.length+1) by omega]
theorem sG (cls:List Int):∀(ls:List Nat) (i:Nat) (c:Int),mg c (lM cls i ls)=(pL cls i ls c).map fun j=>(j:Int)
  | [],i,c=>rfl
  |x::r,i,c=>by
    rw[lM,mg,pL]
    by_cases h:c=cls.getD x 0
    · rw[if_pos h,if_pos h];rfl
    · rw[if_neg h,if_neg h];exact sG cls r (i+1) c
structure ey (h0 h:ai) (cls:List Int) (db mb:Nat) (vo vn vr:Value) (of:List Nat) (next:List Row) (rule:List Int):Prop where
  ext:aj h0 h
  dblk:aD h db 143 [vn,vr]
  nx:mh 256 bP h h0.size 147 vn next
  ru:bN (Value.int .i64) h h0.size 3 vr rule
  ol:bN dZ h h0.size 3 vo of
  mp:fK (Value.int .i64) (Value.int .i64) h mb (lM cls 0 of)
  ne:∀b,vo.ownBlock=some b->vr.ownBlock≠some b
  dge:h0.size<=db
  mge:h0.size<=mb
section
variable {h0 h:ai}{cls:List Int}{db mb:Nat}{vo vn vr:Value}{of:List Nat}{next:List Row}{rule:List Int}
theorem ey.GH (k:ey h0 h cls db mb vo vn vr of next rule):∀b,vn.ownBlock=some b->de h b 147:=fun _ hb=>aB.ty k.nx hb
theorem ey.Fp (k:ey h0 h cls db mb vo vn vr of next rule):∀b,vr.ownBlock=some b->de h b 3:=fun _ hb=>aB.ty k.ru hb
theorem ey.Ox (k:ey h0 h cls db mb vo vn vr of next rule):∀b,vo.ownBlock=some b->de h b 3:=fun _ hb=>aB.ty k.ol hb
theorem ey.ah {h':ai}(k:ey h0 h cls db mb vo vn vr of next rule) (e:aj h h'):ey h0 h' cls db mb vo vn vr of next rule :=
  ⟨k.ext.trans e,k.dblk.ah e,mh.ah k.nx e,bN.ah k.ru e,bN.ah k.ol e,k.mp.ext e (fun k=>k),k.ne,k.dge,k.mge⟩
theorem ey.put {h':ai}{x:Nat}(k:ey h0 h cls db mb vo vn vr of next rule) (e:Ext (fun b=>b=x) h h') (hx:de h x 147) (hn:vn.ownBlock≠some x) (hge:h0.size<=x):ey h0 h' cls db mb vo vn vr of next rule:=by
  have hd:¬db=x:=k.dblk.ty.ne hx (by decide);have hm:¬mb=x:=k.mp.ne hx;exact⟨aj.only k.ext e hge,k.dblk.ext e hd,aB.ext e k.nx (fun b hb hbx=>hn (by subst hbx;exact hb)),aB.ext e k.ru (fun b hb=>(k.Fp b hb).ne hx (by decide)),aB.ext e k.ol (fun b hb=>(k.Ox b hb).ne hx (by decide)),k.mp.ext e hm,k.ne,k.dge,k.mge⟩
theorem ey.MF {g3 g4:ai}{r:Row}(k:ey h0 h cls db mb vo vn vr of next rule) (hn:n=next.length) (ho:aB g3 h0.size 147 256 v3 (n+1) (next.flatMap bP++bP r)) (hx:Ext (cv vn.ownBlock) h g3) (hd:aD g4 db 143 [v3,vr]) (x4:Ext (fun b=>b=db) g3 g4) :
    ey h0 g4 cls db mb vo v3 vr of (next++[r]) rule:=by
  have nne:∀{b:Nat}{t:TypeId},de h b t->147≠t->¬cv vn.ownBlock b:=fun kt ht e=>(k.GH _ e.symm).ne kt ht rfl
  have d3:=k.dblk.ext hx (nne k.dblk.ty (by decide));have dne:∀{b:Nat}{t:TypeId},de g3 b t->143≠t->¬b=db:=fun kt ht e=>by subst e;exact d3.ty.ne kt ht rfl
  have mne:¬cv vn.ownBlock mb:=fun e=>k.mp.ne (k.GH _ e.symm) rfl
  have hm3:=k.mp.ext hx mne;have ru3:=aB.ext hx k.ru (fun b hb=>nne (k.Fp b hb) (by decide));have of3:=aB.ext hx k.ol (fun b hb=>nne (k.Ox b hb) (by decide));refine⟨⟨by have:=k.ext.size;have:=hx.size;have:=x4.size;omega,fun b hb kk=>?_⟩,hd,?_,aB.ext x4 ru3 (fun b hb=>dne (aB.ty ru3 hb) (by decide)),aB.ext x4 of3 (fun b hb=>dne (aB.ty of3 hb) (by decide)),hm3.ext x4 (hm3.ne d3.ty),k.ne,k.dge,k.mge⟩
  · rw[x4.block b (by have:=k.ext.size;have:=hx.size;omega) (by have:=k.dge;omega),hx.block b (by have:=k.ext.size;omega) (fun e=>by have:=(aB.lt k.nx e.symm).1;omega)];exact k.ext.block b hb kk
  · exact aB.ext x4 (mh.of ho hn rfl) (fun b hb=>dne (aB.ty ho hb) (by decide))
theorem ey.ME {g3 g4:ai}{x:Int}(k:ey h0 h cls db mb vo vn vr of next rule) (hn:n=rule.length) (ho:aB g3 h0.size 3 1 v3 (n+1) (rule.map (Value.int .i64)++[.int .i64 x])) (hx:Ext (cv vr.ownBlock) h g3) (hv:∀b,v3.ownBlock=some b->vr.ownBlock=some b\/h.size<=b) (hd:aD g4 db 143 [vn,v3]) (x4:Ext (fun b=>b=db) g3 g4) :
    ey h0 g4 cls db mb vo vn v3 of next (rule++[x]):=by
  have nne:∀{b:Nat}{t:TypeId},de h b t->3≠t->¬cv vr.ownBlock b:=fun kt ht e=>(k.Fp _ e.symm).ne kt ht rfl
  have d3:=k.dblk.ext hx (nne k.dblk.ty (by decide));have dne:∀{b:Nat}{t:TypeId},de g3 b t->143≠t->¬b=db:=fun kt ht e=>by subst e;exact d3.ty.ne kt ht rfl
  have mne:¬cv vr.ownBlock mb:=fun e=>k.mp.ne (k.Fp _ e.symm) rfl
  have hm3:=k.mp.ext hx mne;have nx3:=aB.ext hx k.nx (fun b hb=>nne (k.GH b hb) (by decide));have of3:=aB.ext hx k.ol (fun b hb e=>k.ne b hb e.symm);refine⟨⟨by have:=k.ext.size;have:=hx.size;have:=x4.size;omega,fun b hb kk=>?_⟩,hd,aB.ext x4 nx3 (fun b hb=>dne (aB.ty nx3 hb) (by decide)),?_,aB.ext x4 of3 (fun b hb=>dne (aB.ty of3 hb) (by decide)),hm3.ext x4 (hm3.ne d3.ty),fun b hb e=>?_,k.dge,k.mge⟩
  · rw[x4.block b (by have:=k.ext.size;have:=hx.size;omega) (by have:=k.dge;omega),hx.block b (by have:=k.ext.size;omega) (fun e=>by have:=(aB.lt k.ru e.symm).1;omega)];exact k.ext.block b hb kk
  · exact aB.ext x4 (bN.of (ys:=[x]) ho hn rfl rfl) (fun b hb=>dne (aB.ty ho hb) (by decide))
  · rcases hv b e with e|e
    · exact k.ne b hb e
    · have:=(k.Ox b hb).lt;omega
theorem ey.more {g1 g2:ai}{t:Nat}(k:ey h0 h cls db mb vo vn vr of next rule) (x1:Ext (fun b=>b=mb) h g1) (hm:fK (Value.int .i64) (Value.int .i64) g1 mb (lM cls 0 (of++[t]))) (hn:n=of.length) (ho:aB g2 h0.size 3 1 v3 (n+1) (of.map dZ++[dZ t])) (hx:Ext (cv vo.ownBlock) g1 g2) (hv:∀b,v3.ownBlock=some b->vo.ownBlock=some b\/g1.size<=b) :
    ey h0 g2 cls db mb v3 vn vr (of++[t]) next rule:=by
  have mne:∀{b:Nat}{t:TypeId},de h b t->¬b=mb:=fun kt e=>k.mp.ne kt e.symm
  have d1:=k.dblk.ext x1 (mne k.dblk.ty);have nx1:=aB.ext x1 k.nx (fun b hb=>mne (k.GH b hb));have ru1:=aB.ext x1 k.ru (fun b hb=>mne (k.Fp b hb));have of1:=aB.ext x1 k.ol (fun b hb=>mne (k.Ox b hb));have one:∀{b:Nat}{t:TypeId},de g1 b t->3≠t->¬cv vo.ownBlock b:=fun kt ht e=>(show de g1 _ 3 from aB.ty of1 e.symm).ne kt ht rfl
  refine⟨⟨by have:=k.ext.size;have:=hx.size;have:=x1.size;omega,fun b hb kk=>?_⟩,d1.ext hx (one d1.ty (by decide)),aB.ext hx nx1 (fun b hb=>one (aB.ty nx1 hb) (by decide)),aB.ext hx ru1 (fun b hb e=>k.ne b e.symm hb),bN.of (ys:=[t]) ho hn rfl rfl,hm.ext hx (fun e=>hm.ne (aB.ty of1 e.symm) rfl),fun b hb e=>?_,k.dge,k.mge⟩
  · rw[hx.block b (by have:=k.ext.size;have:=x1.size;omega) (fun e=>by have:=(aB.lt k.ol e.symm).1;omega),x1.block b (by have:=k.ext.size;omega) (by have:=k.mge;omega)];exact k.ext.block b hb kk
  · rcases hv b hb with e'|e'
    · exact k.ne b e' e
    · have:=(show de g1 _ 3 from aB.ty ru1 e).lt;omega
end
end
end Go.Proofs.YtoickfdopobmgaaGreatDoor
namespace Go.Proofs.YtoickfdopobmgaaGreatDoor
open Go.Proofs.Tryz
open Go Go.Lw
set_option maxRecDepth 20000 set_option maxHeartbeats 4000000
theorem zo (d:bG):∀(n:Nat) (out:List Bool),(qU d n out).length=out.length
 | 0,_=>rfl
 |n+1,out=>by
  rw[qU];split
  · rw[zo d n,gO]
  · rw[gO]
theorem GQ (d:bG):(bg d).length=d.next.length:=by rw[bg,zo];simp
theorem wZ (d:bG) (live:List Bool):∀(n many:Nat) (cls:List Int),cls.length=d.next.length->(lC d live n many cls).length=d.next.length
 | 0,_,_,h=>h
 |n+1,many,cls,h=>by
  rw[lC];split
  · exact(eP d live cls).len
  · exact wZ d live n _ _ (eP d live cls).len
theorem EG (d:bG) (live:List Bool) (h:d.rule.length=d.next.length):(dS d live).length=d.next.length:=wZ d live _ _ _ h
def oz (h:ai) (O:Nat->Prop) (db:Nat) (d:bG):Prop :=
 ∃vn vr,¬O db/\aD h db 143 [vn,vr]/\aT FM h O vn d.next/\aT (.int .i64) h O vr d.rule
theorem oz.mv {h h':ai}{O O':Nat->Prop}{db:Nat}{d:bG}(k:oz h O db d) (m:Mv O O' h h'):oz h' O' db d:=by
 obtain⟨vn,vr,ho,hk,h1,h2⟩:=k;have hm:=m.block db hk.lt ho;exact⟨vn,vr,hm.2,hm.1.trans hk,h1.mv m,h2.mv m⟩
theorem oz.rd {h:ai}{O:Nat->Prop}{db:Nat}{d:bG}(k:oz h O db d):pR h db d:=by
 obtain⟨vn,vr,ho,hk,h1,h2⟩:=k;exact⟨vn,vr,hk,rN h1 (fun _ k=>k.elim),rN h2 (fun _ k=>k.elim)⟩
theorem JS {h:ai}{db:Nat}{d:bG}(htens:rM h) (k:pR h db d) (hok:d.Ok) (hd0:0<d.next.length) :
 aq Tryz.prog 31 #[.pointer (some ⟨db,0,none⟩)] h (bw fun r h'=>(∃b,r= .pointer (some ⟨b,0,none⟩)/\oz h' (fun g=>g<h.size) b (mO d))/\aj h h'):=by
 have hlen:=hok.len;have hsize:=hok.size;generalize hres:mO d=res;refine bL ?_;refine af ?_;refine xo rfl (aE rfl (C0 k)) ?_;rintro _ h0 ⟨rfl,hh0⟩;subst hh0;refine af ?_;refine aR (fun hz=>?_) (fun hz=>?_)
 · refine af ?_;refine bp ?_;exfalso;omega
 · rw[mO,if_neg hz] at hres;have hll:=GQ d;have hcl:=EG d (bg d) hlen;refine af ?_;refine xo rfl (aE rfl (Eh k hok)) ?_;rintro w3 h1 ⟨ho1,e1⟩;generalize bg d=live at *;obtain⟨la,lc,rfl,_⟩:=(show aB h1 h0.size 4 1 w3 live.length (live.map Value.bool) from ho1).open;refine af ?_;refine xo rfl (aE rfl (yx (htens.ah e1) (k.ah e1) hok (bN.read (O:=fun _=>False) (h1:=fun _=>rfl) ho1 (fun _ _ k=>k)) hll)) ?_;rintro w4 h2 ⟨ho2,e2⟩;generalize dS d live=cls at *;obtain⟨ca,cc,rfl,_⟩:=(show aB h2 h1.size 3 1 w4 cls.length (cls.map (Value.int .i64)) from ho2).open;have ho1:=bN.ah ho1 e2;have k2:=(k.ah e1).ah e2;have hsV:aT .bool h2 (fun _=>False) (.slice la live.length lc) live:=bN.read (h1:=fun _=>rfl) ho1 (fun _ _ k=>k);have hsC:aT (.int .i64) h2 (fun _=>False) (.slice ca cls.length cc) cls:=bN.read (h1:=fun _=>rfl) ho2 (fun _ _ k=>k);rw[hll] at hsV;rw[hcl] at hsC;rw[hll,hcl];obtain⟨c0,hc0⟩:∃c0,cls[0]? =some c0:=⟨_,List.getElem?_eq_getElem (by omega)⟩
   have hcd0:cls.getD 0 0=c0:=by rw[List.getD_eq_getElem?_getD,hc0];rfl
   refine af ?_;refine xp rfl (av (H.J7 ) rfl) ?_;refine xo rfl (jj) ?_;rintro _ h3 ⟨rfl,kd3,e3,z3⟩;refine af ?_;refine xo rfl (oA (ek:=Value.int .i64) (ev:=Value.int .i64)) ?_;rintro _ h4 ⟨rfl,hm4,e4,z4⟩;have kd3:aD h3 h2.size 143 [.slice none 0 0,.slice none 0 0]:=kd3;have e34:=e3.trans e4;obtain⟨oa',n',c',hv',_,_,_,hgetc⟩:=id (hsC.mv (Mv.ah e34));cases hv';obtain⟨b3,o3,cs3,ha3,_,hrow3,rfl⟩:=hgetc 0 c0 hc0;refine aW ?_;refine xp rfl (cz rfl rfl 0 rfl ha3) ?_;refine xp rfl (aA rfl (hrow3 0 _ rfl)) ?_;refine aM rfl (xO (v:=(0:Int)) (kB.int .i64) underlying154 underlying3 rfl rfl rfl rfl rfl hm4 (rfl:mg c0 []=none)) ?_;rintro _ h5 ⟨rfl,hm5,x5,z5⟩;have hm5:fK (Value.int .i64) (Value.int .i64) h5 h3.size (lM cls 0 [0]):=by rw[lM,hcd0];exact hm5
   have hz3:=e3.size;have e25:aj h2 h5:=aj.only e34 x5 hz3;have kd5:aD h5 h2.size 143 [.slice none 0 0,.slice none 0 0]:=(kd3.ah e4).ext x5 (by show ¬_=_;omega);refine af ?_;refine xo rfl (iL [_]) ?_;rintro _ _ ⟨rfl,rfl⟩;refine af ?_;have e56:aj h5 (h5.push (.cells #[.int .i64 0] 3)):=Ext.push _ _ _;have ol6:bN dZ (h5.push (.cells #[.int .i64 0] 3)) h2.size 3 (.slice (some ⟨h5.size,0,none⟩) 1 1) [0]:=ku dZ h5 3 [0] 1 rfl (by decide) h2.size e25.size rfl;generalize h5.push (.cells #[.int .i64 0] 3)=h6 at *
   have mk6:ey h2 h6 cls h2.size h3.size (.slice (some ⟨h5.size,0,none⟩) 1 1) (.slice none 0 0) (.slice none 0 0) [0] [] [] :=
    ⟨e25.trans e56,kd5.ah e56,mh.nil _ _ _ _ _,bN.nil _ _ _ _,ol6,hm5.ext e56 (fun k=>k),fun b _ hb=>(by cases hb),Nat.le_refl _,hz3⟩
   refine gY (σ:=Nat×Value) (fun q=>[(7,q.2),(8,.int .i64 (q.1:Nat))]) (fun q h'=>∃vn vr of next rule,ey h2 h' cls h2.size h3.size q.2 vn vr of next rule/\q.1<=of.length/\Dn d.next.length of/\(next.length=q.1/\rule.length=q.1)/\Cw d live cls (d.next.length+1-q.1) q.1 of next rule=res) (fun q=>d.next.length+1-q.1) ((0,.slice (some ⟨h5.size,0,none⟩) 1 1)) ⟨_,_,[0],[],[],mk6,Nat.zero_le _,⟨by simp,fun x hx=>by simp at hx;omega⟩,⟨rfl,rfl⟩,hres⟩ rfl ?_;rintro⟨i,vl⟩ g ⟨vn,vr,of,next,rule,mk,hi,hok2,⟨hnl,hrl⟩,hcon⟩ ih
   try dsimp only
   dsimp only at mk hi hnl hrl hcon;have hofl:=hok2.len;obtain⟨oa,oc,rfl,_⟩:=(show aB g h2.size 3 1 vl of.length (of.map dZ) from mk.ol).open;have mkg:=mk;refine af ?_;refine aR (fun hlt=>?_) (fun hlt=>?_)
   · have hil:i<of.length:=by omega
     obtain⟨kk,hcur⟩:∃kk,of[i]? =some kk:=⟨_,List.getElem?_eq_getElem hil⟩
     have hkN:=hok2.lt kk (List.mem_of_getElem? hcur);obtain⟨n,hnn⟩:∃n,d.next.length+1-i=n+1:=⟨d.next.length-i,by omega⟩
     rw[hnn,Cw,hcur] at hcon;simp only at hcon;obtain⟨r,hr⟩:∃r,d.next[kk]? =some r:=⟨_,List.getElem?_eq_getElem hkN⟩
     have hrow:d.row kk=r.v:=by unfold bG.row;rw[hr]
     rw[hrow] at hcon;generalize htgt:fO live cls r.v of []=tgt at hcon;refine af ?_;refine xo rfl (cO) ?_;rintro _ g1 ⟨rfl,kz,ez,zz⟩;have kz:aD g1 g.size 147 (([]:List Int).map (Value.int .i64)++List.replicate (256-0) (Value.int .i64 0)):=kz;have KP:=mk.ah ez;have hvz:vn.ownBlock≠some g.size:=fun e=>by have:=(mk.GH _ e).lt;omega
     obtain⟨vn0,vr0,kd,⟨na,nn,nc,rfl,hnl0,hnc,hnm,hgetn⟩,hsR⟩:=id (k2.ah KP.ext);subst hnl0;obtain⟨b1,o1,cs1,ha1,_,hrow1,rfl⟩:=hgetn kk r hr;obtain⟨gg,c4,hv4,_,_,hcell,_,_⟩:=KP.ol.at hcur;have hoa:oa=some ⟨gg,0,none⟩:=by cases hv4;rfl
     refine af ?_;refine cG rfl (aA rfl (kd.cell (i:=0) rfl)) ?_
     iterate 2 refine ud ?_
     refine cG rfl (cz rfl rfl i rfl hoa) ?_;refine cG rfl (aA rfl hcell) ?_;refine cG rfl (cz rfl rfl kk rfl ha1) ?_;refine cG rfl (bY rfl hrow1) ?_;refine af ?_;refine gY (σ:=Nat×Value) (fun q=>[(7,q.2),(45,.int .i64 (q.1:Nat))]) (fun q h'=>∃of' row,ey h2 h' cls h2.size h3.size q.2 vn vr of' next rule/\(q.1<=256/\row.length=q.1)/\aD h' g.size 147 (row.map (Value.int .i64)++List.replicate (256-q.1) (Value.int .i64 0))/\of'[i]? =some kk/\Dn d.next.length of'/\fO live cls (r.v.drop q.1) of' row=tgt) (fun q=>256-q.1) ((0,.slice oa of.length oc)) ⟨of,[],KP,⟨Nat.zero_le _,rfl⟩,kz,hcur,hok2,htgt⟩ rfl ?_;rintro⟨b,vl⟩ g2 ⟨of,row,mk,⟨hb,hrlen⟩,kz,hcur,hok2,hrow⟩ ih2
     try dsimp only
     dsimp only at mk hb hrlen kz hrow;have hofl:=hok2.len;obtain⟨oa,oc,rfl,_⟩:=(show aB g2 h2.size 3 1 vl of.length (of.map dZ) from mk.ol).open;refine af ?_;refine aR (fun hb256=>?_) (fun hb256=>?_)
     · have hb2:b<256:=by omega
       obtain⟨t,ht⟩:∃t,r.v[b]? =some t:=⟨_,List.getElem?_eq_getElem (by rw[r.len];exact hb2)⟩
       have htm:=hok.to r (List.mem_of_getElem? hr) t (List.mem_of_getElem? ht);have hdrop:r.v.drop b=t::r.v.drop (b+1):=by rw[List.drop_eq_getElem_cons (by rw[r.len];exact hb2),(List.getElem?_eq_some_iff.1 ht).2]
       rw[hdrop,fO] at hrow;have hso:=vN (live:=live) (cls:=cls) (t:=t) hok2 htm.2;have hsg:=(Ee (live:=live) (cls:=cls) (of:=of) (t:=t)).2 i kk hcur;have hcells:(row.map (Value.int .i64)++List.replicate (256-b) (Value.int .i64 0)).length=256:=by simp[hrlen];omega
       have hset:∀to:Int,(row.map (Value.int .i64)++List.replicate (256-b) (Value.int .i64 0)).set (0+b*1) (.int .i64 to)=(row++[to]).map (Value.int .i64)++List.replicate (256-(b+1)) (Value.int .i64 0):=fun to=>by
        rw[Nat.zero_add,Nat.mul_one,List.set_append_right _ _ (by simp;omega),show 256-b=(256-(b+1))+1 by omega,List.replicate_succ];have:b-(row.map (Value.int .i64)).length=0:=by simp;omega
        rw[this,List.set_cons_zero];simp
       have hblt:0+b*1<(row.map (Value.int .i64)++List.replicate (256-b) (Value.int .i64 0)).length:=by rw[hcells];omega
       have hzge:h2.size<=g.size:=mkg.ext.size
       have fin:∀(gA gB:ai) (vA:Value) (ofA:List Nat) (to:Int),ey h2 gA cls h2.size h3.size vA vn vr ofA next rule->aD gA g.size 147 (row.map (Value.int .i64)++List.replicate (256-b) (Value.int .i64 0))->gB=dV gA ⟨g.size,0+b*1,none⟩ (.int .i64 to)->cP live cls of t=(ofA,to)->∃of' row,ey h2 gB cls h2.size h3.size vA vn vr of' next rule/\(b+1<=256/\row.length=b+1)/\aD gB g.size 147 (row.map (Value.int .i64)++List.replicate (256-(b+1)) (Value.int .i64 0))/\of'[i]? =some kk/\Dn d.next.length of'/\fO live cls (r.v.drop (b+1)) of' row=tgt:=by
        rintro gA gB vA ofA to mA kA hgB hst;have k6:=kA.set (0+b*1) (.int .i64 to);rw[<-hgB,hset] at k6;have x6:Ext (fun y=>y=g.size) gA gB:=by rw[hgB];exact Ext.dV _ _ _ rfl
        rw[hst] at hso hsg hrow;exact⟨ofA,row++[to],mA.put x6 kA.ty hvz hzge,⟨hb2,by simp[hrlen]⟩,k6,hsg,hso,hrow⟩
       refine af ?_;refine xp rfl (ay.wv underlying147 H.nD H.NO rfl rfl b rfl hb2 (show (bP r).toArray[b]? =some (Value.int .i64 t) by simp[bP,ht])) ?_
       iterate 2 refine aW ?_
       refine cX ?_
       iterate 2 refine aX ?_
       refine cD ?_
       iterate 3 refine aW ?_
       refine dG 51 (fun hg=>?_) (fun hg=>?_)
       · have hg':=of_decide_eq_true hg;refine af ?_;refine fF rfl (by simp) ?_;refine aX ?_;refine cD ?_;refine aW ?_;refine xp rfl (zW rfl rfl b rfl (by omega)) ?_;refine aM rfl (bX H.nD rfl rfl rfl (kz.cell (List.getElem?_eq_getElem hblt)) kz.nf) ?_;rintro _ g6 ⟨rfl,hg6⟩;have ff:=fin g2 g6 _ of (-1) mk kz hg6 (by rw[cP,if_pos (.inl hg')]);refine af ?_;exact ih2 (b+1,_) ff
       · have hg':=of_decide_eq_false hg;obtain⟨t2,rfl⟩:=Int.eq_ofNat_of_zero_le (show 0<=t by omega);obtain⟨bt,hbt⟩:∃bt,live[t2]? =some bt:=⟨_,List.getElem?_eq_getElem (by omega)⟩
         have hlt2:live.getD t2 false=bt:=by rw[List.getD_eq_getElem?_getD,hbt];rfl
         obtain⟨oa',n',c',hv',_,_,_,hgetv⟩:=id (hsV.mv (Mv.ah mk.ext));cases hv';obtain⟨b3,o3,cs3,ha3,_,hrow3,rfl⟩:=hgetv t2 bt hbt
         iterate 2 refine aW ?_
         refine xp rfl (cz rfl rfl t2 rfl ha3) ?_;refine xp rfl (aA rfl (hrow3 0 _ rfl)) ?_;refine af ?_;refine iM (fun hb=>?_) (fun hb=>?_)
         · have hb':bt=false:=by simpa using hb
           refine aX ?_;refine cD ?_;refine aW ?_;refine xp rfl (zW rfl rfl b rfl (by omega)) ?_;refine aM rfl (bX H.nD rfl rfl rfl (kz.cell (List.getElem?_eq_getElem hblt)) kz.nf) ?_;rintro _ g6 ⟨rfl,hg6⟩;have ff:=fin g2 g6 _ of (-1) mk kz hg6 (by rw[cP,if_pos (.inr (by show live.getD t2 false=false;rw[hlt2,hb']))]);refine af ?_;exact ih2 (b+1,_) ff
         · have hb':bt=true:=by simpa using hb
           obtain⟨c2,hc2⟩:∃c2,cls[t2]? =some c2:=⟨_,List.getElem?_eq_getElem (by omega)⟩
           have hgd2:cls.getD t2 0=c2:=by rw[List.getD_eq_getElem?_getD,hc2];rfl
           have hneg:¬(((t2:Nat):Int)<0\/live.getD ((t2:Nat):Int).toNat false=false):=by
            rintro(e|e)
            · exact hg' e
            · rw[Int.toNat_natCast,hlt2,hb'] at e;cases e
           have hstep:cP live cls of ((t2:Nat):Int)=match pL cls 0 of c2 with|some i=>(of,(i:Int))|none=>(of++[t2],(of.length:Int)):=by
            rw[cP,if_neg hneg,Int.toNat_natCast,hgd2]<;>rfl
           obtain⟨oa',n',c',hv',_,_,_,hgetc⟩:=id (hsC.mv (Mv.ah mk.ext));cases hv';obtain⟨b4,o4,cs4,ha4,_,hrow4,rfl⟩:=hgetc t2 c2 hc2
           iterate 2 refine aX ?_
           refine cD ?_
           iterate 3 refine aW ?_
           refine xp rfl (cz rfl rfl t2 rfl ha4) ?_;refine xp rfl (aA rfl (hrow4 0 _ rfl)) ?_;refine xp rfl (ay.vQ (z:=.int .i64 0) (kB.int .i64) underlying154 underlying3 (by kernel_rfl) rfl rfl rfl mk.mp) ?_;rw[sG]
           rcases hfind:pL cls 0 of c2 with _|i0
           · rw[hfind] at hstep;simp only at hstep;have hnone:mg c2 (lM cls 0 of)=none:=by rw[sG,hfind];rfl
             refine af ?_;refine fF rfl (by simp) ?_;refine aX ?_;refine cD ?_
             iterate 3 refine aW ?_
             refine cX ?_;refine aX ?_;refine cD ?_
             iterate 3 refine aW ?_
             refine xp rfl (cz rfl rfl t2 rfl ha4) ?_;refine xp rfl (aA rfl (hrow4 0 _ rfl)) ?_;refine af ?_;refine aM rfl (aQ.mapUpdate (v:=((of.length:Nat):Int)) (kB.int .i64) underlying154 underlying3 rfl rfl rfl rfl rfl mk.mp hnone) ?_;rintro _ g3 ⟨rfl,hm3,x3,z3'⟩;have hm3:fK (Value.int .i64) (Value.int .i64) g3 h3.size (lM cls 0 (of++[t2])):=by rw[vf,Nat.zero_add,hgd2];exact hm3
             have mne:∀{b:Nat}{t:TypeId},de g2 b t->¬b=h3.size:=fun kt e=>mk.mp.ne kt e.symm
             have ol3:aB g3 h2.size 3 1 (.slice oa of.length oc) of.length (of.map dZ):=aB.ext x3 mk.ol (fun b hb=>mne (mk.Ox b hb));have kz3:=kz.ext x3 (mne kz.ty);have hz2g:=mk.ext.size;refine af ?_;refine xo rfl (iL [_]) ?_;rintro _ _ ⟨rfl,rfl⟩;refine xo rfl (uH rfl rfl ol3 rfl rfl) ?_;rintro v7 g4 ⟨ho4,hx4,hx4',hv4⟩;have mk4:=mk.more (t:=t2) x3 hm3 rfl ho4 hx4 hv4;have kz4:=kz3.ext hx4 (fun e=>(show de g3 _ 3 from aB.ty ol3 e.symm).ne kz3.ty (by decide) rfl);obtain⟨v7a,v7c,rfl,_⟩:=ho4.open;refine aW ?_;refine cX ?_;refine cD ?_
             iterate 2 refine aW ?_
             refine xp rfl (zW rfl rfl b rfl (by omega)) ?_;refine aM rfl (bX H.nD rfl rfl rfl (kz4.cell (List.getElem?_eq_getElem hblt)) kz4.nf) ?_;rintro _ g6 ⟨rfl,hg6⟩;have ff:=fin g4 g6 _ (of++[t2]) (of.length:Nat) mk4 kz4 hg6 hstep;refine af ?_;exact ih2 (b+1,_) ff
           · rw[hfind] at hstep;simp only at hstep;refine af ?_;refine fe rfl (by simp) ?_;refine aX ?_;refine cD ?_
             iterate 2 refine aW ?_
             refine xp rfl (zW rfl rfl b rfl (by omega)) ?_;refine aM rfl (bX H.nD rfl rfl rfl (kz.cell (List.getElem?_eq_getElem hblt)) kz.nf) ?_;rintro _ g6 ⟨rfl,hg6⟩;have ff:=fin g2 g6 _ of (i0:Nat) mk kz hg6 hstep;refine af ?_;exact ih2 (b+1,_) ff
     · obtain rfl:b=256:=by omega
       rw[List.drop_of_length_le (by rw[r.len];exact Nat.le_refl _),fO] at hrow;subst hrow;simp only at hcon;have hencr:bP (kL row)=row.map (Value.int .i64):=by rw[bP,uA hrlen]
       rw[Nat.sub_self,List.replicate_zero,List.append_nil,<-hencr] at kz;have hil2:i<of.length:=(List.getElem?_eq_some_iff.1 hcur).1
       have nne:∀{b:Nat}{t:TypeId},de g2 b t->147≠t->¬(cv vn.ownBlock b\/Array.size g2<=b):=fun kt ht e=>by
        rcases e with e|e
        · exact(mk.GH _ e.symm).ne kt ht rfl
        · have:=kt.lt;omega
       have hzM:¬(cv vn.ownBlock g.size\/Array.size g2<=g.size):=by
        rintro(e|e)
        · exact hvz e.symm
        · have:=kz.lt;omega
       have hdM:=nne mk.dblk.ty (by decide);have hnx:aB g2 h2.size 147 256 vn next.length (next.flatMap bP):=mk.nx
       have hone:∀u∈bP (kL row),u.oneCell'=true:=fun u hu=>by simp[bP] at hu;obtain⟨_,_,rfl⟩:=hu;rfl
       have hg2:=mk.ext.size;refine af ?_;refine me 11 (fun b=>cv vn.ownBlock b\/Array.size g2<=b) (fun i=>Nat.blt i 10) ?_;refine aI 0 ?_;refine aI 1 ?_;refine aI 2 ?_;refine aI 3 ?_;refine bI 4 rfl (fun h' e=>aA rfl (e.cell hdM (mk.dblk.cell (i:=0) rfl))) ?_;refine bI 5 rfl (fun h' e=>bY rfl (e.rowAt hzM kz.row)) ?_;refine dH 6 rfl (aQ.xe (cs:=bP (kL row)) underlying141 H.FK rfl (mU _) (by decide)) ?_;rintro _ _ ⟨rfl,rfl⟩;refine⟨fun _=>(Ext.push _ _ _),?_⟩;refine dH 7 rfl (aQ.zP underlying141 H.FK rfl rfl hnx rfl (by simp) hone (by simp only[maxLen];omega) (by omega) hg2) ?_;rintro v3 g3 ⟨ho3,hx3,hx3',hv3⟩;refine⟨fun _=>hx3'.mono (fun _ _ k=>.inl k),?_⟩;obtain⟨a3,c3,rfl,_⟩:=ho3.open;refine LS 8 ?_;refine aI 9 ?_;refine kX 10 rfl (mj rfl rfl ((mk.dblk.ext hx3 (fun e=>hdM (.inl e))))) ?_;rintro _ g4 ⟨rfl,k4,x4,z4⟩;refine⟨nofun,?_⟩;have mk4:=mk.MF (r:=kL row) rfl ho3 hx3 k4 x4;obtain⟨vn0,vr0,kd4,_,⟨ra,rn,rc,rfl,hrl0,hrc,hrm,hgetr⟩⟩:=id k2;obtain⟨x,hx⟩:∃x,d.rule[kk]? =some x:=⟨_,List.getElem?_eq_getElem (by omega)⟩
       have hru0:d.ru kk=x:=by unfold bG.ru;rw[List.getD_eq_getElem?_getD,hx];rfl
       obtain⟨b5,o5,cs5,ha5,hO5,hrow5,rfl⟩:=hgetr kk x hx;obtain⟨gg5,c5,hv5,_,_,hcell5,_,_⟩:=mk4.ol.at hcur;have hoa5:oa=some ⟨gg5,0,none⟩:=by cases hv5;rfl
       have rne:∀{b:Nat}{t:TypeId},de g4 b t->3≠t->¬(cv vr.ownBlock b\/Array.size g4<=b):=fun kt ht e=>by
        rcases e with e|e
        · exact(mk4.Fp _ e.symm).ne kt ht rfl
        · have:=kt.lt;omega
       have hdM4:=rne mk4.dblk.ty (by decide);have hru:aB g4 h2.size 3 1 vr rule.length (rule.map (Value.int .i64)):=mk4.ru;have hg4s:=mk4.ext.size
       have olb:∀{b:Nat},b<h2.size->¬(cv vr.ownBlock b\/Array.size g4<=b):=fun kb e=>by
        rcases e with e|e
        · have:=(aB.lt mk4.ru e.symm).1;omega
        · omega
       have hc4:=kd4.cell (i:=1) rfl;have hd4:=olb (dM hc4);have hc5:cellAt h2 _=some (Value.int .i64 x):=hrow5 0 _ rfl;have hd5:=olb (dM hc5)
       have hd6:¬(cv vr.ownBlock gg5\/Array.size g4<=gg5):=fun e=>by
        rcases e with e|e
        · exact mk4.ne gg5 (by rw[hoa5];rfl) e.symm
        · have:=dM hcell5;simp only at this;omega
       refine iT ?_;refine me 20 (fun b=>cv vr.ownBlock b\/Array.size g4<=b) (fun i=>Nat.blt i 19) ?_;refine aI 0 ?_;refine aI 1 ?_;refine aI 2 ?_;refine aI 3 ?_;refine bI 4 rfl (fun h' e=>aA rfl (e.cell hdM4 (mk4.dblk.cell (i:=1) rfl))) ?_;refine aI 5 ?_;refine aI 6 ?_;refine aI 7 ?_;refine bI 8 rfl (fun h' e=>aA rfl (e.cell hd4 (mk4.ext.cell (fun k=>k) hc4))) ?_;refine aI 9 ?_;refine aI 10 ?_;refine bI 11 rfl (fun h' e=>cz rfl rfl i rfl hoa5) ?_;refine bI 12 rfl (fun h' e=>aA rfl (e.cell hd6 hcell5)) ?_;refine bI 13 rfl (fun h' e=>cz rfl rfl kk rfl ha5) ?_;refine bI 14 rfl (fun h' e=>aA rfl (e.cell hd5 (mk4.ext.cell (fun k=>k) hc5))) ?_;refine dH 15 rfl (iL [_]) ?_;rintro _ _ ⟨rfl,rfl⟩;refine⟨fun _=>by first|exact Ext.push _ _ _|assumption,?_⟩;refine dH 16 rfl (uH rfl rfl hru rfl rfl) ?_;rintro v6 g6 ⟨ho6,hx6,hx6',hv6⟩;refine⟨fun _=>hx6'.mono (fun _ _ k=>.inl k),?_⟩;obtain⟨a6,c6,rfl,_⟩:=ho6.open;refine LS 17 ?_;refine aI 18 ?_;refine kX 19 rfl (mj rfl rfl ((mk4.dblk.ext hx6 (fun e=>hdM4 (.inl e))))) ?_;rintro _ g7 ⟨rfl,k7,x7,z7⟩;refine⟨nofun,?_⟩;have mk7:=mk4.ME (x:=x) rfl ho6 hx6 hv6 k7 x7;refine iT ?_;refine af ?_;exact ih (i+1,_) ⟨_,_,of,next++[kL row],rule++[x],mk7,hil2,hok2,⟨by simp[hnl],by simp[hrl]⟩,by rw[<-hru0,show d.next.length+1-(i+1)=n by omega];exact hcon⟩
   · obtain rfl:i=of.length:=by omega
     obtain⟨n,hnn⟩:∃n,d.next.length+1-of.length=n+1:=⟨d.next.length-of.length,by omega⟩
     rw[hnn,Cw,List.getElem?_eq_none (Nat.le_refl _)] at hcon;simp only at hcon;refine af ?_;refine bp ?_;have hz02:=(e1.trans e2).size;refine⟨_,rfl,⟨h2.size,rfl,?_⟩,(e1.trans e2).trans mk.ext⟩;rw[<-hcon];exact⟨vn,vr,by omega,mk.dblk,mh.read mk.nx (fun b hb k=>by omega),bN.read (h1:=fun _=>rfl) mk.ru (fun b hb k=>by omega)⟩
end Go.Proofs.YtoickfdopobmgaaGreatDoor
namespace Go.Proofs.YtoickfdopobmgaaGreatDoor
open Go
section
variable {ss:List aZ}{st s k t:Nat}{cls:List Int}
def xR (L:List (List Nat)) (l:List Nat) (to:Int):Prop:=(l.length=0/\to= -1)\/(l.length≠0/\∃i:Nat,to=(i:Int)/\L[i]? =some l)
theorem xR.mono {L L':List (List Nat)}{l:List Nat}{to:Int}(k:xR L l to) (h:L <+: L'):xR L' l to:=by
  rcases k with k|⟨k,i,e,hi⟩
  · exact .inl k
  · obtain⟨t,rfl⟩:=h;exact .inr ⟨k,i,e,by rw[List.getElem?_append_left (List.getElem?_eq_some_iff.1 hi).1];exact hi⟩
theorem Az (ss:List aZ) (cur:List Nat) (lists:List (List Nat)) (b:Nat) (hn:lists.Nodup) :
    lists <+: (dB ss cur lists b).1/\(dB ss cur lists b).1.Nodup/\xR (dB ss cur lists b).1 (bV ss (UInt8.ofNat b) cur) (dB ss cur lists b).2:=by
  unfold dB;split
  · rename_i h;exact⟨List.prefix_refl _,hn,.inl ⟨h,rfl⟩⟩
  · rename_i h;split
    · rename_i i hi;exact⟨List.prefix_refl _,hn,.inr ⟨h,i,rfl,(ql lists 0 i _ hi).2⟩⟩
    · rename_i hi;refine⟨List.prefix_append _ _,List.nodup_append.2 ⟨hn,by simp,fun x hx y hy e=>?_⟩,.inr ⟨h,lists.length,rfl,by simp⟩⟩;have:y=bV ss (UInt8.ofNat b) cur:=by simpa using hy
      exact wH lists 0 _ hi (by rw[<-this,<-e];exact hx)
theorem sd (ss:List aZ) (cur:List Nat):∀(n b:Nat) (lists:List (List Nat)) (row:List Int),lists.Nodup ->
    lists <+: (mI ss cur n b lists row).1/\(mI ss cur n b lists row).1.Nodup/\∃ys,(mI ss cur n b lists row).2=row++ys/\ys.length=n/\∀(j:Nat) (y:Int),ys[j]? =some y->xR (mI ss cur n b lists row).1 (bV ss (UInt8.ofNat (b+j)) cur) y
  | 0,b,lists,row,hn=>⟨List.prefix_refl _,hn,[],by simp[mI],rfl,fun j y h=>by simp at h⟩
  |n+1,b,lists,row,hn=>by
    obtain⟨h1,h2,h3⟩:=Az ss cur lists b hn;obtain⟨k1,k2,ys,k3,k4,k5⟩:=sd ss cur n (b+1) (dB ss cur lists b).1 (row++[(dB ss cur lists b).2]) h2;rw[mI];refine⟨h1.trans k1,k2,(dB ss cur lists b).2::ys,by rw[k3];simp,by simp[k4],fun j y hy=>?_⟩;cases j with
    |zero =>
      simp only[List.getElem?_cons_zero,Option.some.injEq] at hy;subst hy;exact h3.mono k1
    |succ j =>
      rw[List.getElem?_cons_succ] at hy;have:=k5 j y hy
      rwa [show b+(j+1)=b+1+j by omega]
structure oB (ss:List aZ) (st:Nat) (lists:List (List Nat)) (d:bG):Prop where
  first:lists[0]? =some (bR ss st)
  once:lists.Nodup
  size:lists.length<=2000
  rlen:d.rule.length=d.next.length
  row:∀(k:Nat) (r:Row) (l:List Nat),d.next[k]? =some r->lists[k]? =some l->∀(b:Nat) (y:Int),r.v[b]? =some y->xR lists (bV ss (UInt8.ofNat b) l) y
  rule:∀(k:Nat) (x:Int) (l:List Nat),d.rule[k]? =some x->lists[k]? =some l->x=aL ss l
theorem tN {ss:List aZ}{st:Nat}:∀(n k:Nat) (lists:List (List Nat)) (next:List Row) (rule:List Int) (d:bG),oB ss st lists ⟨next,rule⟩->next.length=k->k<=lists.length->lu ss n k lists next rule=some d->∃L,lists <+: L/\oB ss st L d/\L.length=d.next.length
  | 0,k,lists,next,rule,d,h,hk,hkl,hd=>by cases hd
  |n+1,k,lists,next,rule,d,h,hk,hkl,hd=>by
    rw[lu] at hd;split at hd
    · rename_i hn;cases hd;have:=List.getElem?_eq_none_iff.1 hn;exact⟨lists,List.prefix_refl _,h,by show lists.length=next.length;omega⟩
    · rename_i cur hcur;obtain⟨h1,h2,ys,h3,h4,h5⟩:=sd ss cur 256 0 lists [] h.once;split at hd
      · cases hd
      · rename_i hsz;have hkl2:=(List.getElem?_eq_some_iff.1 hcur).1
        have hpre:∀(i:Nat) (l:List Nat),i<lists.length->(mI ss cur 256 0 lists []).1[i]? =some l->lists[i]? =some l:=fun i l hi hl=>by
          obtain⟨t,ht⟩:=h1;rw[<-ht,List.getElem?_append_left hi] at hl;exact hl
        have hpre2:∀(i:Nat) (l:List Nat),lists[i]? =some l->(mI ss cur 256 0 lists []).1[i]? =some l:=fun i l hl=>by
          obtain⟨t,ht⟩:=h1;rw[<-ht,List.getElem?_append_left (List.getElem?_eq_some_iff.1 hl).1];exact hl
        have hlen:=h1.length_le;have hrl:rule.length=next.length:=h.rlen
        obtain⟨L,g1,g2,g3⟩:=tN (st:=st) n (k+1) _ _ _ d ⟨hpre2 _ _ h.first,h2,by omega,by simp[hrl],fun i r l hr hl b y hy=>by
          rcases Nat.lt_or_ge i next.length with hi|hi
          · rw[List.getElem?_append_left hi] at hr;exact(h.row i r l hr (hpre i l (by omega) hl) b y hy).mono h1
          · have hik:i=next.length:=by
              have:=(List.getElem?_eq_some_iff.1 hr).1;simp at this;omega
            subst hik;simp only[List.getElem?_concat_length,Option.some.injEq] at hr;subst hr;have hlc:=hpre _ l (by omega) hl;rw[hk] at hlc;rw[hcur] at hlc;cases hlc;rw[h3,List.nil_append,uA h4] at hy;have:=h5 b y hy
            rwa [Nat.zero_add] at this,fun i x l hx hl=>by
          rcases Nat.lt_or_ge i rule.length with hi|hi
          · rw[List.getElem?_append_left hi] at hx;exact h.rule i x l hx (hpre i l (by omega) hl)
          · have hik:i=rule.length:=by
              have:=(List.getElem?_eq_some_iff.1 hx).1;simp at this;omega
            subst hik;simp only[List.getElem?_concat_length,Option.some.injEq] at hx;subst hx;have hlc:=hpre _ l (by omega) hl;rw[hrl,hk,hcur] at hlc;cases hlc;rfl⟩ (by simp[hk]) (by omega) hd
        exact⟨L,h1.trans g1,g2,g3⟩
theorem xI {ss:List aZ}(hr:∀x∈ss,x.rule<=1000000):∀(l:List Nat) (b:Int),-1<=b/\b<=1000000-> -1<=rL ss l b/\rL ss l b<=1000000
  | [],b,h=>h
  |j::r,b,h=>by
    rw[rL];refine xI hr r _ ?_;split
    · rename_i x hx;split
      · have:=hr x (List.mem_of_getElem? hx);omega
      · exact h
    · exact h
theorem xG (hr:∀x∈ss,x.rule<=1000000) (l:List Nat) : -1<=aL ss l/\aL ss l<=1000000:=by
  unfold aL;split
  · omega
  · exact xI hr l (-1) (by omega)
theorem oB.ok {L:List (List Nat)}{d:bG}(k:oB ss st L d) (hL:L.length=d.next.length) (hr:∀x∈ss,x.rule<=1000000):d.Ok:=by
  refine⟨k.rlen,by rw[<-hL];exact k.size,fun r hrm x hx=>?_,fun x hx=>?_⟩
  · obtain⟨i,hi⟩:=List.getElem?_of_mem hrm;obtain⟨j,hj⟩:=List.getElem?_of_mem hx;have hil:=(List.getElem?_eq_some_iff.1 hi).1;have hl:L[i]? =some (L[i]'(by omega)):=List.getElem?_eq_getElem _
    rcases k.row i r _ hi hl j x hj with ⟨_,rfl⟩|⟨_,i2,rfl,h2⟩
    · omega
    · have:=(List.getElem?_eq_some_iff.1 h2).1;omega
  · obtain⟨i,hi⟩:=List.getElem?_of_mem hx;have hil:=(List.getElem?_eq_some_iff.1 hi).1;have hl:L[i]? =some (L[i]'(by rw[hL,<-k.rlen];exact hil)):=List.getElem?_eq_getElem _;rw[k.rule i x _ hi hl];exact xG hr _
theorem jt {d:bG}(h:gC ss st= .inr d):(bR ss st).length≠0/\∃L,oB ss st L d/\L.length=d.next.length/\0<L.length:=by
  unfold gC at h;split at h
  · cases h
  · rename_i hs;refine⟨hs,?_⟩;split at h
    · cases h
    · rename_i d' hd;cases h;obtain⟨L,h1,h2,h3⟩:=tN (st:=st) 2002 0 [bR ss st] [] [] d ⟨rfl,by simp,by simp,rfl,fun k r l hr=>by simp at hr,fun k x l hx=>by simp at hx⟩ rfl (by simp) hd;exact⟨L,h2,h3,by have:=(List.getElem?_eq_some_iff.1 h2.first).1;omega⟩
theorem Hh {d:bG}(h:gC ss st= .inr d) (hr:∀x∈ss,x.rule<=1000000):d.Ok:=by
  obtain⟨_,L,h1,h2,_⟩:=jt h;exact h1.ok h2 hr
theorem oB.to {ss:List aZ}{st0:Nat}{L:List (List Nat)}{d:bG}(k:oB ss st0 L d) (hL:L.length=d.next.length){st:Nat}{now:List Nat}(hn:L[st]? =some now) (c:UInt8):xR L (bV ss c now) (d.to st c):=by
  have hl:=(List.getElem?_eq_some_iff.1 hn).1;have hr:d.next[st]? =some (d.next[st]'(by omega)):=List.getElem?_eq_getElem _
  obtain⟨x,hx,he,hm⟩:=(d.next[st]'(by omega)).at c;unfold bG.to;rw[hr];simp only;rw[he];have:=k.row st _ now hr hn c.toNat x hx
  rwa [UInt8.ofNat_toNat] at this
theorem oB.ru {ss:List aZ}{st0:Nat}{L:List (List Nat)}{d:bG}(k:oB ss st0 L d) (hL:L.length=d.next.length){st:Nat}{now:List Nat}(hn:L[st]? =some now):d.ru st=aL ss now:=by
  have hl:=(List.getElem?_eq_some_iff.1 hn).1;have hlt:st<d.rule.length:=by rw[k.rlen];omega
  have hr:d.rule[st]? =some (d.rule[st]'hlt):=List.getElem?_eq_getElem _;have:=k.rule st _ now hr hn;unfold bG.ru;rw[List.getD_eq_getElem?_getD,hr];exact this
theorem tM {ss:List aZ}{st0:Nat}{L:List (List Nat)}{d:bG}(k:oB ss st0 L d) (hL:L.length=d.next.length):∀(l:By) (st j:Nat) (now:List Nat) (b:Int×Int),L[st]? =some now->now.length≠0 ->
    ((aK d l st j b).1,(aK d l st j b).2.1)=gv ss l now j b
  | [],st,j,now,b,hn,h0=>by
    rw[aK,gv,if_neg h0,k.ru hL hn];split<;>rfl
  |c::l,st,j,now,b,hn,h0=>by
    rw[aK,gv,if_neg h0,k.ru hL hn]
    rcases k.to hL hn c with ⟨e,h⟩|⟨e,i,h,hi⟩
    · rw[h,if_neg (by decide),qd e];split<;>rfl
    · rw[h,if_pos (by omega),Int.toNat_natCast];exact tM k hL l i (j+1) _ _ hi e
theorem rF {d:bG}(h:gC ss st= .inr d) (hs:ss.length≠0) (l:By):((aK d l 0 0 (0,-1)).1,(aK d l 0 0 (0,-1)).2.1)=cY ss st l:=by
  obtain⟨h0,L,h1,h2,_⟩:=jt h;rw[cY,if_neg hs];exact tM h1 h2 l 0 0 _ _ h1.first h0
def bG.go (d:bG):By->Int->Int
  | [],s=>s
  |c::l,s=>bG.go d l (if s<0 then -1 else d.to s.toNat c)
def bG.fM (d:bG) (s:Int) (w:By):Int:=if d.go w s<0 then -1 else d.ru (d.go w s).toNat
theorem go_neg (d:bG):∀(w:By) (s:Int),s<0->d.go w s<0
  | [],s,h=>h
  |c::l,s,h=>by
    rw[bG.go,if_pos h];exact go_neg d l (-1) (by decide)
theorem lN (d:bG) (w:By){s:Int}(h:s<0):d.fM s w= -1:=by rw[bG.fM,if_pos (go_neg d w s h)]
theorem dJ (d:bG) (k:Nat):d.fM (k:Int) []=d.ru k:=by
  rw[bG.fM,bG.go,if_neg (by omega),Int.toNat_natCast]
theorem dY (d:bG) (k:Nat) (c:UInt8) (w:By):d.fM (k:Int) (c::w)=d.fM (d.to k c) w:=by
  have h:¬((k:Int)<0):=by omega
  rw[bG.fM,bG.fM,bG.go,if_neg h,Int.toNat_natCast]
def Ko (d:bG) (k:Nat):Prop:=∃w,0<=d.fM (k:Int) w
def iC (d:bG) (out:List Bool):Prop:=∀k:Nat,out.getD k false=true->Ko d k
theorem Iy {d:bG}{t:Int}(h:t∈d.row k):∃c:UInt8,d.to k c=t:=by
  unfold bG.row at h;split at h
  · rename_i r hr;obtain⟨i,hi⟩:=List.getElem?_of_mem h;have hl:=(List.getElem?_eq_some_iff.1 hi).1;rw[r.len] at hl;refine⟨UInt8.ofNat i,?_⟩;have hc:(UInt8.ofNat i).toNat=i:=by simp;omega
    unfold bG.to;rw[hr];simp only;rw[hc,List.getD_eq_getElem?_getD,hi];rfl
  · cases h
theorem Mx {d:bG}(c:UInt8) (h:k<d.next.length):d.to k c∈d.row k:=by
  have hr:d.next[k]? =some (d.next[k]'h):=List.getElem?_eq_getElem _
  obtain⟨x,hx,he,hm⟩:=(d.next[k]'h).at c;unfold bG.to bG.row;rw[hr];simp only;rw[he];exact hm
theorem AN {d:bG}{out:List Bool}(h:iC d out) (k:Nat) (ha:dx d out k=true):Ko d k:=by
  unfold dx at ha
  rcases Bool.or_eq_true _ _▸ha with e|e
  · exact⟨[],by rw[dJ];exact of_decide_eq_true e⟩
  · obtain⟨t,ht,hl⟩:=List.any_eq_true.1 e;unfold gx at hl;rw[Bool.and_eq_true] at hl;have h0:=of_decide_eq_true hl.1;obtain⟨c,hc⟩:=Iy ht;obtain⟨w,hw⟩:=h t.toNat hl.2;refine⟨c::w,?_⟩;rw[dY,hc]
    rwa [Int.toNat_of_nonneg h0] at hw
theorem Gn {d:bG}{out:List Bool}(h:iC d out) (k:Nat):iC d (out.set k (dx d out k)):=by
  intro j hj
  by_cases e:k=j
  · subst e;rw[List.getD_eq_getElem?_getD] at hj
    by_cases hk:k<out.length
    · rw[List.getElem?_set_self hk] at hj;exact AN h k hj
    · rw[List.getElem?_eq_none (by simp;omega)] at hj;cases hj
  · rw[List.getD_eq_getElem?_getD,List.getElem?_set_ne e,<-List.getD_eq_getElem?_getD] at hj;exact h j hj
theorem jV {d:bG}:∀(n k:Nat) (out:List Bool) (ag:Bool),iC d out->iC d (bQ d n k out ag).1
  | 0,_,_,_,h=>h
  |n+1,k,out,ag,h=>by
    rw[bQ];split
    · exact jV n (k+1) out ag h
    · exact jV n (k+1) _ _ (Gn h k)
theorem jU {d:bG}:∀(n k:Nat) (out:List Bool) (ag:Bool),k+n<=out.length->(bQ d n k out ag).2=false->(bQ d n k out ag).1=out/\∀j,k<=j->j<k+n->out.getD j false=false->dx d out j=false
  | 0,_,_,_,_,_=>⟨rfl,fun j h1 h2=>by omega⟩
  |n+1,k,out,ag,hk,h=>by
    rw[bQ] at h ⊢;split at h
    · rename_i hg;rw[if_pos hg];obtain⟨h1,h2⟩:=jU n (k+1) out ag (by omega) h
      exact⟨h1,fun j hj1 hj2 hj3=>by
        by_cases e:j=k
        · subst e;rw[hg] at hj3;cases hj3
        · exact h2 j (by omega) (by omega) hj3⟩
    · rename_i hg;rw[if_neg hg]
      have hf:out[k]? =some false:=by
        rw[List.getD_eq_getElem?_getD,List.getElem?_eq_getElem (by omega)] at hg;rw[List.getElem?_eq_getElem (by omega)];simpa using hg
      obtain⟨h1,h2⟩:=jU n (k+1) _ _ (by simp;omega) h
      have hb:dx d out k=false:=by
        cases hb:dx d out k with
        |false=>rfl
        |true =>
          exfalso;rw[hb,Bool.or_true] at h
          have hmono:∀(n k:Nat) (out:List Bool),(bQ d n k out true).2=true:=fun n=>by
            induction n with
            |zero=>intro k out;rfl
            |succ n ih=>intro k out;rw[bQ];split<;>simp[ih]
          rw[hmono] at h;cases h
      have hset:out.set k (dx d out k)=out:=by
        rw[hb]
        apply List.ext_getElem?
        intro j
        by_cases e:k=j
        · subst e;rw[List.getElem?_set_self (by omega),hf]
        · rw[List.getElem?_set_ne e]
      rw[hset] at h1 h2;rw[hset]
      exact⟨h1,fun j hj1 hj2 hj3=>by
        by_cases e:j=k
        · subst e;exact hb
        · exact h2 j (by omega) (by omega) hj3⟩
def xQ (d:bG) (out:List Bool):Prop:=∀k,k<d.next.length->out.getD k false=false->dx d out k=false
theorem vS {d:bG}:∀(n:Nat) (out:List Bool),out.length=d.next.length->gz out<n->iC d out->iC d (qU d n out)/\xQ d (qU d n out)
  | 0,_,_,h,_=>absurd h (Nat.not_lt_zero _)
  |n+1,out,hl,hf,hs=>by
    have hless:=iH d d.next.length 0 out false (by omega)
    have hsp:=jV d.next.length 0 out false hs
    rw[qU];split
    · rename_i ht
      rcases hless.2 ht with e|e
      · cases e
      · exact vS n _ (by rw[gO];exact hl) (by omega) hsp
    · rename_i ht;have hst:=jU d.next.length 0 out false (by omega) (by simpa using ht)
      rw[hst.1];exact⟨hs,fun k hk hko=>hst.2 k (Nat.zero_le _) (by omega) hko⟩
theorem rH {d:bG}{out:List Bool}(hok:d.Ok) (h:xQ d out):∀(w:By) (k:Nat),k<d.next.length->0<=d.fM (k:Int) w->out.getD k false=true
  | [],k,hk,hw=>by
    rw[dJ] at hw;cases ho:out.getD k false with
    |true=>rfl
    |false =>
      have:=h k hk ho;unfold dx at this;rw[decide_eq_true hw] at this;cases this
  |c::w,k,hk,hw=>by
    rw[dY] at hw;have ht:=bG.qH hok (s:=k) c
    have h0:0<=d.to k c:=by
      by_cases e:d.to k c<0
      · rw[lN d w e] at hw;omega
      · omega
    obtain⟨t,htt⟩:=Int.eq_ofNat_of_zero_le h0;rw[htt] at hw;have ih:=rH hok h w t (by omega) hw;cases ho:out.getD k false with
    |true=>rfl
    |false =>
      have:=h k hk ho;unfold dx at this;rw[Bool.or_eq_false_iff] at this;have h2:=List.any_eq_false.1 this.2 _ (Mx c hk);unfold gx at h2;rw[htt,Int.toNat_natCast,ih] at h2;simp at h2
theorem vR {d:bG}(hok:d.Ok) (hk:k<d.next.length):(bg d).getD k false=true↔Ko d k:=by
  have h:=vS (d:=d) (d.next.length+1) (List.replicate d.next.length false) (by simp) (by
    have:gz (List.replicate d.next.length false)<=d.next.length:=by unfold gz;exact Nat.le_trans (List.length_filter_le _ _) (by simp)
    omega) (fun k hk=>by
      rw[List.getD_eq_getElem?_getD,List.getElem?_replicate] at hk;split at hk<;>cases hk)
  exact⟨h.1 k,fun⟨w,hw⟩=>rH hok h.2 w k hk hw⟩
structure FZ (d:bG) (live:List Bool) (cls:List Int) (k:Nat) (seen:List (List Int)) (after:List Int):Prop where
  len:after.length=k
  once:seen.Nodup
  at_:∀j,j<k->∃i:Nat,after[j]? =some (i:Int)/\seen[i]? =some (fk d live cls j)
theorem wJ:∀(ls:List (List Int)) (i:Nat) (l:List Int),kN i ls l=none->l∉ls
  | [],i,l,_=>List.not_mem_nil
  |x::r,i,l,h=>by
    rw[kN] at h;split at h
    · cases h
    · rename_i e;have:=wJ r (i+1) l h;simp only[List.mem_cons,not_or];exact⟨e,this⟩
theorem lz {d:bG}{live:List Bool}{cls:List Int}:∀(n k:Nat) (seen:List (List Int)) (after:List Int),FZ d live cls k seen after->FZ d live cls (k+n) (aV d live cls n k seen after).1 (aV d live cls n k seen after).2
  | 0,k,seen,after,h=>h
  |n+1,k,seen,after,h=>by
    rw[aV,show k+(n+1)=(k+1)+n by omega];split
    · rename_i i hi;have hi':=qn seen 0 i _ hi;refine lz n (k+1) _ _ ⟨by simp[h.len],h.once,fun j hj=>?_⟩
      by_cases e:j=k
      · subst e;refine⟨i,?_,hi'.2⟩;rw[<-h.len,List.getElem?_concat_length]
      · obtain⟨i',h1,h2⟩:=h.at_ j (by omega);exact⟨i',by rw[List.getElem?_append_left (by rw[h.len];omega)];exact h1,h2⟩
    · rename_i hi;have hno:=wJ seen 0 _ hi;refine lz n (k+1) _ _ ⟨by simp[h.len],List.nodup_append.2 ⟨h.once,by simp,fun a ha b hb e=>?_⟩,fun j hj=>?_⟩
      · have:b=fk d live cls k:=by simpa using hb
        rw[e,this] at ha;exact hno ha
      · by_cases e:j=k
        · subst e;refine⟨seen.length,?_,by rw[List.getElem?_concat_length]⟩;rw[<-h.len,List.getElem?_concat_length]
        · obtain⟨i',h1,h2⟩:=h.at_ j (by omega);exact⟨i',by rw[List.getElem?_append_left (by rw[h.len];omega)];exact h1,by rw[List.getElem?_append_left (List.getElem?_eq_some_iff.1 h2).1];exact h2⟩
theorem lB {d:bG}{live:List Bool}(hs:s<d.next.length) (ht:t<d.next.length) :
    (aV d live cls d.next.length 0 [] []).2.getD s 0=(aV d live cls d.next.length 0 [] []).2.getD t 0↔fk d live cls s=fk d live cls t:=by
  have h:=lz (d:=d) (live:=live) (cls:=cls) d.next.length 0 [] [] ⟨rfl,by simp,fun j hj=>absurd hj (Nat.not_lt_zero _)⟩
  rw[Nat.zero_add] at h;obtain⟨i,h1,h2⟩:=h.at_ s hs;obtain⟨j,h3,h4⟩:=h.at_ t ht;rw[List.getD_eq_getElem?_getD,List.getD_eq_getElem?_getD,h1,h3];constructor
  · intro e
    have:i=j:=by
      have e':(i:Int)=(j:Int):=e;omega
    subst this;rw[h2] at h4;exact Option.some.inj h4
  · intro e;rw[<-e] at h4;have hi:=(List.getElem?_eq_some_iff.1 h2)
    have hj:=(List.getElem?_eq_some_iff.1 h4)
    obtain⟨hi1,hi2⟩:=hi;obtain⟨hj1,hj2⟩:=hj
    have:i=j:=by
      rcases Nat.lt_trichotomy i j with e|e|e
      · exact absurd (hi2.trans hj2.symm) (List.pairwise_iff_getElem.1 h.once i j hi1 hj1 e)
      · exact e
      · exact absurd (hj2.trans hi2.symm) (List.pairwise_iff_getElem.1 h.once j i hj1 hi1 e)
    subst this;rfl
theorem tQ:∀(m:Nat) (l:List Int),kC m l->l.length=m->l.Nodup
  | 0,l,_,hl=>by rw[List.length_eq_zero_iff.1 hl];exact List.Pairwise.nil
  |m+1,l,h,hl=>by
    have hm:=h m (Nat.lt_succ_self m);have h1:kC m (l.erase (m:Int)):=fun i hi=>(List.mem_erase_of_ne (by omega)).2 (h i (by omega))
    have h3:=List.length_erase_of_mem hm;have h2:=tQ m _ h1 (by omega)
    have hno:(m:Int)∉l.erase (m:Int):=fun hin=>by
      have h4:kC m ((l.erase (m:Int)).erase (m:Int)):=fun i hi=>(List.mem_erase_of_ne (by omega)).2 (h1 i hi)
      have h5:=qp _ _ h4;have h6:=List.length_erase_of_mem hin;have h7:=List.length_pos_of_mem hin;omega
    exact(List.perm_cons_erase hm).nodup_iff.2 (List.nodup_cons.2 ⟨hno,h2⟩)
theorem qO {d:bG}(hs:s<d.next.length) (c:UInt8):(d.row s)[c.toNat]? =some (d.to s c):=by
  have hr:d.next[s]? =some (d.next[s]'hs):=List.getElem?_eq_getElem _
  obtain⟨x,hx,he,_⟩:=(d.next[s]'hs).at c;unfold bG.row bG.to;rw[hr];simp only;rw[he];exact hx
theorem Ax {d:bG}(hs:s<d.next.length):(d.row s).length=256:=by
  have hr:d.next[s]? =some (d.next[s]'hs):=List.getElem?_eq_getElem _
  unfold bG.row;rw[hr];exact(d.next[s]'hs).len
theorem Fs {d:bG}(hs:s<d.next.length) (ht:t<d.next.length) (f:Int->Int):(d.row s).map f=(d.row t).map f↔∀c:UInt8,f (d.to s c)=f (d.to t c):=by
  constructor
  · intro e c;have:=congrArg (fun l=>l[c.toNat]?) e;simp only[List.getElem?_map,qO hs c,qO ht c,Option.map_some,Option.some.injEq] at this;exact this
  · intro h
    apply List.ext_getElem?
    intro i
    by_cases hi:i<256
    · have hc:(UInt8.ofNat i).toNat=i:=by simp;omega
      have h1:=qO hs (UInt8.ofNat i);have h2:=qO ht (UInt8.ofNat i);rw[hc] at h1 h2;rw[List.getElem?_map,List.getElem?_map,h1,h2,Option.map_some,Option.map_some,h]
    · rw[List.getElem?_eq_none (by rw[List.length_map,Ax hs];omega),List.getElem?_eq_none (by rw[List.length_map,Ax ht];omega)]
def Alike (d:bG) (a b:Int):Prop:=∀w,d.fM a w=d.fM b w
theorem Fl {d:bG}(hok:d.Ok) (a:Int) (w:By) : -1<=d.fM a w:=by
  unfold bG.fM;split
  · omega
  · unfold bG.ru;rw[List.getD_eq_getElem?_getD];cases h:d.rule[(d.go w a).toNat]? with
    |none=>decide
    |some x=>exact(hok.ru x (List.mem_of_getElem? h)).1
theorem ke {d:bG}(hok:d.Ok){a:Int}(ha:a<d.next.length):(a<0\/(bg d).getD a.toNat false=false)↔∀w,d.fM a w= -1:=by
  constructor
  · intro h w
    rcases h with h|h
    · exact lN d w h
    · by_cases hn:a<0
      · exact lN d w hn
      · obtain⟨k,rfl⟩:=Int.eq_ofNat_of_zero_le (show 0<=a by omega);have hl:=vR hok (k:=k) (by omega);have hg:=Fl hok (k:Int) w
        by_cases hw:0<=d.fM (k:Int) w
        · rw[Int.toNat_natCast,hl.2 ⟨w,hw⟩] at h;cases h
        · omega
  · intro h
    by_cases hn:a<0
    · exact .inl hn
    · right
      obtain⟨k,rfl⟩:=Int.eq_ofNat_of_zero_le (show 0<=a by omega);have hl:=vR hok (k:=k) (by omega);rw[Int.toNat_natCast];cases hb:(bg d).getD k false with
      |false=>rfl
      |true =>
        obtain⟨w,hw⟩:=hl.1 hb;have:=h w;omega
structure tZ (d:bG) (cls:List Int):Prop where
  len:cls.length=d.next.length
  ge:∀k,-1<=cls.getD k 0
  alike:∀s t:Nat,s<d.next.length->t<d.next.length->Alike d s t->cls.getD s 0=cls.getD t 0
  rule:∀s t:Nat,s<d.next.length->t<d.next.length->cls.getD s 0=cls.getD t 0->d.ru s=d.ru t
theorem Bm {d:bG}(hok:d.Ok) (k:tZ d cls){a b:Int}(ha:a<d.next.length) (hb:b<d.next.length) (h:Alike d a b):b9 (bg d) cls a=b9 (bg d) cls b:=by
  by_cases hd:a<0\/(bg d).getD a.toNat false=false
  · have hd':b<0\/(bg d).getD b.toNat false=false:=(ke hok hb).2 fun w=>by rw[<-h w];exact(ke hok ha).1 hd w
    rw[b9,if_pos hd,b9,if_pos hd']
  · have hd':¬(b<0\/(bg d).getD b.toNat false=false):=fun e=>hd ((ke hok ha).2 fun w=>by rw[h w];exact(ke hok hb).1 e w)
    rw[b9,if_neg hd,b9,if_neg hd']
    have ha0:0<=a:=by
      by_cases e:a<0
      · exact absurd (.inl e) hd
      · omega
    have hb0:0<=b:=by
      by_cases e:b<0
      · exact absurd (.inl e) hd'
      · omega
    exact k.alike a.toNat b.toNat (by omega) (by omega) (by rw[Int.toNat_of_nonneg ha0,Int.toNat_of_nonneg hb0];exact h)
theorem GZ {d:bG}(hok:d.Ok) (k:tZ d cls) (hs:s<d.next.length) (ht:t<d.next.length) (h:Alike d s t):fk d (bg d) cls s=fk d (bg d) cls t:=by
  unfold fk;rw[k.alike s t hs ht h,(Fs hs ht _).2 fun c=>Bm hok k (bG.qH hok c).2 (bG.qH hok c).2 fun w=>by rw[<-dY,<-dY];exact h (c::w)]
theorem CO {d:bG}{live:List Bool}(h:fk d live cls s=fk d live cls t):cls.getD s 0=cls.getD t 0:=by
  unfold fk at h;exact(List.cons.inj h).1
theorem IC {d:bG}(hok:d.Ok) (k:tZ d cls):tZ d (aV d (bg d) cls d.next.length 0 [] []).2:=by
  have hend:=eP d (bg d) cls;refine⟨hend.len,fun j=>?_,fun s t hs ht h=>(lB hs ht).2 (GZ hok k hs ht h),fun s t hs ht h=>k.rule s t hs ht (CO ((lB hs ht).1 h))⟩;rw[List.getD_eq_getElem?_getD];cases hx:(aV d (bg d) cls d.next.length 0 [] []).2[j]? with
  |none=>decide
  |some x=>have:=hend.bound x (List.mem_of_getElem? hx);show -1<=x;omega
theorem ux {d:bG}(hok:d.Ok) (hs:s<d.next.length):d.rule.getD s 0=d.ru s:=by
  have hl:=hok.len;unfold bG.ru;rw[List.getD_eq_getElem?_getD,List.getD_eq_getElem?_getD,List.getElem?_eq_getElem (by omega)];rfl
theorem Iw {d:bG}(hok:d.Ok):tZ d d.rule:=by
  refine⟨hok.len,fun k=>?_,fun s t hs ht h=>?_,fun s t hs ht h=>?_⟩
  · rw[List.getD_eq_getElem?_getD];cases hx:d.rule[k]? with
    |none=>decide
    |some x=>exact(hok.ru x (List.mem_of_getElem? hx)).1
  · rw[ux hok hs,ux hok ht];have:=h []
    rwa [dJ,dJ] at this
  · rwa [ux hok hs,ux hok ht] at h
theorem qI {d:bG}(hok:d.Ok){cls:List Int}(k:tZ d cls) (hst:∀s t,s<d.next.length->t<d.next.length->cls.getD s 0=cls.getD t 0->fk d (bg d) cls s=fk d (bg d) cls t):∀(w:By) (s t:Nat),s<d.next.length->t<d.next.length->cls.getD s 0=cls.getD t 0->d.fM (s:Int) w=d.fM (t:Int) w
  | [],s,t,hs,ht,h=>by rw[dJ,dJ];exact k.rule s t hs ht h
  |c::w,s,t,hs,ht,h=>by
    rw[dY,dY];have hk:=hst s t hs ht h;unfold fk at hk;have hb:=(Fs hs ht _).1 (List.cons.inj hk).2 c;have ha:=(bG.qH hok (s:=s) c).2;have hb2:=(bG.qH hok (s:=t) c).2;generalize d.to s c=a at *;generalize d.to t c=b at *
    by_cases hd:a<0\/(bg d).getD a.toNat false=false
    · have hd':b<0\/(bg d).getD b.toNat false=false:=by
        by_cases e:b<0\/(bg d).getD b.toNat false=false
        · exact e
        · rw[b9,if_pos hd,b9,if_neg e] at hb;have:=k.ge b.toNat;omega
      rw[(ke hok ha).1 hd w,(ke hok hb2).1 hd' w]
    · by_cases hd':b<0\/(bg d).getD b.toNat false=false
      · rw[b9,if_neg hd,b9,if_pos hd'] at hb;have:=k.ge a.toNat;omega
      · rw[b9,if_neg hd,b9,if_neg hd'] at hb
        have ha0:0<=a:=by
          by_cases e:a<0
          · exact absurd (.inl e) hd
          · omega
        have hb0:0<=b:=by
          by_cases e:b<0
          · exact absurd (.inl e) hd'
          · omega
        have ih:=qI hok k hst w a.toNat b.toNat (by omega) (by omega) hb
        rwa [Int.toNat_of_nonneg ha0,Int.toNat_of_nonneg hb0] at ih
theorem tS {d:bG}(hok:d.Ok):∀(n many:Nat) (cls:List Int),tZ d cls->kC many cls->many<=d.next.length->d.next.length+1<=n+many->tZ d (lC d (bg d) n many cls)/\∀s t:Nat,s<d.next.length->t<d.next.length->(lC d (bg d) n many cls).getD s 0=(lC d (bg d) n many cls).getD t 0->Alike d s t
  | 0,many,cls,k,hc,hm,hf=>by omega
  |n+1,many,cls,k,hc,hm,hf=>by
    have hend:=eP d (bg d) cls;have hmore:=oq (live:=bg d) hc k.len;have hp:=IC hok k;rw[lC];split
    · rename_i he;refine⟨hp,fun s t hs ht h w=>?_⟩;have hkey:=(lB hs ht).1 h;refine qI hok k (fun s t hs ht h=>?_) w s t hs ht (CO hkey)
      have hcov:kC many ((aV d (bg d) cls d.next.length 0 [] []).1.map fun s=>s.getD 0 0):=fun i hi=>by
        obtain⟨k',hk'⟩:=List.getElem?_of_mem (hc i hi);have hkl:=(List.getElem?_eq_some_iff.1 hk').1;have:=hend.all k' (by have:=k.len;omega);refine List.mem_map.2 ⟨_,this,?_⟩;simp[fk,List.getD_eq_getElem?_getD,hk']
      have hon:=tQ many _ hcov (by simpa using he);obtain⟨i,hi⟩:=List.getElem?_of_mem (hend.all s hs);obtain⟨j,hj⟩:=List.getElem?_of_mem (hend.all t ht);have h1:((aV d (bg d) cls d.next.length 0 [] []).1.map fun s=>s.getD 0 0)[i]? =some (cls.getD s 0):=by rw[List.getElem?_map,hi];rfl
      have h2:((aV d (bg d) cls d.next.length 0 [] []).1.map fun s=>s.getD 0 0)[j]? =some (cls.getD s 0):=by rw[List.getElem?_map,hj,h];rfl
      obtain⟨hi1,hi2⟩:=List.getElem?_eq_some_iff.1 h1;obtain⟨hj1,hj2⟩:=List.getElem?_eq_some_iff.1 h2
      have hij:i=j:=by
        rcases Nat.lt_trichotomy i j with e|e|e
        · exact absurd (hi2.trans hj2.symm) (List.pairwise_iff_getElem.1 hon i j hi1 hj1 e)
        · exact e
        · exact absurd (hj2.trans hi2.symm) (List.pairwise_iff_getElem.1 hon j i hj1 hi1 e)
      subst hij;rw[hi] at hj;exact Option.some.inj hj
    · rename_i hne;have hsz:=hend.size;exact tS hok n _ _ hp hend.nums hsz (by omega)
theorem ot {d:bG}(hok:d.Ok) (hs:s<d.next.length) (ht:t<d.next.length):(dS d (bg d)).getD s 0=(dS d (bg d)).getD t 0↔Alike d s t:=by
  have h:=tS hok (d.next.length+1) 0 d.rule (Iw hok) (fun i hi=>absurd hi (Nat.not_lt_zero _)) (Nat.zero_le _) (by omega);exact⟨h.2 s t hs ht,h.1.alike s t hs ht⟩
def jh (B:Nat) (ss:List aZ):Prop:=∀x∈ss,x.rule<=B
theorem jh.snoc {B:Nat}(k:jh B ss){x:aZ}(h:x.rule<=B):jh B (ss++[x]):=fun y hy=>by
  rcases List.mem_append.1 hy with e|e
  · exact k y e
  · have:y=x:=by simpa using e
    rw[this];exact h
theorem jh.set {B:Nat}{ss:List aZ}(k:jh B ss){x:aZ}(h:x.rule<=B) (i:Nat):jh B (ss.set i x):=fun y hy=>by
  rcases List.mem_or_eq_of_mem_set hy with e|e
  · exact k y e
  · rw[e];exact h
end
mutual
theorem AT (B:Nat):∀(x:Nd) (ss:List aZ) (to:Nat),jh B ss->jh B (lay x ss to).1
  |.mk k s kids,ss,to,h=>by
    rw[lay];split
    · exact h.snoc (Nat.zero_le _)
    · split
      · exact zu B kids ss to h
      · split
        · exact(zx B kids ss to h).snoc (Nat.zero_le _)
        · split
          · exact(zq B kids ss to h).snoc (Nat.zero_le _)
          · split
            · exact(zq B kids _ _ (h.snoc (Nat.zero_le _))).set (Nat.zero_le _) _
            · exact h
theorem zu (B:Nat):∀(l:List Nd) (ss:List aZ) (to:Nat),jh B ss->jh B (bh l ss to).1
  | [],ss,to,h=>by rw[bh];exact h
  |x::r,ss,to,h=>by rw[bh];exact AT B x _ _ (zu B r ss to h)
theorem zx (B:Nat):∀(l:List Nd) (ss:List aZ) (to:Nat),jh B ss->jh B (aO l ss to).1
  | [],ss,to,h=>by rw[aO];exact h
  |x::r,ss,to,h=>by rw[aO];exact zx B r _ to (AT B x ss to h)
theorem zq (B:Nat):∀(l:List Nd) (ss:List aZ) (to:Nat),jh B ss->jh B (bS l ss to).1
  | [],ss,to,h=>by rw[bS];exact h
  |x::r,ss,to,h=>by rw[bS];exact AT B x ss to h
end
section
variable {ss:List aZ}{st s k t:Nat}{cls:List Int}
theorem CA (B:Nat):∀(i:Nat) (rules:List By) (ss:List aZ) (t:List Nat) (ss':List aZ) (t':List Nat),i+rules.length<=B->jh B ss->lT i rules ss t= .inr (ss',t')->jh B ss'
  |i,[],ss,t,ss',t',_,h,hm=>by
    rw[lT] at hm;cases hm;exact h
  |i,s::r,ss,t,ss',t',hB,h,hm=>by
    rw[List.length_cons] at hB;rw[lT] at hm;split at hm
    · cases hm
    · exact CA B (i+1) r _ _ ss' t' (by omega) (AT B _ _ _ (h.snoc (by show i<=B;omega))) hm
theorem I0 {rules:List By}(h:eX rules= .inr (ss,st)):∀x∈ss,x.rule<=1000000:=by
  unfold eX at h;split at h
  · cases h
  · rename_i hn;split at h
    · cases h
    · rename_i ss1 t1 hg;split at h
      · cases h
      · cases h;have:=CA 64 0 rules [] [] ss1 t1 (by omega) (fun x hx=>(by cases hx)) hg;intro x hx;have:=(this.snoc (x:=⟨0,0,t1,0⟩) (Nat.zero_le _)) x hx;omega
end
end Go.Proofs.YtoickfdopobmgaaGreatDoor
namespace Go.Proofs.YtoickfdopobmgaaGreatDoor
open Go Go.Lw
set_option maxRecDepth 20000
def mV (rules:List By):Int ⊕ bG:=match eX rules with
  |.inl e=>.inl e
  |.inr (ss,st)=>gC ss st
theorem oQ {rules:List By}{d:bG}(h:mV rules= .inr d):d.Ok/\0<d.next.length:=by
  unfold mV at h;split at h
  · cases h
  · rename_i ss st hm;refine⟨Hh h (I0 hm),?_⟩;obtain⟨_,L,_,h2,h3⟩:=jt h;omega
theorem BT {rules:List By}{d:bG}(h:mV rules= .inr d) (s:By) (a:Int):((dc d s a).1,(dc d s a).2.1)=AL rules s a:=by
  have hd:=(oQ h).2;unfold mV at h;split at h
  · cases h
  · rename_i ss st hm;have hst:=(gw hm).stl;unfold AL Ef dc;rw[hm];simp only
    by_cases ha:a<0\/(s.length:Int)<a
    · rw[if_pos (.inr ha),if_pos (.inr ha)]
    · rw[if_neg (by omega),if_neg (by omega)];exact rF h (by omega) _
end Go.Proofs.YtoickfdopobmgaaGreatDoor

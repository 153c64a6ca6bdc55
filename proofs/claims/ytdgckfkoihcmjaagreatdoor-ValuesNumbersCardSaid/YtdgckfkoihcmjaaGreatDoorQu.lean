/- What the proof of the statement leans on (part 21). -/
import Derived.Lib.ItoaLen
import Derived.Test.YtdgckfkoihcmjaaGreatDoorQt

namespace Go.Proofs.YtdgckfkoihcmjaaGreatDoor
open Go
def gq (l:List Int):By:=l.flatMap fun n=>Lib.itoa n++[32]
theorem qQ (u:Nat):∀c∈Lib.decDigits u,48<=c.toNat/\c.toNat<=57:=by
 induction u using Nat.strongRecOn with
 |_ u ih =>
  intro c hc;rw[Lib.decDigits] at hc;split at hc
  · rename_i h;simp at hc;subst hc;simp;omega
  · rename_i h
    rcases List.mem_append.1 hc with k|k
    · exact ih (u / 10) (by omega) c k
    · simp at k;subst k;have:u%10<10:=Nat.mod_lt _ (by decide);simp;omega
def Hz (l:By):Nat:=l.foldl (fun a c=>a*10+(c.toNat-48)) 0
theorem sX (u:Nat):Hz (Lib.decDigits u)=u:=by
 induction u using Nat.strongRecOn with
 |_ u ih =>
  rw[Lib.decDigits];split
  · rename_i h;simp[Hz];omega
  · rename_i h;have h1:=ih (u / 10) (by omega);unfold Hz at h1 ⊢;rw[List.foldl_append,h1];have:u%10<10:=Nat.mod_lt _ (by decide);simp;omega
theorem uz (n:Int):∀c∈Lib.itoa n,c≠32:=by
 intro c hc e;subst e;unfold Lib.itoa at hc;split at hc
 · rcases List.mem_cons.1 hc with k|k
   · cases k
   · have:=(qQ _ _ k).1;simp at this
 · have:=(qQ _ _ hc).1;simp at this
theorem G4 {m n:Int}(h:Lib.itoa m=Lib.itoa n):m=n:=by
 have neg:∀a b:Nat,45::Lib.decDigits a≠Lib.decDigits b:=fun a b e=>by
  have:(45:UInt8)∈Lib.decDigits b:=by rw[<-e];exact List.mem_cons_self
  have:=(qQ _ _ this).1;simp at this
 unfold Lib.itoa at h;split at h<;>split at h
 · have h:=congrArg Hz (List.cons.inj h).2;rw[sX,sX] at h;omega
 · exact absurd h (neg _ _)
 · exact absurd h.symm (neg _ _)
 · have h:=congrArg Hz h;rw[sX,sX] at h;omega
theorem sd:∀(a b r s:By),(∀c∈a,c≠32)->(∀c∈b,c≠32)->a++32::r=b++32::s->a=b/\r=s
 | [],[],r,s,_,_,h=>by simpa using h
 | [],d::b,r,s,_,hb,h=>by
  simp only[List.nil_append,List.cons_append,List.cons.injEq] at h;exact absurd h.1.symm (hb d List.mem_cons_self)
 |c::a,[],r,s,ha,_,h=>by
  simp only[List.nil_append,List.cons_append,List.cons.injEq] at h;exact absurd h.1 (ha c List.mem_cons_self)
 |c::a,d::b,r,s,ha,hb,h=>by
  simp only[List.cons_append,List.cons.injEq] at h;have:=sd a b r s (fun x hx=>ha x (List.mem_cons_of_mem _ hx)) (fun x hx=>hb x (List.mem_cons_of_mem _ hx)) h.2;exact⟨by rw[h.1,this.1],this.2⟩
theorem key_inj:∀{l m:List Int},gq l=gq m->l=m
 | [],[],_=>rfl
 | [],n::m,h=>by
  have:=congrArg List.length h;simp[gq] at this
 |n::l,[],h=>by
  have:=congrArg List.length h;simp[gq] at this
 |n::l,k::m,h=>by
  have h':Lib.itoa n++32::gq l=Lib.itoa k++32::gq m:=by simpa [gq] using h
  obtain⟨h1,h2⟩:=sd _ _ _ _ (uz n) (uz k) h';rw[G4 h1,key_inj h2]
theorem yO:∀(l:List Int),(∀n∈l,-9223372036854775808<=n/\n<=9223372036854775807)->(gq l).length<=22*l.length
 | [],_=>by simp[gq]
 |n::l,h=>by
  have h1:=yO l (fun x hx=>h x (List.mem_cons_of_mem _ hx));have hn:=h n List.mem_cons_self;have h2:=Lib.itoa_length_le n hn.1 hn.2;have e:gq (n::l)=Lib.itoa n++[32]++gq l:=rfl;have h3:(gq (n::l)).length=(Lib.itoa n).length+1+(gq l).length:=by rw[e,List.length_append,List.length_append];rfl
  rw[h3,List.length_cons];omega
theorem G2 (l:List Int) (n:Int):gq (l++[n])=gq l++Lib.itoa n++[32]:=by simp[gq]
end Go.Proofs.YtdgckfkoihcmjaaGreatDoor
namespace Go.Proofs.YtdgckfkoihcmjaaGreatDoor
open Go.Proofs.Tryz
open Go Go.Lw
set_option maxRecDepth 20000 set_option maxHeartbeats 4000000
section
variable {h:aj}{b:Nat}{v:Value}{l:List UInt8}
theorem bInfo:∃j,Tryz.prog.info? 200=some j/\j.size≠0:=⟨_,rfl,by decide⟩
theorem Ky:∃i,Tryz.prog.info? 5=some i/\i.zero=some (.int .u8 0)/\i.size=1/\i.bytes=1:=⟨_,rfl,rfl,rfl,rfl⟩
theorem MR:liesAt Tryz.prog Tryz.prog.depth 200 (2 / Tryz.prog.cellsOf 200) 0 200 1=true:=by kernel_rfl
theorem IA:Tryz.prog.cellsOf 5=1:=by kernel_rfl
theorem sA (hb:aC h b 200 [.pointer none,v]) :
 av Tryz.prog 140 #[.pointer (some ⟨b,0,none⟩)] h (bq fun _ h'=>aC h' b 200 [.pointer (some ⟨b,0,none⟩),v]/\Ext (fun i=>i=b) h h'/\h'.size=h.size):=by
 obtain⟨j,hj,hj0⟩:=bInfo;refine bP ?_;refine af ?_;refine xp rfl (az rfl (hb.cell (i:=0) rfl)) ?_;refine xp rfl (ay.qO underlying198 rfl rfl) ?_;refine af ?_;refine eu rfl (by decide) ?_;refine de ?_
 iterate 2 refine aZ ?_
 refine xp rfl (ay.FO underlying198 underlying260 hj hj0 hb (by simp) rfl) ?_;refine xp rfl (ay.GJ func167 (by decide +kernel) (by kernel_rfl) (by kernel_rfl) (by kernel_rfl) rfl) ?_;refine xp rfl (ay.CM underlying260 underlying198 hj hb MR rfl) ?_;refine af ?_;refine aH rfl (kY rfl rfl hb) ?_;rintro _ h1 ⟨rfl,hb1,hx1,hs1⟩;refine af ?_;refine Ir ?_;exact⟨_,rfl,hb1,hx1,hs1⟩
theorem uV (hb:aC h b 200 [.pointer (some ⟨b,0,none⟩),v]) :
 av Tryz.prog 140 #[.pointer (some ⟨b,0,none⟩)] h (bq fun _ h'=>aC h' b 200 [.pointer (some ⟨b,0,none⟩),v]/\Ext (fun i=>i=b) h h'/\h'.size=h.size):=by
 obtain⟨j,hj,hj0⟩:=bInfo;refine bP ?_;refine af ?_;refine xp rfl (az rfl (hb.cell (i:=0) rfl)) ?_;refine xp rfl (ay.qO underlying198 rfl rfl) ?_;refine af ?_;refine eC rfl Bool.false_ne_true ?_;refine af ?_;refine xp rfl (az rfl (hb.cell (i:=0) rfl)) ?_;refine aZ ?_;refine xp rfl (ay.Cx underlying198 hj rfl rfl) ?_;refine af ?_;refine eC rfl Bool.false_ne_true ?_;refine af ?_;refine Ir ?_;exact⟨_,rfl,hb,Ext.refl _ _,rfl⟩
theorem lX {p:Value}(hb:aC h b 200 [p,v]) (hp:p= .pointer none\/p= .pointer (some ⟨b,0,none⟩)) :
 av Tryz.prog 140 #[.pointer (some ⟨b,0,none⟩)] h (bq fun _ h'=>aC h' b 200 [.pointer (some ⟨b,0,none⟩),v]/\Ext (fun i=>i=b) h h'/\h'.size=h.size):=by
 rcases hp with rfl|rfl
 · exact sA hb
 · exact uV hb
theorem o8 (s:ByteArray) (hb:qA h b 200 5 l) (hl:l.length+s.size<=140737488355328) :
 av Tryz.prog 99 #[.pointer (some ⟨b,0,none⟩),.string s] h (bq fun r h'=>r= .tuple #[.int .i64 s.size,.nilIface]/\qA h' b 200 5 (l++s.data.toList)/\Ext (fun i=>b<=i) h h'):=by
 obtain⟨i,hi,hi0,hi1,hi2⟩:=Ky;obtain⟨p,v,hk,hp,hv⟩:=hb;have hlt:=hk.lt;refine bP ?_;refine af ?_;refine xo rfl (aF rfl (lX hk hp)) ?_;rintro _ h1 ⟨hk1,hx1,hs1⟩;refine af ?_;have hv1:FC h1 (b+1) 5 v l:=aB.ext hx1 hv (fun g hg=>by have:=mF hv g hg.symm;omega);refine xp rfl (az rfl (hk1.cell (i:=1) rfl)) ?_;refine af ?_;refine xo rfl (aT.Fo underlying106 underlying9 hi hi0 hi1 hi2 rfl rfl hv1 hl (by omega)) ?_;rintro v2 h2 ⟨ho2,hx2⟩;refine af ?_;have hk2:=hk1.ext hx2 (fun hm=>by have:=mF hv1 b hm;omega);obtain⟨oa2,c2,rfl,-⟩:=aB.open ho2;refine aH rfl (kY rfl rfl hk2) ?_;rintro _ h3 ⟨rfl,hk3,hx3,hs3⟩;refine af ?_;refine bh ?_;have ho3:FC h3 (b+1) 5 _ (l++s.data.toList):=aB.ext hx3 ho2 (fun g hg=>by have:=mF ho2 g hg.symm;omega);exact⟨_,rfl,rfl,⟨_,_,hk3,.inr rfl,ho3⟩,((hx1.mono (fun _ _ k=>by show b<=_;omega)).trans (hx2.mono (fun g _ k=>by have:=mF hv1 g k;show b<=g;omega))).trans (hx3.mono (fun _ _ k=>by show b<=_;omega))⟩
theorem qA.ah {h h':aj}{b:Nat}{l:List UInt8}(k:qA h b 200 5 l) (e:aq h h'):qA h' b 200 5 l:=by
 obtain⟨p,v,hk,hp,hv⟩:=k;exact⟨p,v,hk.ah e,hp,cn.ah hv e⟩
theorem wv (hb:qA h b 200 5 l) (hl:l.length<=140737488355328) :
 av Tryz.prog 102 #[.pointer (some ⟨b,0,none⟩)] h (bq fun r h'=>r= .string ⟨l.toArray⟩/\Ext (fun i=>b<=i) h h'):=by
 obtain⟨p,v,hk,hp,hv⟩:=hb;obtain⟨oa,c,rfl,hw⟩:=aB.open hv;have hc1:=hk.cell (i:=1) rfl;refine bP ?_;refine af ?_;refine kH 12 (fun i=>b+1<=i) (fun i=>Nat.blt i 12) ?_;refine aG 0 ?_;refine aG 1 ?_;refine aG 2 ?_;refine bC 3 rfl (fun h' e=>az rfl (e.cell (by show ¬b+1<=b;omega) hc1)) ?_;refine aG 5 ?_;refine aG 6 ?_;refine aG 7 ?_;refine bC 8 rfl (fun h' e=>az rfl (e.cell (by show ¬b+1<=b;omega) hc1)) ?_;refine aG 9 ?_;refine cU 4 rfl (aT.Ed underlying240 rfl hv) ?_;rintro u h1 ⟨⟨q,rfl,hs⟩,he⟩;refine⟨fun _=>he.of,?_⟩;refine cU 10 rfl (qZ underlying240 IA rfl rfl hs hl) ?_;rintro _ h2 ⟨rfl,hx2⟩;refine⟨fun _=>hx2,?_⟩;refine aG 11 ?_;refine gV ?_;refine bh ?_;exact⟨_,rfl,rfl,(aq.of he).trans (hx2.mono (fun g _ k=>by have:b+1<=g:=k;show b<=g;omega))⟩
def qX (h:aj):Prop:=zU Tryz.prog h "internal/strconv.uint64pow10" =some (Lib.pow10Tab.map fun z=>Value.int .u64 z).toArray
theorem qX.ah {h':aj}(k:qX h) (e:aq h h'):qX h':=B9 e k
theorem CL (hg:qX h) (n:Int) (hn : -9223372036854775808<=n/\n<=9223372036854775807) :
 av Tryz.prog 100 #[.int .i64 n] h (bq fun r h'=>r= .string (bs (Lib.itoa n))/\aq h h'):=by
 refine av.pL fun w hw=>?_
 subst hw;refine(Tryz.strconv_Itoa n hn.1 hn.2 w hg).mono ?_;rintro e w' ⟨rfl,k,os,rfl⟩;refine⟨_,rfl,⟨rfl,?_⟩,rfl,rfl,rfl⟩;refine⟨by simp[Go.Sort.grow],fun b hb _=>?_⟩;simp[Go.Sort.grow,Array.getElem?_append_left hb]
theorem sr (c:UInt8) (hb:qA h b 200 5 l) (hl:l.length<=900000000) :
 av Tryz.prog 101 #[.pointer (some ⟨b,0,none⟩),.int .u8 (c.toNat:Nat)] h (bq fun _ h'=>qA h' b 200 5 (l++[c])/\Ext (fun g=>b<=g) h h'):=by
 obtain⟨p,v,hk,hp,hv⟩:=hb;have hlt:=hk.lt;refine bP ?_;refine af ?_;refine xo rfl (aF rfl (lX hk hp)) ?_;rintro _ h1 ⟨hk1,hx1,hs1⟩;refine af ?_;have hv1:FC h1 (b+1) 5 v l:=aB.ext hx1 hv (fun g hg=>by have:=mF hv g hg.symm;omega);refine xp rfl (az rfl (hk1.cell (i:=1) rfl)) ?_;refine af ?_;refine xo rfl (jG [_]) ?_;rintro _ _ ⟨rfl,rfl⟩;refine xo rfl (wC rfl rfl hv1 rfl rfl) ?_;rintro v2 h2 ⟨ho2,hx2,hx2',hv2⟩;have hk2:=hk1.ext hx2 (fun hm=>by have:=mF hv1 b hm;omega);have ho2':FC h2 (b+1) 5 v2 (l++[c]):=cn.of (ys:=[c]) ho2 rfl rfl rfl;obtain⟨oa2,c2,rfl,-⟩:=ho2.open;refine af ?_;refine aH rfl (kY rfl rfl hk2) ?_;rintro _ h3 ⟨rfl,hk3,hx3,hs3⟩;refine af ?_;refine bh ?_;exact⟨_,rfl,⟨_,_,hk3,.inr rfl,aB.ext hx3 ho2' (fun g hg=>by have:=mF ho2' g hg.symm;omega)⟩,((hx1.mono (fun _ _ k=>by show b<=_;omega)).trans (hx2.mono (fun g _ k=>by have:=mF hv1 g k;show b<=g;omega))).trans (hx3.mono (fun _ _ k=>by show b<=_;omega))⟩
theorem qL {O:Nat->Prop}(hg:qX h){l:List Int}(hv:aY (.int .i64) h O v l) (hl:l.length<=1000000) (hb:∀n∈l,-9223372036854775808<=n/\n<=9223372036854775807) :
 av Tryz.prog 60 #[v] h (bq fun r h'=>r= .string (bs (gq l))/\aq h h'):=by
 obtain⟨oa,n,c,rfl,hsl⟩:=hv.open;have hn:=hsl.len;refine bP ?_;refine af ?_;refine xo rfl (cm) ?_;rintro _ h0 ⟨rfl,hk0,he0,hs0⟩;refine af ?_;have hb0:qA h0 h.size 200 5 []:=Df hk0;refine gJ (σ:=Nat) (fun i=>[(8,.int .i64 (i:Nat))]) (fun i h'=>i<=n/\aq h h'/\qA h' h.size 200 5 (gq (l.take i))/\h0.size<=h'.size) (fun i=>n-i) (0) ⟨Nat.zero_le _,he0,hb0,Nat.le_refl _⟩ rfl ?_;rintro i g ⟨hi,eg,hbg,hgz⟩ ih;have hlen:=yO (l.take i) (fun x hx=>hb x (List.mem_of_mem_take hx));rw[List.length_take] at hlen;refine af ?_;refine aP (fun hlt=>?_) (fun hlt=>?_)
 · obtain⟨b1,o1,x,hoa,_,hx,hcx⟩:=(hsl.mv (Mv.ah eg)).at (show i<n by omega);have hbx:=hb x (List.mem_of_getElem? hx);have hil:=Lib.itoa_length_le x hbx.1 hbx.2;have hbsz:=aL (Lib.itoa x);have hbl:(bs (Lib.itoa x)).data.toList=Lib.itoa x:=by simp[bs]
   have hnx:gq (l.take (i+1))=gq (l.take i)++(bs (Lib.itoa x)).data.toList++[32]:=by rw[List.take_add_one,hx,Option.toList_some,G2,hbl]
   iterate 4 refine aR ?_
   refine de ?_;refine xp rfl (cK rfl rfl i rfl hoa) ?_;refine xp rfl (az rfl hcx) ?_;refine af ?_;refine xo rfl (aF rfl (CL (hg.ah eg) x hbx)) ?_;rintro _ g1 ⟨rfl,e1⟩;refine xo rfl (aF rfl (o8 (bs (Lib.itoa x)) (qA.ah hbg e1) (by omega))) ?_;rintro _ g2 ⟨rfl,hb2,hx2⟩;refine af ?_;refine xo rfl (aF rfl (sr 32 hb2 (by rw[List.length_append,hbl];omega))) ?_;rintro _ g3 ⟨hb3,hx3⟩;refine af ?_;have z1:=e1.size;have z2:=hx2.size;have z3:=hx3.size;rw[<-hnx] at hb3
   have e3:aq h g3:=⟨by have:=eg.size;omega,fun b hb k=>by
    rw[hx3.block b (by have:=eg.size;omega) (by show ¬_<=_;omega),hx2.block b (by have:=eg.size;omega) (by show ¬_<=_;omega),e1.block b (by have:=eg.size;omega) (fun k=>k)];exact eg.block b hb k⟩
   exact ih (i+1) ⟨by omega,e3,hb3,by omega⟩
 · have hie:l.take i=l:=List.take_of_length_le (by omega);rw[hie] at hbg;have hkl:=yO l hb;refine af ?_;refine xo rfl (aF rfl (wv hbg (by omega))) ?_;rintro _ g1 ⟨rfl,hx1⟩;refine af ?_;refine bh ?_;exact⟨_,rfl,rfl,⟨by have:=hx1.size;have:=eg.size;omega,fun b hb k=>by rw[hx1.block b (by have:=eg.size;omega) (by show ¬_<=_;omega)];exact eg.block b hb k⟩⟩
end
end Go.Proofs.YtdgckfkoihcmjaaGreatDoor
namespace Go.Proofs.YtdgckfkoihcmjaaGreatDoor
open Go
structure Row where
 v:List Int
 len:v.length=256
structure bD where
 next:List Row
 rule:List Int
def bD.to (d:bD) (s:Nat) (c:UInt8):Int:=match d.next[s]? with|some r=>r.v.getD c.toNat (-1)|none=> -1
def bD.ru (d:bD) (s:Nat):Int:=d.rule.getD s (-1)
structure bD.Ok (d:bD):Prop where
 len:d.rule.length=d.next.length
 size:d.next.length<=2000
 to:∀r∈d.next,∀x∈r.v,-1<=x/\x<d.next.length
 ru:∀x∈d.rule,-1<=x/\x<=1000000
theorem Row.at {r:Row}(c:UInt8):∃x,r.v[c.toNat]? =some x/\r.v.getD c.toNat (-1)=x/\x∈r.v:=by
 have h:=r.len;have hc:=c.toNat_lt;have hx:r.v[c.toNat]? =some (r.v[c.toNat]'(by omega)):=List.getElem?_eq_getElem (by omega);exact⟨_,hx,by rw[List.getD_eq_getElem?_getD,hx];rfl,List.getElem_mem _⟩
theorem bD.pz {d:bD}(k:d.Ok){s:Nat}(c:UInt8) : -1<=d.to s c/\d.to s c<d.next.length:=by
 unfold bD.to;cases h:d.next[s]? with
 |none=>simp only;omega
 |some r =>
  obtain⟨x,hx,he,hm⟩:=r.at c;simp only;rw[he];exact k.to r (List.mem_of_getElem? h) x hm
def aJ (d:bD):By->Nat->Nat->Int×Int->Int×Int×Int
 | [],st,k,b=>if 0<=d.ru st then (k,d.ru st,k) else (b.1,b.2,k)
 |c::l,st,k,b =>
  if 0<=d.to st c then aJ d l (d.to st c).toNat (k+1) (if 0<=d.ru st then (k,d.ru st) else b)
  else if 0<=d.ru st then (k,d.ru st,k) else (b.1,b.2,k)
def cN (d:bD) (s:By) (a:Int):Int×Int×Int:=if d.next.length=0\/a<0\/(s.length:Int)<a then (0,-1,0) else aJ d (s.drop a.toNat) 0 0 (0,-1)
end Go.Proofs.YtdgckfkoihcmjaaGreatDoor
namespace Go.Proofs.YtdgckfkoihcmjaaGreatDoor
open Go.Proofs.Tryz
open Go Go.Lw
set_option maxRecDepth 20000 set_option maxHeartbeats 4000000
section
variable {h:aj}
def bN (r:Row):List Value:=r.v.map (.int .i64)
@[simp] theorem lK (r:Row):(bN r).length=256:=by simp[bN,r.len]
def DF:gD Row:=.record 256 (by decide) bN lK (fun r v hv=>by simp[bN] at hv;obtain⟨_,_,rfl⟩:=hv;rfl)
def ou (h:aj) (db:Nat) (d:bD):Prop :=
 ∃vn vr,aC h db 151 [vn,vr]/\aY DF h (fun _=>False) vn d.next/\aY (.int .i64) h (fun _=>False) vr d.rule
theorem ou.ah {h h':aj}{db:Nat}{d:bD}(k:ou h db d) (e:aq h h'):ou h' db d:=by
 obtain⟨vn,vr,h1,h2,h3⟩:=k;exact⟨vn,vr,h1.ah e,h2.mv (Mv.ah e),h3.mv (Mv.ah e)⟩
def Kr (h:aj) (p:Value) (d:bD):Prop:=(p= .pointer none/\d=⟨[],[]⟩)\/∃db,p= .pointer (some ⟨db,0,none⟩)/\ou h db d
theorem Fc:av Tryz.prog 63 #[.pointer none] h (bq fun r h'=>r= .bool true/\h'=h):=by
 refine bP ?_;refine aR ?_;refine de ?_;refine aZ ?_;refine cV ?_;refine aR ?_;refine dW [(2,.bool true)] rfl ?_ ?_
 · refine aZ ?_;refine xp rfl (ay.qO underlying87 rfl rfl) ?_;refine af ?_;refine RW.ck (d:=5) (b':=true) rfl (rfl) ?_;refine af ?_;exact aA rfl ⟨ai rfl (rfl),sb rfl⟩
 · refine bh ?_;exact⟨_,rfl,rfl,rfl⟩
theorem Bn {db:Nat}{d:bD}(k:ou h db d):av Tryz.prog 63 #[.pointer (some ⟨db,0,none⟩)] h (bq fun r h'=>r= .bool (decide (d.next.length=0))/\h'=h):=by
 obtain⟨vn,vr,hk,⟨na,nn,nc,rfl,hnl,_⟩,h2⟩:=k;refine bP ?_;refine aR ?_;refine de ?_;refine aZ ?_;refine cV ?_;refine aR ?_;refine dW [(2,.bool (decide (d.next.length=0)))] rfl ?_ ?_
 · refine aZ ?_;refine xp rfl (ay.qO underlying87 rfl rfl) ?_;refine af ?_;refine RW.ck (d:=5) (b':=false) rfl (rfl) ?_;refine af ?_;refine xp rfl (az rfl (hk.cell (i:=0) rfl)) ?_;refine af ?_;exact aA rfl ⟨ai rfl (by simp only[decide_eq_decide];omega),sb rfl⟩
 · refine bh ?_;exact⟨_,rfl,rfl,rfl⟩
theorem Bm {p:Value}{d:bD}(k:Kr h p d):av Tryz.prog 63 #[p] h (bq fun r h'=>r= .bool (decide (d.next.length=0))/\h'=h):=by
 rcases k with ⟨rfl,rfl⟩|⟨db,rfl,k⟩
 · exact Fc
 · exact Bn k
theorem y8 {p:Value}{d:bD}{s:By}{a:Int}(k:Kr h p d) (hok:d.Ok) (hs:s.length<=1000000) :
 av Tryz.prog 104 #[p,.string (bs s),.int .i64 a] h (bq fun r h'=>r= .tuple #[.int .i64 (cN d s a).1,.int .i64 (cN d s a).2.1,.int .i64 (cN d s a).2.2]/\h'=h):=by
 have hbs:=aL s;refine bP ?_;refine aR ?_;refine de ?_
 iterate 3 refine aZ ?_
 refine cV ?_;refine aR ?_;refine de ?_;refine aZ ?_;refine cV ?_
 iterate 2 refine aR ?_
 refine dW [(22,.bool (decide (d.next.length=0\/a<0\/(s.length:Int)<a)))] rfl ?_ ?_
 · refine af ?_;refine xo rfl (aF rfl (Bm k)) ?_;rintro _ h0 ⟨rfl,hh0⟩;subst hh0;refine af ?_;refine b9 13 (fun hg=>?_) (fun hg=>?_)
   · have hg':=of_decide_eq_true hg;refine af ?_;exact aA rfl ⟨ai rfl (by simp[hg']),sb rfl⟩
   · have hg':=of_decide_eq_false hg;refine af ?_;refine b9 17 (fun hg2=>?_) (fun hg2=>?_)
     · have hg2':=of_decide_eq_true hg2;refine af ?_;exact aA rfl ⟨ai rfl (by simp[hg2']),sb rfl⟩
     · have hg2':=of_decide_eq_false hg2;refine af ?_;exact aA rfl ⟨ai rfl (by simp only[decide_eq_decide];omega),sb rfl⟩
 · refine aP (fun hz=>?_) (fun hz=>?_)
   · refine af ?_;refine bh ?_;rw[cN,if_pos hz];exact⟨_,rfl,rfl,rfl⟩
   · obtain⟨k0,rfl⟩:=Int.eq_ofNat_of_zero_le (show 0<=a by omega);have hk0:k0<=s.length:=by omega
     have hma:cN d s (k0:Nat)=aJ d (s.drop k0) 0 0 (0,-1):=by rw[cN,if_neg hz];rfl
     rw[hma];generalize htgt:aJ d (s.drop k0) 0 0 (0,-1)=tgt
     rcases k with ⟨_,rfl⟩|⟨db,rfl,vn,vr,hk,⟨na,nn,nc,rfl,hnl,_,_,hgetn⟩,⟨ra,rn,rc,rfl,hrl,_,_,hgetr⟩⟩
     exact absurd (.inl rfl) hz;have hlen:=hok.len;have hsize:=hok.size;refine af ?_;refine LC (σ:=Int×Nat×Int×Int) (fun q=>[(0,.pointer (some ⟨db,0,none⟩)),(1,.string (bs s)),(2,.int .i64 (k0:Nat)),(6,.int .i64 q.2.2.1),(7,.int .i64 q.2.2.2),(8,.int .i64 (q.2.1:Nat)),(9,.int .i64 q.1)]) (fun q h'=>h'=h/\k0+q.2.1<=s.length/\(0<=q.1->q.1<d.next.length/\aJ d (s.drop (k0+q.2.1)) q.1.toNat q.2.1 q.2.2=tgt)/\(q.1<0->(q.2.2.1,q.2.2.2,(q.2.1:Int))=tgt)) (fun q=>2*(s.length-(k0+q.2.1))+(if 0<=q.1 then 1 else 0)) ((0,0,0,-1)) ⟨rfl,by simpa using hk0,fun _=>⟨by show (0:Int)<_;omega,by simpa using htgt⟩,fun k=>absurd k (by decide)⟩ ?_;rintro⟨st,i,b1,b2⟩ g ⟨rfl,hki,hpos,hneg⟩ ih
     try dsimp only
     dsimp only at hki hpos hneg;refine af ?_;refine aP (fun hst=>?_) (fun hst=>?_)
     · obtain⟨hlt,hcon⟩:=hpos hst;obtain⟨j,rfl⟩:=Int.eq_ofNat_of_zero_le hst;have hcon:aJ d (s.drop (k0+i)) j i (b1,b2)=tgt:=hcon;obtain⟨x,hx⟩:∃x,d.rule[j]? =some x:=⟨_,List.getElem?_eq_getElem (by omega)⟩
       have hru:d.ru j=x:=by unfold bD.ru;rw[List.getD_eq_getElem?_getD,hx];rfl
       obtain⟨b,o,cs,ha,_,hrow,rfl⟩:=hgetr j x hx;refine af ?_;refine xp rfl (az rfl (hk.cell (i:=1) rfl)) ?_;refine aZ ?_;refine xp rfl (cK rfl rfl j rfl ha) ?_;refine xp rfl (az rfl (hrow 0 _ rfl)) ?_;refine af ?_
       have fin:∀(c1 c2:Int) (h':aj) (ρ':Env),Sub [(0,.pointer (some ⟨db,0,none⟩)),(1,.string (bs s)),(2,.int .i64 (k0:Nat)),(6,.int .i64 c1),(7,.int .i64 c2),(8,.int .i64 (i:Nat)),(9,.int .i64 (j:Nat))] ρ'->h'=g->(c1,c2)=(if 0<=d.ru j then ((i:Int),d.ru j) else (b1,b2))->G Tryz.prog 104 f104 [.code [1,0,1,0,0,1,0,1,1,1],.blk 1,.loop [0,0,1,0,1,1,1],.blk 0,.code [1,1,1,1]] ρ' h' (bq fun r h'=>r= .tuple #[.int .i64 tgt.1,.int .i64 tgt.2.1,.int .i64 tgt.2.2]/\h'=g):=by
        rintro c1 c2 g1 ρ' hsub rfl hc;refine G.sub (ρ':=[(0,.pointer (some ⟨db,0,none⟩)),(1,.string (bs s)),(2,.int .i64 (k0:Nat)),(6,.int .i64 c1),(7,.int .i64 c2),(8,.int .i64 (i:Nat)),(9,.int .i64 (j:Nat))]) hsub ?_;refine af ?_;refine aP (fun hend=>?_) (fun hend=>?_)
        · have hd:s.drop (k0+i)=[]:=List.drop_of_length_le (by omega);rw[hd,aJ] at hcon
          have hcon:(c1,c2,(i:Int))=tgt:=by
           rw[<-hcon]
           by_cases h0:0<=d.ru j
           · rw[if_pos h0] at hc ⊢;cases hc;rfl
           · rw[if_neg h0] at hc ⊢;cases hc;rfl
          refine af ?_;refine bh ?_;exact⟨_,rfl,by rw[<-hcon];rfl,rfl⟩
        · have hki2:k0+i<s.length:=by omega
          have hd:s.drop (k0+i)=s[k0+i]::s.drop (k0+i+1):=List.drop_eq_getElem_cons hki2;rw[hd,aJ,<-hc] at hcon;obtain⟨r,hr⟩:∃r,d.next[j]? =some r:=⟨_,List.getElem?_eq_getElem (by omega)⟩
          obtain⟨b3,o3,cs3,ha3,_,hrow3,rfl⟩:=hgetn j r hr;obtain⟨y,hy,he,_⟩:=r.at s[k0+i];have hc8:=s[k0+i].toNat_lt;have hto:d.to j s[k0+i]=y:=by unfold bD.to;rw[hr];exact he
          have hb:=bD.pz hok (s:=j) s[k0+i];rw[hto] at hcon hb;have hcell:cellAt g1 ⟨b3,o3+j*256+s[k0+i].toNat*1,none⟩=some (.int .i64 y):=by rw[Nat.mul_one];exact hrow3 _ _ (by simp[bN,hy])
          refine af ?_;refine eO rfl (az rfl (hk.cell (i:=0) rfl)) ?_;refine af ?_;refine eO rfl (sG rfl rfl (k0+i) (by omega) (eJ (List.getElem?_eq_getElem hki2))) ?_;refine eO rfl (cK rfl rfl j rfl ha3) ?_;refine eO rfl (xM rfl rfl s[k0+i].toNat rfl (by omega)) ?_;refine eO rfl (az rfl hcell) ?_;refine af ?_;refine aP (fun hy0=>?_) (fun hy0=>?_)
          · rw[if_pos hy0] at hcon;obtain⟨j2,rfl⟩:=Int.eq_ofNat_of_zero_le hy0;refine af ?_;exact ih ((j2:Int),i+1,c1,c2) ⟨rfl,by show k0+(i+1)<=s.length;omega,fun _=>⟨hb.2,by show aJ d (s.drop (k0+(i+1))) _ _ _=tgt;rw[show k0+(i+1)=k0+i+1 by omega];exact hcon⟩,fun k=>absurd k (by show ¬(j2:Int)<0;omega)⟩ (by show 2*(s.length-(k0+(i+1)))+(if (0:Int)<=(j2:Nat) then 1 else 0)<2*(s.length-(k0+i))+(if (0:Int)<=(j:Nat) then 1 else 0);rw[if_pos (by omega),if_pos (by omega)];omega)
          · rw[if_neg hy0] at hcon;refine af ?_;exact ih (y,i,c1,c2) ⟨rfl,hki,fun k=>absurd k hy0,fun _=>by show (c1,c2,(i:Int))=tgt;rw[<-hcon];by_cases h0:0<=d.ru j;(rw[if_pos h0] at hc ⊢;cases hc;rfl);(rw[if_neg h0] at hc ⊢;cases hc;rfl)⟩ (by show 2*(s.length-(k0+i))+(if (0:Int)<=y then 1 else 0)<2*(s.length-(k0+i))+(if (0:Int)<=(j:Nat) then 1 else 0);rw[if_neg hy0,if_pos (by omega)];omega)
       refine aP (fun hr=>?_) (fun hr=>?_)
       · refine de ?_
         iterate 4 refine aZ ?_
         refine cV ?_;exact fin _ _ _ _ (by exact sb rfl) rfl (by rw[hru,if_pos hr])
       · refine aR ?_;exact fin _ _ _ _ (by exact sb rfl) rfl (by rw[hru,if_neg hr])
     · have hcon:=hneg (by omega);refine af ?_;refine bh ?_;exact⟨_,rfl,by rw[<-hcon];rfl,rfl⟩
end
end Go.Proofs.YtdgckfkoihcmjaaGreatDoor
namespace Go.Proofs.YtdgckfkoihcmjaaGreatDoor
open Go
def yP (l:List Nat):By:=gq (l.map Int.ofNat)
theorem G3 {l m:List Nat}(h:yP l=yP m):l=m:=by
 have:=key_inj h
 have hi:∀a b:List Nat,a.map Int.ofNat=b.map Int.ofNat->a=b:=by
  intro a
  induction a with
  |nil=>intro b h;cases b with
   |nil=>rfl
   |cons y b=>simp at h
  |cons x a ih=>intro b h;cases b with
   |nil=>simp at h
   |cons y b =>
    simp only[List.map_cons,List.cons.injEq] at h;rw[ih b h.2];have:=h.1;simp only[Int.ofNat_eq_natCast] at this;rw[show x=y by omega]
 exact hi _ _ this
def oe:Nat->List (List Nat)->List Nat->Option Nat
 |_,[],_=>none
 |i,x::r,l=>if l=x then some i else oe (i+1) r l
theorem oL:∀(ls:List (List Nat)) (i j:Nat) (l:List Nat),oe i ls l=some j->i<=j/\ls[j-i]? =some l
 | [],i,j,l,h=>by cases h
 |x::r,i,j,l,h=>by
  rw[oe] at h;split at h
  · rename_i e;cases h;subst e;exact⟨Nat.le_refl _,by simp⟩
  · have:=oL r (i+1) j l h;refine⟨by omega,?_⟩;rw[show j-i=(j-(i+1))+1 by omega,List.getElem?_cons_succ];exact this.2
theorem uL:∀(ls:List (List Nat)) (i:Nat) (l:List Nat),oe i ls l=none->l∉ls
 | [],i,l,_=>List.not_mem_nil
 |x::r,i,l,h=>by
  rw[oe] at h;split at h
  · cases h
  · rename_i e;have:=uL r (i+1) l h;simp only[List.mem_cons,not_or];exact⟨e,this⟩
def dh (ss:List aX) (cur:List Nat) (lists:List (List Nat)) (b:Nat):List (List Nat)×Int :=
 if (cw ss (UInt8.ofNat b) cur).length=0 then (lists,-1)
 else match oe 0 lists (cw ss (UInt8.ofNat b) cur) with
  |some i=>(lists,(i:Int))
  |none=>(lists++[cw ss (UInt8.ofNat b) cur],(lists.length:Int))
def lB (ss:List aX) (cur:List Nat):Nat->Nat->List (List Nat)->List Int->List (List Nat)×List Int
 | 0,_,lists,row=>(lists,row)
 |n+1,b,lists,row=>lB ss cur n (b+1) (dh ss cur lists b).1 (row++[(dh ss cur lists b).2])
def jO (l:List Int):Row:=⟨(l++List.replicate 256 (-1)).take 256,by rw[List.length_take,List.length_append,List.length_replicate];omega⟩
theorem sQ {l:List Int}(h:l.length=256):(jO l).v=l:=by
 unfold jO;simp only;rw[List.take_append_of_le_length (by omega),List.take_of_length_le (by omega)]
def ko (ss:List aX):Nat->Nat->List (List Nat)->List Row->List Int->Option bD
 | 0,_,_,_,_=>none
 |n+1,k,lists,next,rule =>
  match lists[k]? with
  |none=>some ⟨next,rule⟩
  |some cur =>
   if 2000<(lB ss cur 256 0 lists []).1.length then none
   else ko ss n (k+1) (lB ss cur 256 0 lists []).1 (next++[jO (lB ss cur 256 0 lists []).2]) (rule++[aV ss cur])
def fZ (ss:List aX) (st:Nat):Int ⊕ bD :=
 if (bX ss st).length=0 then .inl 1
 else match ko ss 2002 0 [bX ss st] [] [] with
  |none=>.inl 70
  |some d=>.inr d
end Go.Proofs.YtdgckfkoihcmjaaGreatDoor
namespace Go.Proofs.YtdgckfkoihcmjaaGreatDoor
open Go Go.Lw
set_option maxRecDepth 20000
def Ni (h:aj) (O:Nat->Prop) (cs:List Value) (x:List Nat):Prop:=∃v,cs=[v]/\aY iC h O v x
def CP:gD (List Nat):=⟨1,by decide,Ni,fun h=>by obtain⟨v,rfl,_⟩:=h;rfl,fun h=>by
    obtain⟨v,rfl,hv⟩:=h;intro u hu;simp at hu;subst hu;exact aY.Kf hv,fun h m=>by
    obtain⟨v,hc,hv⟩:=h;exact⟨v,hc,hv.mv m⟩⟩
def mq:Nat->List (List Nat)->List (ByteArray×Int)
  |_,[]=>[]
  |i,x::r=>(bs (yP x),(i:Int))::mq (i+1) r
theorem wK:∀(ls:List (List Nat)) (i:Nat) (l:List Nat),mq i (ls++[l])=mq i ls++[(bs (yP l),((i+ls.length:Nat):Int))]
  | [],i,l=>by simp[mq]
  |x::r,i,l=>by
    simp only[List.cons_append,mq];rw[wK r (i+1) l,List.length_cons,show i+1+r.length=i+(r.length+1) by omega]
theorem vq:∀(ls:List (List Nat)) (i:Nat) (l:List Nat),kZ (bs (yP l)) (mq i ls)=(oe i ls l).map fun j=>(j:Int)
  | [],i,l=>rfl
  |x::r,i,l=>by
    rw[mq,kZ,oe]
    by_cases h:l=x
    · subst h;rw[if_pos rfl,if_pos rfl];rfl
    · have hk:¬bs (yP l)=bs (yP x):=fun e=>h (G3 (aI e))
      rw[if_neg hk,if_neg h];exact vq r (i+1) l
theorem BN {h:aj}{O:Nat->Prop}{v:Value}{l:List Nat}(k:aY iC h O v l):aY (.int .i64) h O v (l.map Int.ofNat):=by
  obtain⟨oa,n,c,rfl,hl,hnc,hc,hg⟩:=k;refine⟨oa,n,c,rfl,by simpa using hl,hnc,hc,fun i x hx=>?_⟩;rw[List.getElem?_map] at hx;cases hs:l[i]? with
  |none=>rw[hs] at hx;cases hx
  |some s =>
    rw[hs] at hx;simp only[Option.map_some,Option.some.injEq] at hx;subst hx;obtain⟨b,o,cs,h1,h2,h3,h4⟩:=hg i s hs;exact⟨b,o,cs,h1,h2,h3,h4⟩
structure iE (h0 h:aj) (C:Nat->Prop) (db mb:Nat) (vl vn vr:Value) (lists:List (List Nat)) (next:List Row) (rule:List Int):Prop where
  ext:aq h0 h
  dblk:aC h db 151 [vn,vr]
  nx:lf 256 bN h h0.size 155 vn next
  ru:cn (Value.int .i64) h h0.size 3 vr rule
  mp:fu Value.string (Value.int .i64) h mb (mq 0 lists)
  ls:cy CP (fun b=>¬C b) h h0.size 129 vl lists
  cty:∀b,C b->cP h b 3
  cr:∀b,vr.ownBlock=some b->¬C b
  dge:h0.size<=db
  mge:h0.size<=mb
section
variable {h0 h:aj}{C:Nat->Prop}{db mb:Nat}{vl vn vr:Value}{lists:List (List Nat)}{next:List Row}{rule:List Int}
theorem iE.GP (k:iE h0 h C db mb vl vn vr lists next rule):∀b,vl.ownBlock=some b->cP h b 129:=fun b hb=>by
  obtain⟨css,_,h2,_⟩:=k.ls;exact h2.ty hb
theorem iE.ED (k:iE h0 h C db mb vl vn vr lists next rule):∀b,vn.ownBlock=some b->cP h b 155:=fun _ hb=>aB.ty k.nx hb
theorem iE.Dq (k:iE h0 h C db mb vl vn vr lists next rule):∀b,vr.ownBlock=some b->cP h b 3:=fun _ hb=>aB.ty k.ru hb
theorem iE.Pv (k:iE h0 h C db mb vl vn vr lists next rule):∀b,vl.ownBlock=some b->h0.size<=b:=fun b hb=>by
  obtain⟨css,_,h2,_⟩:=k.ls;exact(h2.lt hb).1
theorem iE.ah {h':aj}(k:iE h0 h C db mb vl vn vr lists next rule) (e:aq h h'):iE h0 h' C db mb vl vn vr lists next rule :=
  ⟨k.ext.trans e,k.dblk.ah e,lf.ah k.nx e,cn.ah k.ru e,k.mp.ext e (fun k=>k),k.ls.ah e,fun b hb=>(k.cty b hb).ext e (fun k=>k),k.cr,k.dge,k.mge⟩
theorem iE.put {h':aj}{x:Nat}(k:iE h0 h C db mb vl vn vr lists next rule) (e:Ext (fun b=>b=x) h h') (hx:cP h x 155) (hn:vn.ownBlock≠some x) (hge:h0.size<=x):iE h0 h' C db mb vl vn vr lists next rule:=by
  have hd:¬db=x:=k.dblk.ty.ne hx (by decide);have hm:¬mb=x:=k.mp.ne hx;have hl:∀b,vl.ownBlock=some b->¬b=x:=fun b hb=>(k.GP b hb).ne hx (by decide)
  have hr:∀b,vr.ownBlock=some b->¬b=x:=fun b hb=>(k.Dq b hb).ne hx (by decide)
  have hc:∀b,C b->¬b=x:=fun b hb=>(k.cty b hb).ne hx (by decide)
  exact⟨aq.only k.ext e hge,k.dblk.ext e hd,aB.ext e k.nx (fun b hb hbx=>hn (by subst hbx;exact hb)),aB.ext e k.ru hr,k.mp.ext e hm,
    k.ls.oZ e hl (fun b _ hb hC=>hc b hC hb) (fun _ _ k=>k),fun b hb=>(k.cty b hb).ext e (hc b hb),k.cr,k.dge,k.mge⟩
end
section
variable {h0 h:aj}{C:Nat->Prop}{db mb:Nat}{vl vn vr:Value}{lists:List (List Nat)}{next:List Row}{rule:List Int}
theorem iE.KE {g3 g4:aj}{v3:Value}{r:Row}{n:Nat}(k:iE h0 h C db mb vl vn vr lists next rule) (hn:n=next.length) (ho:aB g3 h0.size 155 256 v3 (n+1) (next.flatMap bN++bN r)) (hx:Ext (cu vn.ownBlock) h g3) (hd:aC g4 db 151 [v3,vr]) (x4:Ext (fun b=>b=db) g3 g4) :
    iE h0 g4 C db mb vl v3 vr lists (next++[r]) rule:=by
  have nne:∀{b:Nat}{t:TypeId},cP h b t->155≠t->¬cu vn.ownBlock b:=fun kt ht e=>(k.ED _ e.symm).ne kt ht rfl
  have d3:=k.dblk.ext hx (nne k.dblk.ty (by decide));have dne:∀{b:Nat}{t:TypeId},cP g3 b t->151≠t->¬b=db:=fun kt ht e=>by subst e;exact d3.ty.ne kt ht rfl
  have mne:¬cu vn.ownBlock mb:=fun e=>k.mp.ne (k.ED _ e.symm) rfl
  have hm3:=k.mp.ext hx mne;have hdlt:=k.dblk.lt;have ru3:=aB.ext hx k.ru (fun b hb=>nne (k.Dq b hb) (by decide));have ls3:cy CP (fun b=>¬C b) g3 h0.size 129 vl lists:=k.ls.oZ hx (fun b hb=>nne (k.GP b hb) (by decide)) (fun b _ hb hC=>nne (k.cty b hC) (by decide) hb) (fun _ _ k=>k);have lty3:∀b,vl.ownBlock=some b->cP g3 b 129:=fun b hb=>(k.GP b hb).ext hx (nne (k.GP b hb) (by decide))
  have cty3:∀b,C b->cP g3 b 3:=fun b hb=>(k.cty b hb).ext hx (nne (k.cty b hb) (by decide))
  refine⟨⟨by have:=k.ext.size;have:=hx.size;have:=x4.size;omega,fun b hb kk=>?_⟩,hd,?_,aB.ext x4 ru3 (fun b hb=>dne (aB.ty ru3 hb) (by decide)),hm3.ext x4 (hm3.ne d3.ty),ls3.oZ x4 (fun b hb=>dne (lty3 b hb) (by decide)) (fun b _ hb hC=>dne (cty3 b hC) (by decide) hb) (fun _ _ k=>k),fun b hb=>(cty3 b hb).ext x4 (dne (cty3 b hb) (by decide)),k.cr,k.dge,k.mge⟩
  · rw[x4.block b (by have:=k.ext.size;have:=hx.size;omega) (by have:=k.dge;omega),hx.block b (by have:=k.ext.size;omega) (fun e=>by have:=(aB.lt k.nx e.symm).1;omega)];exact k.ext.block b hb kk
  · exact aB.ext x4 (lf.of ho hn rfl) (fun b hb=>dne (aB.ty ho hb) (by decide))
theorem iE.KD {g3 g4:aj}{v3:Value}{x:Int}{n:Nat}(k:iE h0 h C db mb vl vn vr lists next rule) (hn:n=rule.length) (ho:aB g3 h0.size 3 1 v3 (n+1) (rule.map (Value.int .i64)++[.int .i64 x])) (hx:Ext (cu vr.ownBlock) h g3) (hv:∀b,v3.ownBlock=some b->vr.ownBlock=some b\/h.size<=b) (hd:aC g4 db 151 [vn,v3]) (x4:Ext (fun b=>b=db) g3 g4) :
    iE h0 g4 C db mb vl vn v3 lists next (rule++[x]):=by
  have nne:∀{b:Nat}{t:TypeId},cP h b t->3≠t->¬cu vr.ownBlock b:=fun kt ht e=>(k.Dq _ e.symm).ne kt ht rfl
  have cne:∀{b:Nat},C b->¬cu vr.ownBlock b:=fun hC e=>k.cr _ e.symm hC
  have d3:=k.dblk.ext hx (nne k.dblk.ty (by decide));have dne:∀{b:Nat}{t:TypeId},cP g3 b t->151≠t->¬b=db:=fun kt ht e=>by subst e;exact d3.ty.ne kt ht rfl
  have mne:¬cu vr.ownBlock mb:=fun e=>k.mp.ne (k.Dq _ e.symm) rfl
  have hm3:=k.mp.ext hx mne;have nx3:=aB.ext hx k.nx (fun b hb=>nne (k.ED b hb) (by decide));have ls3:cy CP (fun b=>¬C b) g3 h0.size 129 vl lists:=k.ls.oZ hx (fun b hb=>nne (k.GP b hb) (by decide)) (fun b _ hb hC=>cne hC hb) (fun _ _ k=>k);have lty3:∀b,vl.ownBlock=some b->cP g3 b 129:=fun b hb=>(k.GP b hb).ext hx (nne (k.GP b hb) (by decide))
  have cty3:∀b,C b->cP g3 b 3:=fun b hb=>(k.cty b hb).ext hx (cne hb)
  refine⟨⟨by have:=k.ext.size;have:=hx.size;have:=x4.size;omega,fun b hb kk=>?_⟩,hd,aB.ext x4 nx3 (fun b hb=>dne (aB.ty nx3 hb) (by decide)),?_,hm3.ext x4 (hm3.ne d3.ty),ls3.oZ x4 (fun b hb=>dne (lty3 b hb) (by decide)) (fun b _ hb hC=>dne (cty3 b hC) (by decide) hb) (fun _ _ k=>k),fun b hb=>(cty3 b hb).ext x4 (dne (cty3 b hb) (by decide)),fun b hb hC=>?_,k.dge,k.mge⟩
  · rw[x4.block b (by have:=k.ext.size;have:=hx.size;omega) (by have:=k.dge;omega),hx.block b (by have:=k.ext.size;omega) (fun e=>by have:=(aB.lt k.ru e.symm).1;omega)];exact k.ext.block b hb kk
  · exact aB.ext x4 (cn.of (ys:=[x]) ho hn rfl rfl) (fun b hb=>dne (aB.ty ho hb) (by decide))
  · rcases hv b hb with e|e
    · exact k.cr b e hC
    · have:=(k.cty b hC).lt;omega
end
def zF (res:Int ⊕ bD) (h':aj) (r:Value):Prop:=match res with
  |.inl e=>r= .tuple #[.pointer none,.int .i64 e]
  |.inr d=>∃db,r= .tuple #[.pointer (some ⟨db,0,none⟩),.int .i64 0]/\ou h' db d
end Go.Proofs.YtdgckfkoihcmjaaGreatDoor
namespace Go.Proofs.YtdgckfkoihcmjaaGreatDoor
open Go.Proofs.Tryz
open Go Go.Lw
set_option maxRecDepth 20000 set_option maxHeartbeats 4000000
theorem Bo {h:aj}{O:Nat->Prop}{nb:Nat}{v:Value}{ss:List aX}{st:Nat}(htens:qX h) (hn:bM h O nb v ss st) (hgood:Good ss) (hss:ss.length<=30000) (hst:st<ss.length) (hpot1:1+rG ss (List.replicate ss.length false)<=1000000)
 (hpot:∀c now,List.Sublist now (List.range ss.length)->(stepG ss c now []).length+rG ss (List.replicate ss.length false)<=1000000) :
 av Tryz.prog 27 #[.pointer (some ⟨nb,0,none⟩)] h (bq fun r h'=>zF (fZ ss st) h' r/\aq h h'):=by
 generalize hres:fZ ss st=res
 have hint:∀l:List Nat,l.Sublist (List.range ss.length)->(l.map Int.ofNat).length<=1000000/\∀n∈l.map Int.ofNat,-9223372036854775808<=n/\n<=9223372036854775807:=fun l hl=>by
  have h1:=hl.length_le;rw[List.length_range] at h1;refine⟨by rw[List.length_map];omega,fun n hn=>?_⟩;obtain⟨j,hj,rfl⟩:=List.mem_map.1 hn;have:=List.mem_range.1 (hl.subset hj);simp only[Int.ofNat_eq_natCast];omega
 refine bP ?_;refine af ?_;refine xo rfl (aF rfl (Ak hn hgood (by omega) (.inr hst) hpot1)) ?_;rintro w4 h1 ⟨ho1,e1⟩;have hsub0:=Cj ss st;generalize hl0:bX ss st=l0 at *;have hi0:=hint l0 hsub0;obtain⟨wa,wc,rfl,_⟩:=(show aB h1 h.size 3 1 w4 l0.length (l0.map dP) from ho1).open;refine af ?_;refine aP (fun hz=>?_) (fun hz=>?_)
 · refine af ?_;refine bh ?_;have:res= .inl 1:=by rw[<-hres,fZ,hl0,if_pos (by omega)]
   subst this;exact⟨_,rfl,rfl,e1⟩
 · have hres':res=match ko ss 2002 0 [l0] [] [] with|none=>.inl 70|some d=>.inr d:=by rw[<-hres,fZ,hl0,if_neg (by omega)]<;>rfl
   refine af ?_;refine xp rfl (au (H.HQ ) rfl) ?_;refine xo rfl (iF) ?_;rintro _ h2 ⟨rfl,k2,e2,z2⟩;refine af ?_;refine xo rfl (nj (ek:=Value.string) (ev:=Value.int .i64)) ?_;rintro _ h3 ⟨rfl,hm3,e3,z3⟩;have k2:aC h2 h1.size 151 [.slice none 0 0,.slice none 0 0]:=k2;have e13:=e2.trans e3;have hz1:=e1.size;refine af ?_;refine xo rfl (aF rfl (qL ((htens.ah e1).ah e13) (BN (aY.mv (cn.read (O:=fun _=>False) (h1:=fun _=>rfl) ho1 (fun _ _ k=>k)) (Mv.ah e13))) hi0.1 hi0.2)) ?_;rintro _ h4 ⟨rfl,e4⟩;have hm4:=hm3.ext e4 (fun k=>k);have z4:=e4.size;refine aH rfl (vG (v:=(0:Int)) jD underlying153 underlying9 rfl rfl rfl rfl rfl hm4 (rfl:kZ (bs (gq (l0.map Int.ofNat))) []=none)) ?_;rintro _ h5 ⟨rfl,hm5,x5,z5⟩;have hm5:fu Value.string (Value.int .i64) h5 h2.size (mq 0 [l0]):=hm5;have e05:aq h h5:=aq.only ((e1.trans e13).trans e4) x5 (by omega);have ho5:cn dP h5 h.size 3 (.slice wa l0.length wc) l0:=aB.ext x5 (cn.ah (cn.ah ho1 e13) e4) (fun b hb (e:b=h2.size)=>by have:=(aB.lt ho1 hb).2;omega);have k5:aC h5 h1.size 151 [.slice none 0 0,.slice none 0 0]:=((k2.ah e3).ah e4).ext x5 (by show ¬_=_;omega);refine af ?_;refine xo rfl (jG [_]) ?_;rintro _ _ ⟨rfl,rfl⟩;refine af ?_;have e56:aq h5 (h5.push (.cells #[.slice wa l0.length wc] 129)):=Ext.push _ _ _
   have ls6:cy CP (fun b=>¬cu (Value.slice wa l0.length wc).ownBlock b) (h5.push (.cells #[.slice wa l0.length wc] 129)) h.size 129 (.slice (some ⟨h5.size,0,none⟩) 1 1) [l0] :=
    cy.nY (e:=CP) (cs:=[.slice wa l0.length wc]) ⟨_,rfl,aB.J8 (h1:=fun _=>rfl) ho5 (fun b hb k=>k hb.symm)⟩ e05.size
   generalize h5.push (.cells #[.slice wa l0.length wc] 129)=h6 at *
   have mk6:iE h h6 (cu (Value.slice wa l0.length wc).ownBlock) h1.size h2.size (.slice (some ⟨h5.size,0,none⟩) 1 1) (.slice none 0 0) (.slice none 0 0) [l0] [] [] :=
    ⟨e05.trans e56,k5.ah e56,lf.nil _ _ _ _ _,cn.nil _ _ _ _,hm5.ext e56 (fun k=>k),ls6,fun b hb=>cP.ext (aB.ty ho5 hb.symm) e56 (fun k=>k),fun b hb=>(by cases hb),hz1,by omega⟩
   refine LC (σ:=Nat×Value) (fun q=>[(0,.pointer (some ⟨nb,0,none⟩)),(5,.pointer (some ⟨h1.size,0,none⟩)),(6,.map (some h2.size)),(7,q.2),(8,.int .i64 (q.1:Nat))]) (fun q h'=>∃C vn vr lists next rule,iE h h' C h1.size h2.size q.2 vn vr lists next rule/\q.1<=lists.length/\lists.length<=2000/\(next.length=q.1/\rule.length=q.1)/\(∀l∈lists,l.Sublist (List.range ss.length))/\res=(match ko ss (2002-q.1) q.1 lists next rule with|none=>.inl 70|some d=>.inr d)) (fun q=>2002-q.1) ((0,.slice (some ⟨h5.size,0,none⟩) 1 1)) ⟨_,_,_,[l0],[],[],mk6,Nat.zero_le _,by simp,⟨rfl,rfl⟩,fun l hl=>by simp at hl;subst hl;exact hsub0,hres'⟩ ?_;rintro⟨i,vl⟩ g ⟨C,vn,vr,lists,next,rule,mk,hi,hl2,⟨hnl,hrl⟩,hsl,hcon⟩ ih
   try dsimp only
   dsimp only at mk hi hnl hrl hcon;obtain⟨css,hc1,hc2,hc3⟩:=id mk.ls;obtain⟨la,lc,rfl,_⟩:=hc2.open;have hng:bM g O nb v ss st:=hn.ah mk.ext (fun _ _ k=>k);have mkg:=mk;refine af ?_;refine aP (fun hlt=>?_) (fun hlt=>?_)
   · have hil:i<lists.length:=by omega
     obtain⟨cur,hcur⟩:∃cur,lists[i]? =some cur:=⟨_,List.getElem?_eq_getElem hil⟩
     have hcsub:=hsl cur (List.mem_of_getElem? hcur);obtain⟨n,hnn⟩:∃n,2002-i=n+1:=⟨2001-i,by omega⟩
     rw[hnn,ko,hcur] at hcon;simp only at hcon;generalize hrow:lB ss cur 256 0 lists []=tgt at hcon;refine af ?_;refine xo rfl (cm) ?_;rintro _ g1 ⟨rfl,kz,ez,zz⟩;have kz:aC g1 g.size 155 (([]:List Int).map (Value.int .i64)++List.replicate (256-0) (Value.int .i64 0)):=kz;have IV:=mk.ah ez;have hvz:vn.ownBlock≠some g.size:=fun e=>by have:=(mk.ED _ e).lt;omega
     refine af ?_;refine LC (σ:=Nat×Value) (fun q=>[(0,.pointer (some ⟨nb,0,none⟩)),(5,.pointer (some ⟨h1.size,0,none⟩)),(6,.map (some h2.size)),(7,q.2),(8,.int .i64 (i:Nat)),(9,.pointer (some ⟨g.size,0,none⟩)),(33,.int .i64 (q.1:Nat))]) (fun q h'=>∃C lists' row,iE h h' C h1.size h2.size q.2 vn vr lists' next rule/\(q.1<=256/\row.length=q.1/\lists'.length<=2000+q.1)/\aC h' g.size 155 (row.map (Value.int .i64)++List.replicate (256-q.1) (Value.int .i64 0))/\lists'[i]? =some cur/\(∀l∈lists',l.Sublist (List.range ss.length))/\lB ss cur (256-q.1) q.1 lists' row=tgt) (fun q=>256-q.1) ((0,.slice la lists.length lc)) ⟨C,lists,[],IV,⟨Nat.zero_le _,rfl,by simp;omega⟩,kz,hcur,hsl,hrow⟩ ?_;rintro⟨b,vl⟩ g2 ⟨C,lists,row,mk,⟨hb,hrlen,hlb⟩,kz,hcur,hsl,hrow⟩ ih2
     try dsimp only
     dsimp only at mk hb hrlen hlb kz hrow;have hng:bM g2 O nb v ss st:=hn.ah mk.ext (fun _ _ k=>k);refine af ?_;refine aP (fun hb256=>?_) (fun hb256=>?_)
     · obtain⟨m,hm⟩:∃m,256-b=m+1:=⟨255-b,by omega⟩
       rw[hm,lB] at hrow;obtain⟨g',c',cs,hv',_,_,hrowv,_,⟨w,rfl,hw⟩,_⟩:=mk.ls.put hcur;subst hv';have hnlt:∀j∈cur,j<ss.length:=fun j hj=>List.mem_range.1 (hcsub.subset hj)
       have hcl:=hcsub.length_le;rw[List.length_range] at hcl;have hub:(UInt8.ofNat b).toNat=b:=by simp;omega
       have hwr:aY iC g2 (fun _=>False) w cur:=qv hw (fun _ k=>k.elim);have hstep:=Ci (UInt8.ofNat b) hng hgood (by omega) hwr hnlt (by omega) (hpot _ _ hcsub);rw[hub] at hstep;have hlsub:=D7 ss (UInt8.ofNat b) cur
       iterate 4 refine aR ?_
       refine de ?_
       iterate 2 refine aZ ?_
       refine cV ?_;refine aR ?_;refine de ?_
       iterate 3 refine aZ ?_
       refine xp rfl (cK rfl rfl i rfl rfl (by have:=(List.getElem?_eq_some_iff.1 hcur).1;omega)) ?_;refine xp rfl (az rfl (hrowv 0 _ rfl)) ?_;refine aZ ?_;refine xp rfl (NL rfl (wrap_u8 ⟨by omega,by omega⟩)) ?_;refine xo rfl (aF rfl hstep) ?_;rintro w11 g3 ⟨ho3,e3⟩;generalize hl:cw ss (UInt8.ofNat b) cur=l at *;have hsN:dh ss cur lists b=if l.length=0 then (lists,-1) else match oe 0 lists l with|some i=>(lists,(i:Int))|none=>(lists++[l],(lists.length:Int)):=by unfold dh;rw[hl]<;>rfl
       have hil:=hint l hlsub;obtain⟨l11a,l11c,rfl,_⟩:=(show aB g3 g2.size 3 1 w11 l.length (l.map dP) from ho3).open;have mk3:=mk.ah e3;have kz3:=kz.ah e3;have hkey:∀{gg:aj},aq g3 gg->av Tryz.prog 60 #[.slice l11a l.length l11c] gg (bq fun r h'=>r= .string (bs (yP l))/\aq gg h'):=fun e=>qL (htens.ah (mk3.ext.trans e)) (BN (aY.mv (cn.read (O:=fun _=>False) (h1:=fun _=>rfl) ho3 (fun _ _ k=>k)) (Mv.ah e))) hil.1 hil.2
       refine af ?_;refine xo rfl (aF rfl (hkey (Ext.refl _ _))) ?_;rintro _ g4 ⟨rfl,e4⟩;have mk4:=mk3.ah e4;have kz4:=kz3.ah e4;refine xp rfl (ay.ud (z:=.int .i64 0) jD underlying153 underlying9 (by kernel_rfl) rfl rfl rfl mk4.mp) ?_;rw[vq];refine af ?_
       have fin:∀(to:Int) (vl2:Value) (h':aj) (ρ':Env),Sub [(0,.pointer (some ⟨nb,0,none⟩)),(5,.pointer (some ⟨h1.size,0,none⟩)),(6,.map (some h2.size)),(7,vl2),(8,.int .i64 (i:Nat)),(9,.pointer (some ⟨g.size,0,none⟩)),(10,.int .i64 (b:Nat)),(12,.int .i64 to),(33,.int .i64 (b:Nat))] ρ'->(∃C2,iE h h' C2 h1.size h2.size vl2 vn vr (dh ss cur lists b).1 next rule)->to=(dh ss cur lists b).2->aC h' g.size 155 (row.map (Value.int .i64)++List.replicate (256-b) (Value.int .i64 0))->G Tryz.prog 27 f27 [.code [1,1,1,1,0,0,1,1,0,0,1,0,1,0,0,1,0,0,1,0,1,1,1,1,1,1],.blk 3,.code [1,1,1,0,0,1,0,1,0,0,1,0,0,1,0,1,1,1,1,1,1],.loop [0,0,1,0,1,0,0,1,0,0,1,0,1,1,1,1,1,1],.blk 2,.code [1,1,0,0,1,0,0,1,0,1,1,1,1,1,1],.blk 1,.code [1,1,0,0,1,0,1,1,1,1,1,1],.loop [0,0,1,0,1,1,1,1,1,1],.blk 0,.code [1,1,1,1,1,1,1]] ρ' h' (bq fun r h'=>zF res h' r/\aq h h'):=by
        rintro to vl2 g5 ρ' hsub ⟨C2,mk5⟩ hto kz5;refine G.sub (ρ':=[(0,.pointer (some ⟨nb,0,none⟩)),(5,.pointer (some ⟨h1.size,0,none⟩)),(6,.map (some h2.size)),(7,vl2),(8,.int .i64 (i:Nat)),(9,.pointer (some ⟨g.size,0,none⟩)),(10,.int .i64 (b:Nat)),(12,.int .i64 to),(33,.int .i64 (b:Nat))]) hsub ?_
        have hrs:(dh ss cur lists b).1.length<=lists.length+1/\(dh ss cur lists b).1[i]? =some cur/\∀x∈(dh ss cur lists b).1,x.Sublist (List.range ss.length):=by
         rw[hsN];split
         · exact⟨Nat.le_succ _,hcur,hsl⟩
         · split
           · exact⟨Nat.le_succ _,hcur,hsl⟩
           · refine⟨by simp,by rw[List.getElem?_append_left (List.getElem?_eq_some_iff.1 hcur).1];exact hcur,fun x hx=>?_⟩
             rcases List.mem_append.1 hx with k|k
             · exact hsl x k
             · have:x=l:=by simpa using k
               rw[this];exact hlsub
        have hcells:(row.map (Value.int .i64)++List.replicate (256-b) (Value.int .i64 0)).length=256:=by simp[hrlen];omega
        have hset:(row.map (Value.int .i64)++List.replicate (256-b) (Value.int .i64 0)).set (0+b*1) (.int .i64 to)=(row++[to]).map (Value.int .i64)++List.replicate (256-(b+1)) (Value.int .i64 0):=by
         rw[Nat.zero_add,Nat.mul_one,List.set_append_right _ _ (by simp;omega),show 256-b=(256-(b+1))+1 by omega,List.replicate_succ];have:b-(row.map (Value.int .i64)).length=0:=by simp;omega
         rw[this,List.set_cons_zero];simp
        have hblt:0+b*1<(row.map (Value.int .i64)++List.replicate (256-b) (Value.int .i64 0)).length:=by rw[hcells];omega
        refine de ?_
        iterate 2 refine aZ ?_
        refine xp rfl (xM rfl rfl b rfl (by omega)) ?_;refine aH rfl (bU H.jM rfl rfl rfl (kz5.cell (List.getElem?_eq_getElem hblt)) kz5.nf) ?_;rintro _ g6 ⟨rfl,hg6⟩;have k6:=kz5.set (0+b*1) (.int .i64 to);rw[<-hg6,hset] at k6;have x6:Ext (fun y=>y=g.size) g5 g6:=by rw[hg6];exact Ext.dK _ _ _ rfl
        have hzge:h.size<=g.size:=mkg.ext.size;have mk6:=mk5.put x6 kz5.ty hvz hzge;refine af ?_;exact ih2 (b+1,vl2) ⟨C2,_,row++[to],mk6,⟨by show b+1<=256;omega,by simp[hrlen],by show _<=2000+(b+1);omega⟩,k6,hrs.2.1,hrs.2.2,by show lB ss cur (256-(b+1)) (b+1) _ _=tgt;rw[show 256-(b+1)=m by omega,hto];exact hrow⟩
       refine aP (fun hz11=>?_) (fun hz11=>?_)
       · have hl0':l.length=0:=by omega
         refine de ?_;refine aZ ?_;refine cV ?_;refine aR ?_;exact fin (-1) _ _ _ (by exact sb rfl) (by rw[hsN,if_pos hl0'];exact⟨C,mk4⟩) (by rw[hsN,if_pos hl0']) kz4
       · have hl0':¬l.length=0:=by omega
         rcases hfind:oe 0 lists l with _|j
         · refine af ?_;refine eu rfl (by simp) ?_;refine af ?_;refine xo rfl (aF rfl (hkey e4)) ?_;rintro _ g5 ⟨rfl,e5⟩;have mk5:=mk4.ah e5;have hnone:kZ (bs (yP l)) (mq 0 lists)=none:=by rw[vq,hfind];rfl
           refine af ?_;refine aH rfl (aT.mapUpdate (v:=(lists.length:Int)) jD underlying153 underlying9 rfl rfl rfl rfl rfl mk5.mp hnone) ?_;rintro _ g6 ⟨rfl,hm6,x6,z6⟩;have hm6:fu Value.string (Value.int .i64) g6 h2.size (mq 0 (lists++[l])):=by rw[wK,Nat.zero_add];exact hm6
           have mapne:∀{b:Nat}{t:TypeId},cP g5 b t->¬b=h2.size:=fun k e=>mk5.mp.ne k e.symm
           have e35:=e4.trans e5;have ho5w:cn dP g5 g2.size 3 (.slice l11a l.length l11c) l:=cn.ah ho3 e35;have kz5:=kz4.ah e5;have kz6:=kz5.ext x6 (mapne kz5.ty);have d6:=mk5.dblk.ext x6 (mapne mk5.dblk.ty);have nx6:=aB.ext x6 mk5.nx (fun b hb=>mapne (mk5.ED b hb));have ru6:=aB.ext x6 mk5.ru (fun b hb=>mapne (mk5.Dq b hb));have ho6w:cn dP g6 g2.size 3 (.slice l11a l.length l11c) l:=aB.ext x6 ho5w (fun b hb=>mapne (aB.ty ho5w hb))
           have ls6:cy CP (fun b=>¬(C b\/cu (Value.slice l11a l.length l11c).ownBlock b)) g6 h.size 129 (.slice (some ⟨g',0,none⟩) lists.length c') lists :=
            mk5.ls.oZ x6 (fun b hb=>mapne (mk5.GP b hb)) (fun b _ hb hC=>mapne (mk5.cty b hC) hb) (fun b _ hb hC=>hb (.inl hC))
           have lty6:cP g6 g' 129:=(mk5.GP g' rfl).ext x6 (mapne (mk5.GP g' rfl));obtain⟨css,hc1,hc2,hc3⟩:=id ls6;have hz5:=mk5.ext.size;have hz2g:=mk.ext.size;refine af ?_;refine xo rfl (jG [_]) ?_;rintro _ _ ⟨rfl,rfl⟩;refine xo rfl (wC rfl rfl hc2 rfl rfl) ?_;rintro v7 g7 ⟨ho7,hx7,hx7',hv7⟩
           have lne:∀{b:Nat}{t:TypeId},cP g6 b t->129≠t->¬cu (Value.slice (some ⟨g',0,none⟩) lists.length c').ownBlock b:=fun k ht e=>by
            simp only[cu,Value.ownBlock,Option.some.injEq] at e;subst e;exact lty6.ne k ht rfl
           have hsz3:=e3.size;have hsz35:=e35.size;have ty6:∀{b:Nat}{t:TypeId},cP g5 b t->cP g6 b t:=fun k=>k.ext x6 (mapne k)
           have hls7:cy CP (fun b=>¬(C b\/cu (Value.slice l11a l.length l11c).ownBlock b)) g7 h.size 129 v7 (lists++[l]) :=
            cy.fC (h:=g6) (v:=.slice (some ⟨g',0,none⟩) lists.length c') (css:=css) (cs:=[.slice l11a l.length l11c]) hc1 hc3 ho7 hx7 hv7 ⟨_,rfl,aB.J8 (h1:=fun _=>rfl) ho6w (fun b hb k=>by
             rcases k with k|k
             · exact lne (aB.ty ho6w hb) (by decide) k
             · exact k (.inr hb.symm))⟩
           have hmb6:¬cu (Value.slice (some ⟨g',0,none⟩) lists.length c').ownBlock h2.size:=fun e=>by
            simp only[cu,Value.ownBlock,Option.some.injEq] at e;exact hm6.ne (e▸lty6) rfl
           have hext7:aq h g7:=⟨by have:=hx7.size;omega,fun b hb k=>by
            rw[hx7.block b (by omega) (fun e=>by
             simp only[cu,Value.ownBlock,Option.some.injEq] at e;have:=mk5.Pv g' rfl;omega),x6.block b (by omega) (by have:=mk5.mge;omega)]
            exact mk5.ext.block b hb k⟩
           have mk7:iE h g7 (fun b=>C b\/cu (Value.slice l11a l.length l11c).ownBlock b) h1.size h2.size v7 vn vr (lists++[l]) next rule :=
            ⟨hext7,d6.ext hx7 (lne d6.ty (by decide)),aB.ext hx7 nx6 (fun b hb=>lne (aB.ty nx6 hb) (by decide)),aB.ext hx7 ru6 (fun b hb=>lne (aB.ty ru6 hb) (by decide)),hm6.ext hx7 hmb6,hls7,
             fun b hb=>by
              rcases hb with hb|hb
              · exact cP.ext (ty6 (mk5.cty b hb)) hx7 (lne (ty6 (mk5.cty b hb)) (by decide))
              · exact cP.ext (aB.ty ho6w hb.symm) hx7 (lne (aB.ty ho6w hb.symm) (by decide)),
             fun b hb hC=>by
              rcases hC with hC|hC
              · exact mk5.cr b hb hC
              · have h1':=(mk.Dq b hb).lt;have h2':=(aB.lt ho6w hC.symm).1;omega,mk5.dge,mk5.mge⟩
           obtain⟨v7a,v7c,rfl,_⟩:=ho7.open;refine aZ ?_;refine cV ?_;refine aR ?_;exact fin (lists.length:Int) _ _ _ (by exact sb rfl) (by rw[hsN,if_neg hl0',hfind];exact⟨_,mk7⟩) (by rw[hsN,if_neg hl0',hfind]) (kz6.ext hx7 (lne kz6.ty (by decide)))
         · have hj:=oL lists 0 j l hfind;refine af ?_;refine eC rfl (by simp) ?_
           iterate 2 refine aR ?_
           exact fin (j:Int) _ _ _ (by exact sb rfl) (by rw[hsN,if_neg hl0',hfind];exact⟨C,mk4⟩) (by rw[hsN,if_neg hl0',hfind]) kz4
     · obtain rfl:b=256:=by omega
       rw[Nat.sub_self,lB] at hrow;subst hrow;simp only at hcon;obtain⟨css2,hd1,hd2,hd3⟩:=id mk.ls;obtain⟨la2,lc2,rfl,_⟩:=hd2.open;have hencr:bN (jO row)=row.map (Value.int .i64):=by rw[bN,sQ hrlen]
       rw[Nat.sub_self,List.replicate_zero,List.append_nil,<-hencr] at kz;refine af ?_;refine aP (fun hbigl=>?_) (fun hbigl=>?_)
       · rw[if_pos (by omega)] at hcon;refine af ?_;refine bh ?_;exact⟨_,rfl,by rw[hcon];rfl,mk.ext⟩
       · rw[if_neg (by omega)] at hcon
         have nne:∀{b:Nat}{t:TypeId},cP g2 b t->155≠t->¬(cu vn.ownBlock b\/Array.size g2<=b):=fun kt ht e=>by
          rcases e with e|e
          · exact(mk.ED _ e.symm).ne kt ht rfl
          · have:=kt.lt;omega
         have hzM:¬(cu vn.ownBlock g.size\/Array.size g2<=g.size):=by
          rintro(e|e)
          · exact hvz e.symm
          · have:=kz.lt;omega
         have hdM:=nne mk.dblk.ty (by decide);have hnx:aB g2 h.size 155 256 vn next.length (next.flatMap bN):=mk.nx
         have hone:∀u∈bN (jO row),u.oneCell'=true:=fun u hu=>by simp[bN] at hu;obtain⟨_,_,rfl⟩:=hu;rfl
         have hg2:=mk.ext.size;refine af ?_;refine kH 11 (fun b=>cu vn.ownBlock b\/Array.size g2<=b) (fun i=>Nat.blt i 10) ?_;refine aG 0 ?_;refine aG 1 ?_;refine aG 2 ?_;refine aG 3 ?_;refine bC 4 rfl (fun h' e=>az rfl (e.cell hdM (mk.dblk.cell (i:=0) rfl))) ?_;refine bC 5 rfl (fun h' e=>bV rfl (e.rowAt hzM kz.row)) ?_;refine cU 6 rfl (aT.u5 (cs:=bN (jO row)) underlying149 H.DD rfl (lK _) (by decide)) ?_;rintro _ _ ⟨rfl,rfl⟩;refine⟨fun _=>(Ext.push _ _ _),?_⟩;refine cU 7 rfl (aT.xH underlying149 H.DD rfl rfl hnx rfl (by simp) hone (by simp only[maxLen];omega) (by omega) hg2) ?_;rintro v3 g3 ⟨ho3,hx3,hx3',hv3⟩;refine⟨fun _=>hx3'.mono (fun _ _ k=>.inl k),?_⟩;obtain⟨a3,c3,rfl,_⟩:=ho3.open;refine Iu 8 ?_;refine aG 9 ?_;refine iA 10 rfl (kY rfl rfl ((mk.dblk.ext hx3 (fun e=>hdM (.inl e))))) ?_;rintro _ g4 ⟨rfl,k4,x4,z4⟩;refine⟨nofun,?_⟩;have mk4:=mk.KE (r:=jO row) rfl ho3 hx3 k4 x4;obtain⟨g',c',cs,hv',_,_,hrowv,_,⟨w,rfl,hw⟩,_⟩:=mk4.ls.put hcur;cases hv';have hng4:bM g4 O nb v ss st:=hn.ah mk4.ext (fun _ _ k=>k);have hwr:aY iC g4 (fun _=>False) w cur:=qv hw (fun _ k=>k.elim);have hnlt:∀j∈cur,j<ss.length:=fun j hj=>List.mem_range.1 (hcsub.subset hj)
         have hcl:=hcsub.length_le;rw[List.length_range] at hcl
         have rne:∀{b:Nat}{t:TypeId},cP g4 b t->3≠t->¬(cu vr.ownBlock b\/Array.size g4<=b):=fun kt ht e=>by
          rcases e with e|e
          · exact(mk4.Dq _ e.symm).ne kt ht rfl
          · have:=kt.lt;omega
         have hdM4:=rne mk4.dblk.ty (by decide);have hlM4:=rne (mk4.GP g' rfl) (by decide);have hru:aB g4 h.size 3 1 vr rule.length (rule.map (Value.int .i64)):=mk4.ru;have hg4s:=mk4.ext.size;have hli:i<lists.length:=(List.getElem?_eq_some_iff.1 hcur).1;refine gV ?_;refine kH 16 (fun b=>cu vr.ownBlock b\/Array.size g4<=b) (fun i=>Nat.blt i 15) ?_;refine aG 0 ?_;refine aG 1 ?_;refine aG 2 ?_;refine aG 3 ?_;refine bC 4 rfl (fun h' e=>az rfl (e.cell hdM4 (mk4.dblk.cell (i:=1) rfl))) ?_;refine aG 5 ?_;refine aG 6 ?_;refine aG 7 ?_;refine bC 8 rfl (fun h' e=>cK rfl rfl i rfl rfl) ?_;refine bC 9 rfl (fun h' e=>az rfl (e.cell hlM4 (hrowv 0 _ rfl))) ?_;refine cU 10 rfl (aF rfl (wA hng4 (by omega) hwr hnlt (by omega))) ?_;rintro _ g5 ⟨rfl,hg5⟩;refine⟨fun _=>by subst hg5;exact Ext.refl _ _,?_⟩;subst hg5;refine cU 11 rfl (jG [_]) ?_;rintro _ _ ⟨rfl,rfl⟩;refine⟨fun _=>by first|exact Ext.push _ _ _|assumption,?_⟩;refine cU 12 rfl (wC rfl rfl hru rfl rfl) ?_;rintro v6 g6 ⟨ho6,hx6,hx6',hv6⟩;refine⟨fun _=>hx6'.mono (fun _ _ k=>.inl k),?_⟩;obtain⟨a6,c6,rfl,_⟩:=ho6.open;refine Iu 13 ?_;refine aG 14 ?_;refine iA 15 rfl (kY rfl rfl ((mk4.dblk.ext hx6 (fun e=>hdM4 (.inl e))))) ?_;rintro _ g7 ⟨rfl,k7,x7,z7⟩;refine⟨nofun,?_⟩;have mk7:=mk4.KD (x:=aV ss cur) rfl ho6 hx6 hv6 k7 x7;refine gV ?_;refine af ?_;exact ih (i+1,_) ⟨C,_,_,lists,next++[jO row],rule++[aV ss cur],mk7,by show i+1<=lists.length;omega,by omega,⟨by simp[hnl],by simp[hrl]⟩,hsl,by rw[hcon,show 2002-(i+1)=n by omega]⟩
   · have hie:i=lists.length:=by omega
     have hnone:lists[i]? =none:=List.getElem?_eq_none (by omega);obtain⟨n,hnn⟩:∃n,2002-i=n+1:=⟨2001-i,by omega⟩
     rw[hnn,ko,hnone] at hcon;simp only at hcon;refine af ?_;refine bh ?_;refine⟨_,rfl,?_,mk.ext⟩;rw[hcon];exact⟨h1.size,rfl,vn,vr,mk.dblk,lf.read mk.nx (fun _ _ k=>k),cn.read (h1:=fun _=>rfl) mk.ru (fun _ _ k=>k)⟩
end Go.Proofs.YtdgckfkoihcmjaaGreatDoor
namespace Go.Proofs.YtdgckfkoihcmjaaGreatDoor
open Go
def bD.row (d:bD) (k:Nat):List Int:=match d.next[k]? with|some r=>r.v|none=>[]
def fV (out:List Bool) (t:Int):Bool:=decide (0<=t) && out.getD t.toNat false
def cX (d:bD) (out:List Bool) (k:Nat):Bool:=decide (0<=d.ru k) ||(d.row k).any (fV out)
def bO (d:bD):Nat->Nat->List Bool->Bool->List Bool×Bool
 | 0,_,out,ag=>(out,ag)
 |n+1,k,out,ag=>if out.getD k false=true then bO d n (k+1) out ag else bO d n (k+1) (out.set k (cX d out k)) (ag ||cX d out k)
def fY (out:List Bool):Nat:=(out.filter fun b=> !b).length
def pS (d:bD):Nat->List Bool->List Bool
 | 0,out=>out
 |n+1,out=>if (bO d d.next.length 0 out false).2=true then pS d n (bO d d.next.length 0 out false).1 else (bO d d.next.length 0 out false).1
def bf (d:bD):List Bool:=pS d (d.next.length+1) (List.replicate d.next.length false)
theorem uP:∀(out:List Bool) (k:Nat) (b:Bool),out[k]? =some false->fY (out.set k b)+(if b then 1 else 0)=fY out
 | [],k,b,h=>by simp at h
 |x::r,0,b,h=>by simp at h;subst h;cases b<;>simp[fY]
 |x::r,k+1,b,h=>by
  have:=uP r k b (by simpa using h);unfold fY at this ⊢;rw[List.set_cons_succ];cases x<;>simp at this ⊢ <;>omega
theorem gw (d:bD):∀(n k:Nat) (out:List Bool) (ag:Bool),(bO d n k out ag).1.length=out.length
 | 0,_,_,_=>rfl
 |n+1,k,out,ag=>by
  rw[bO];split
  · exact gw d n _ _ _
  · rw[gw d n];simp
theorem gY (d:bD):∀(n k:Nat) (out:List Bool) (ag:Bool),k+n<=out.length->fY (bO d n k out ag).1<=fY out/\((bO d n k out ag).2=true->ag=true\/fY (bO d n k out ag).1<fY out)
 | 0,_,out,ag,_=>⟨Nat.le_refl _,fun h=>.inl h⟩
 |n+1,k,out,ag,hk=>by
  rw[bO];split
  · exact gY d n (k+1) out ag (by omega)
  · rename_i h
    have hf:out[k]? =some false:=by
     rw[List.getD_eq_getElem?_getD,List.getElem?_eq_getElem (by omega)] at h;rw[List.getElem?_eq_getElem (by omega)];simpa using h
    have h1:=uP out k (cX d out k) hf;have h2:=gY d n (k+1) (out.set k (cX d out k)) (ag ||cX d out k) (by simp;omega);refine⟨by omega,fun ht=>?_⟩
    rcases h2.2 ht with h3|h3
    · cases hb:cX d out k with
      |true=>rw[hb,if_pos rfl] at h1;right;rw[hb] at h2;omega
      |false=>rw[hb,Bool.or_false] at h3;exact .inl h3
    · right;omega
end Go.Proofs.YtdgckfkoihcmjaaGreatDoor
namespace Go.Proofs.YtdgckfkoihcmjaaGreatDoor
open Go.Proofs.Tryz
open Go Go.Lw
set_option maxRecDepth 20000 set_option maxHeartbeats 4000000
theorem AE (r:Row):over (List.replicate 256 (Value.int .i64 0)) 0 (bN r)=bN r:=by
 unfold over;rw[List.take_zero,List.nil_append,lK,List.drop_of_length_le (by simp),List.append_nil]
theorem CC {h:aj}{db:Nat}{d:bD}(k:ou h db d) (hok:d.Ok) :
 av Tryz.prog 64 #[.pointer (some ⟨db,0,none⟩)] h (bq fun r h'=>cn Value.bool h' h.size 4 r (bf d)/\aq h h'):=by
 obtain⟨vn,vr,hk,⟨na,nn,nc,rfl,hnl,hnc,hnm,hgetn⟩,⟨ra,rn,rc,rfl,hrl,hrc,hrm,hgetr⟩⟩:=k;have hlen:=hok.len;have hsize:=hok.size;have hslN:aY DF h (fun _=>False) (.slice na nn nc) d.next:=⟨_,_,_,rfl,hnl,hnc,hnm,hgetn⟩
 have hslR:aY (.int .i64) h (fun _=>False) (.slice ra rn rc) d.rule:=⟨_,_,_,rfl,hrl,hrc,hrm,hgetr⟩
 subst hnl;generalize htgt:bf d=tgt;refine bP ?_;refine af ?_;refine xp rfl (az rfl (hk.cell (i:=0) rfl)) ?_;refine af ?_;refine xo rfl (aT.pR underlying159 H.OQ H.OJ rfl rfl rfl (by omega) (by decide)) ?_;rintro _ h1 ⟨rfl,k1,e1⟩;have k1:cn Value.bool h1 h.size 4 (.slice (some ⟨h.size,0,none⟩) d.next.length d.next.length) (List.replicate d.next.length false):=by unfold cn;simpa using k1
 have hf0:fY (List.replicate d.next.length false)<=d.next.length:=by unfold fY;exact Nat.le_trans (List.length_filter_le _ _) (by simp)
 refine af ?_;refine gJ (σ:=Nat×Bool×List Bool) (fun q=>[(4,.bool q.2.1)]) (fun q h'=>aq h h'/\cn Value.bool h' h.size 4 (.slice (some ⟨h.size,0,none⟩) d.next.length d.next.length) q.2.2/\q.2.2.length=d.next.length/\(q.2.1=true->fY q.2.2<q.1/\pS d q.1 q.2.2=tgt)/\(q.2.1=false->q.2.2=tgt)) (fun q=>q.1+(if q.2.1 then 1 else 0)) ((d.next.length+1,true,List.replicate d.next.length false)) ⟨e1,k1,by simp,fun _=>⟨Nat.lt_succ_of_le hf0,htgt⟩,fun k=>(by cases k)⟩ rfl ?_;rintro⟨n,ag,out⟩ g ⟨eg,ho,hol,hT,hF⟩ ih
 try dsimp only
 dsimp only at ho hol hT hF;refine af ?_;refine fF (fun hag=>?_) (fun hag=>?_)
 · subst hag;obtain⟨hfn,hcon⟩:=hT rfl;obtain⟨n,rfl⟩:∃m,n=m+1:=⟨n-1,by omega⟩
   rw[pS] at hcon;have hless:=gY d d.next.length 0 out false (by omega)
   generalize hps:bO d d.next.length 0 out false=ps at hcon hless
   refine af ?_;refine xp rfl (az rfl ((hk.ah eg).cell (i:=0) rfl)) ?_;refine af ?_;refine gJ (σ:=Nat×Bool×List Bool) (fun q=>[(4,.bool q.2.1),(21,.int .i64 (q.1:Nat))]) (fun q h'=>aq h h'/\cn Value.bool h' h.size 4 (.slice (some ⟨h.size,0,none⟩) d.next.length d.next.length) q.2.2/\q.2.2.length=d.next.length/\q.1<=d.next.length/\bO d (d.next.length-q.1) q.1 q.2.2 q.2.1=ps) (fun q=>d.next.length-q.1) ((0,false,out)) ⟨eg,ho,hol,Nat.zero_le _,hps⟩ rfl ?_;rintro⟨k,ag,out⟩ g2 ⟨eg2,ho,hol,hkl,hcon2⟩ ih2
   try dsimp only
   dsimp only at ho hol hkl hcon2;refine af ?_;refine aP (fun hlt=>?_) (fun hlt=>?_)
   · have hkN:k<d.next.length:=by omega
     obtain⟨m,hm⟩:∃m,d.next.length-k=m+1:=⟨d.next.length-k-1,by omega⟩
     rw[hm,bO] at hcon2;obtain⟨r,hr⟩:∃r,d.next[k]? =some r:=⟨_,List.getElem?_eq_getElem hkN⟩
     obtain⟨oa',n',c',hv',_,_,_,hgetn⟩:=id (hslN.mv (Mv.ah eg2));cases hv';obtain⟨b1,o1,cs1,ha1,_,hrow1,rfl⟩:=hgetn k r hr;have hone:∀u∈bN r,u.oneCell'=true:=fun u hu=>by simp[bN] at hu;obtain⟨_,_,rfl⟩:=hu;rfl
     obtain⟨bx,hbx⟩:∃bx,out[k]? =some bx:=⟨_,List.getElem?_eq_getElem (by omega)⟩
     have hgd:out.getD k false=bx:=by rw[List.getD_eq_getElem?_getD,hbx];rfl
     rw[hgd] at hcon2
     iterate 4 refine aR ?_
     refine de ?_;refine aZ ?_;refine xp rfl (cK rfl rfl k rfl ha1) ?_;refine xp rfl (bV rfl hrow1) ?_;refine xo rfl (cm) ?_;rintro _ g3 ⟨rfl,k6,e3,z3⟩;have k6:aC g3 g2.size 155 (List.replicate 256 (Value.int .i64 0)):=k6;refine af ?_;refine aH rfl (aK rfl rfl k6 hone) ?_;rintro _ g4 ⟨rfl,k7,x7,z7⟩;have k7:aC g4 g2.size 155 (bN r):=by rw[<-AE r];exact k7
     have e4:aq g2 g4:=aq.only e3 x7 (Nat.le_refl _);have eg4:=eg2.trans e4;have ho4:=cn.ah ho e4;obtain⟨gg,c4,hv4,hgb,hglt,hcell,hfz,hset⟩:=ho4.at hbx;rw[hol] at hv4;cases hv4;refine cV ?_
     iterate 2 refine aR ?_
     refine de ?_
     iterate 2 refine aZ ?_
     refine xp rfl (cK rfl rfl k rfl rfl) ?_;refine xp rfl (az rfl hcell) ?_;refine af ?_;refine fF (fun hb=>?_) (fun hb=>?_)
     · subst hb;rw[if_pos rfl] at hcon2;refine af ?_;exact ih2 (k+1,ag,out) ⟨eg4,ho4,hol,hkN,by show bO d (d.next.length-(k+1)) _ _ _=ps;rw[show d.next.length-(k+1)=m by omega];exact hcon2⟩
     · subst hb;rw[if_neg (by decide)] at hcon2;obtain⟨x,hx⟩:∃x,d.rule[k]? =some x:=⟨_,List.getElem?_eq_getElem (by omega)⟩
       have hru:d.ru k=x:=by unfold bD.ru;rw[List.getD_eq_getElem?_getD,hx];rfl
       have hrow:d.row k=r.v:=by unfold bD.row;rw[hr]
       obtain⟨oa',n',c',hv',_,_,_,hgetr⟩:=id (hslR.mv (Mv.ah eg4));cases hv';obtain⟨b2,o2,cs2,ha2,_,hrow2,rfl⟩:=hgetr k x hx;refine af ?_;refine xp rfl (az rfl ((hk.ah eg4).cell (i:=1) rfl)) ?_;refine aZ ?_;refine xp rfl (cK rfl rfl k rfl ha2) ?_;refine xp rfl (az rfl (hrow2 0 _ rfl)) ?_;refine aZ ?_;refine xp rfl (cK rfl rfl k rfl rfl) ?_;refine aH rfl (bU H.KB rfl rfl rfl hcell hfz) ?_;rintro _ g5 ⟨rfl,hg5⟩;have hset:=hset (decide (0<=x));rw[<-hg5] at hset;have x5:Ext (fun b=>b=h.size) g4 g5:=by rw[hg5];exact Ext.dK _ _ _ rfl
       have e5:aq h g5:=aq.only eg4 x5 (Nat.le_refl _);have hz2:=eg2.size;have hlt2:h.size<g2.size:=(aB.lt ho rfl).2;have k8:=k7.ext x5 (by show ¬_=_;omega);refine af ?_;refine xp rfl (bV rfl k8.row) ?_;refine af ?_;refine gJ (σ:=Nat) (fun j=>[(42,.int .i64 (j:Nat))]) (fun j h'=>aq h h'/\cn Value.bool h' h.size 4 (.slice (some ⟨h.size,0,none⟩) d.next.length d.next.length) (out.set k (decide (0<=x) ||(r.v.take j).any (fV out)))/\j<=256) (fun j=>256-j) (0) ⟨e5,by simpa using hset,Nat.zero_le _⟩ rfl ?_;rintro j g6 ⟨eg6,ho6,hj⟩ ih3;refine af ?_;refine aP (fun hlt3=>?_) (fun hlt3=>?_)
       · have hj2:j<256:=by omega
         obtain⟨t,ht⟩:∃t,r.v[j]? =some t:=⟨_,List.getElem?_eq_getElem (by rw[r.len];exact hj2)⟩
         have htr:(r.v.take (j+1)).any (fV out)=((r.v.take j).any (fV out) ||fV out t):=by rw[List.take_add_one,ht,List.any_append];simp
         have htm:=hok.to r (List.mem_of_getElem? hr) t (List.mem_of_getElem? ht);generalize hc:(decide (0<=x) ||(r.v.take j).any (fV out))=cb at ho6;have hcell6:(out.set k cb)[k]? =some cb:=by rw[List.getElem?_set_self (by rw[hol];exact hkN)]
         obtain⟨gg,c6,hv6,_,_,hcc6,hfz6,hset6⟩:=ho6.at hcell6;rw[List.length_set,hol] at hv6;cases hv6
         have fin:∀y g7,y=(decide (0<=x) ||(r.v.take (j+1)).any (fV out))->g7=dK g6 ⟨h.size,0+k*1,none⟩ (.bool y)->aq h g7/\cn Value.bool g7 h.size 4 (.slice (some ⟨h.size,0,none⟩) d.next.length d.next.length) (out.set k (decide (0<=x) ||(r.v.take (j+1)).any (fV out)))/\j+1<=256:=by
          rintro y g7 rfl rfl;have k9:=hset6 (decide (0<=x) ||(r.v.take (j+1)).any (fV out));rw[List.set_set] at k9;exact⟨aq.only eg6 (Ext.dK (M:=fun b=>b=h.size) g6 _ _ rfl) (Nat.le_refl _),k9,hj2⟩
         refine af ?_;refine xp rfl (ay.qc underlying155 H.jM H.FB rfl rfl j rfl hj2 (show (bN r).toArray[j]? =some (Value.int .i64 t) by simp[bN,ht])) ?_;refine aZ ?_;refine cV ?_;refine de ?_
         iterate 4 refine aZ ?_
         refine xp rfl (cK rfl rfl k rfl rfl) ?_;refine xp rfl (az rfl hcc6) ?_;refine af ?_;refine b9 51 (fun hg=>?_) (fun hg=>?_)
         · iterate 8 refine so ?_
           refine aZ ?_;refine xp rfl (cK rfl rfl k rfl rfl) ?_;refine aH rfl (bU H.KB rfl rfl rfl hcc6 hfz6) ?_;rintro _ g7 ⟨rfl,hg7⟩;refine af ?_;exact ih3 (j+1) (fin true g7 (by rw[htr,<-Bool.or_assoc,hc,hg];rfl) hg7)
         · refine af ?_;refine b9 54 (fun hg2=>?_) (fun hg2=>?_)
           · have hg2':=of_decide_eq_true hg2;obtain⟨t2,rfl⟩:=Int.eq_ofNat_of_zero_le hg2';obtain⟨bt,hbt⟩:∃bt,(out.set k cb)[t2]? =some bt:=⟨_,List.getElem?_eq_getElem (by rw[List.length_set,hol];omega)⟩
             obtain⟨gg,c6,hv6,_,_,hct,_,_⟩:=ho6.at hbt;rw[List.length_set,hol] at hv6;cases hv6
             have hlt2:fV out (t2:Nat)=bt:=by
              unfold fV;rw[decide_eq_true (show (0:Int)<=(t2:Nat) by omega),Bool.true_and,Int.toNat_natCast,List.getD_eq_getElem?_getD]
              by_cases e:k=t2
              · subst e;rw[hcell6] at hbt;cases hbt;rw[hbx,hg];rfl
              · rw[List.getElem?_set_ne e] at hbt;rw[hbt];rfl
             iterate 2 refine aZ ?_
             refine xp rfl (cK rfl rfl t2 rfl rfl) ?_;refine xp rfl (az rfl hct) ?_
             iterate 2 refine aZ ?_
             refine xp rfl (cK rfl rfl k rfl rfl) ?_;refine aH rfl (bU H.KB rfl rfl rfl hcc6 hfz6) ?_;rintro _ g7 ⟨rfl,hg7⟩;refine af ?_;exact ih3 (j+1) (fin bt g7 (by rw[htr,<-Bool.or_assoc,hc,hg,hlt2,Bool.false_or]) hg7)
           · have hg2':=of_decide_eq_false hg2
             iterate 4 refine so ?_
             iterate 2 refine aZ ?_
             refine xp rfl (cK rfl rfl k rfl rfl) ?_;refine aH rfl (bU H.KB rfl rfl rfl hcc6 hfz6) ?_;rintro _ g7 ⟨rfl,hg7⟩;refine af ?_;exact ih3 (j+1) (fin false g7 (by rw[htr,<-Bool.or_assoc,hc,hg];unfold fV;rw[decide_eq_false hg2'];rfl) hg7)
       · have hje:j=256:=by omega
         have hla:(decide (0<=x) ||(r.v.take j).any (fV out))=cX d out k:=by
          unfold cX;rw[hru,hrow,hje,List.take_of_length_le (by rw[r.len];exact Nat.le_refl _)]
         rw[hla] at ho6;have hcell6:(out.set k (cX d out k))[k]? =some (cX d out k):=by rw[List.getElem?_set_self (by rw[hol];exact hkN)]
         obtain⟨gg,c6,hv6,_,_,hcc6,hfz6,_⟩:=ho6.at hcell6;rw[List.length_set,hol] at hv6;cases hv6;refine aR ?_;refine dW [(4,.bool (ag ||cX d out k))] rfl ?_ ?_
         · refine af ?_;refine b9 64 (fun hg=>?_) (fun hg=>?_)
           · refine af ?_;exact aA rfl ⟨ai rfl (by rw[hg];rfl),sb rfl⟩
           · iterate 2 refine aZ ?_
             refine xp rfl (cK rfl rfl k rfl rfl) ?_;refine xp rfl (az rfl hcc6) ?_;refine af ?_;exact aA rfl ⟨ai rfl (by rw[hg];rfl),sb rfl⟩
         · refine af ?_;exact ih2 (k+1,ag ||cX d out k,out.set k (cX d out k)) ⟨eg6,ho6,by show (out.set k _).length=_;rw[List.length_set];exact hol,hkN,by show bO d (d.next.length-(k+1)) _ _ _=ps;rw[show d.next.length-(k+1)=m by omega];exact hcon2⟩
   · have hke:d.next.length-k=0:=by omega
     rw[hke,bO] at hcon2;subst hcon2;simp only at hcon hless;refine af ?_
     exact ih (n,ag,out) ⟨eg2,ho,hol,fun ht=>by
      subst ht;rw[if_pos rfl] at hcon
      rcases hless.2 rfl with k|k
      · cases k
      · exact⟨by show fY out<n;omega,hcon⟩,fun hf=>by
      subst hf;rw[if_neg (by decide)] at hcon;exact hcon⟩ (by show n+(if ag=true then 1 else 0)<n+1+(if true=true then 1 else 0);rw[if_pos rfl];split<;>omega)
 · subst hag;have hcon:=hF rfl;refine af ?_;refine bh ?_;exact⟨_,rfl,by rw[<-hcon];unfold cn at ho ⊢;rw[hol] at ho ⊢;exact ho,eg⟩
end Go.Proofs.YtdgckfkoihcmjaaGreatDoor
namespace Go.Proofs.YtdgckfkoihcmjaaGreatDoor
open Go
def jT:Nat->List (List Int)->List Int->Option Nat
 |_,[],_=>none
 |i,x::r,l=>if l=x then some i else jT (i+1) r l
theorem oM:∀(ls:List (List Int)) (i j:Nat) (l:List Int),jT i ls l=some j->i<=j/\ls[j-i]? =some l
 | [],i,j,l,h=>by cases h
 |x::r,i,j,l,h=>by
  rw[jT] at h;split at h
  · rename_i e;cases h;subst e;exact⟨Nat.le_refl _,by simp⟩
  · have:=oM r (i+1) j l h;refine⟨by omega,?_⟩;rw[show j-i=(j-(i+1))+1 by omega,List.getElem?_cons_succ];exact this.2
def bW (live:List Bool) (cls:List Int) (t:Int):Int:=if t<0\/live.getD t.toNat false=false then -2 else cls.getD t.toNat 0
def eR (d:bD) (live:List Bool) (cls:List Int) (k:Nat):List Int:=cls.getD k 0::(d.row k).map (bW live cls)
def aU (d:bD) (live:List Bool) (cls:List Int):Nat->Nat->List (List Int)->List Int->List (List Int)×List Int
 | 0,_,seen,after=>(seen,after)
 |n+1,k,seen,after =>
  match jT 0 seen (eR d live cls k) with
  |some i=>aU d live cls n (k+1) seen (after++[(i:Int)])
  |none=>aU d live cls n (k+1) (seen++[eR d live cls k]) (after++[(seen.length:Int)])
def kB (d:bD) (live:List Bool):Nat->Nat->List Int->List Int
 | 0,_,cls=>cls
 |n+1,many,cls =>
  if (aU d live cls d.next.length 0 [] []).1.length=many then (aU d live cls d.next.length 0 [] []).2
  else kB d live n (aU d live cls d.next.length 0 [] []).1.length (aU d live cls d.next.length 0 [] []).2
def dH (d:bD) (live:List Bool):List Int:=kB d live (d.next.length+1) 0 d.rule
def jF (m:Nat) (l:List Int):Prop:=∀i,i<m->(i:Int)∈l
theorem oP:∀(m:Nat) (l:List Int),jF m l->m<=l.length
 | 0,_,_=>Nat.zero_le _
 |m+1,l,h=>by
  have hm:=h m (Nat.lt_succ_self m);have h1:jF m (l.erase (m:Int)):=fun i hi=>(List.mem_erase_of_ne (by omega)).2 (h i (by omega))
  have h2:=oP m _ h1;have h3:=List.length_erase_of_mem hm;have h4:0<l.length:=List.length_pos_of_mem hm;omega
structure C7 (d:bD) (live:List Bool) (cls:List Int) (k:Nat) (seen:List (List Int)) (after:List Int):Prop where
 len:after.length=k
 size:seen.length<=k
 nums:jF seen.length after
 bound:∀x∈after,0<=x/\x<seen.length
 all:∀j,j<k->eR d live cls j∈seen
theorem lO {d:bD}{live:List Bool}{cls:List Int}:∀(n k:Nat) (seen:List (List Int)) (after:List Int),C7 d live cls k seen after->C7 d live cls (k+n) (aU d live cls n k seen after).1 (aU d live cls n k seen after).2
 | 0,k,seen,after,h=>h
 |n+1,k,seen,after,h=>by
  rw[aU,show k+(n+1)=(k+1)+n by omega];split
  · rename_i i hi;have hi':=oM seen 0 i _ hi;have hil:=(List.getElem?_eq_some_iff.1 hi'.2).1
    exact lO n (k+1) _ _ ⟨by simp[h.len],by have:=h.size;omega,fun j hj=>List.mem_append_left _ (h.nums j hj),fun x hx=>by
     rcases List.mem_append.1 hx with e|e
     · exact h.bound x e
     · have:x=(i:Int):=by simpa using e
       rw[this];omega,fun j hj=>by
     by_cases e:j=k
     · subst e;exact List.mem_of_getElem? hi'.2
     · exact h.all j (by omega)⟩
  · exact lO n (k+1) _ _ ⟨by simp[h.len],by have:=h.size;simp;omega,fun j hj=>by
     simp only[List.length_append,List.length_singleton] at hj
     by_cases e:j=seen.length
     · subst e;simp
     · exact List.mem_append_left _ (h.nums j (by omega)),fun x hx=>by
     simp only[List.length_append,List.length_singleton]
     rcases List.mem_append.1 hx with e|e
     · have:=h.bound x e;omega
     · have:x=(seen.length:Int):=by simpa using e
       omega,fun j hj=>by
     by_cases e:j=k
     · subst e;simp
     · exact List.mem_append_left _ (h.all j (by omega))⟩
theorem ey (d:bD) (live:List Bool) (cls:List Int):C7 d live cls d.next.length (aU d live cls d.next.length 0 [] []).1 (aU d live cls d.next.length 0 [] []).2:=by
 have:=lO (d:=d) (live:=live) (cls:=cls) d.next.length 0 [] [] ⟨rfl,Nat.le_refl _,fun i hi=>absurd hi (Nat.not_lt_zero _),fun x hx=>(by cases hx),fun j hj=>absurd hj (Nat.not_lt_zero _)⟩
 rwa [Nat.zero_add] at this
theorem mV {d:bD}{live:List Bool}{cls:List Int}{many:Nat}(hc:jF many cls) (hl:cls.length=d.next.length):many<=(aU d live cls d.next.length 0 [] []).1.length:=by
 have h:=ey d live cls
 have:jF many ((aU d live cls d.next.length 0 [] []).1.map fun s=>s.getD 0 0):=fun i hi=>by
  obtain⟨k,hk⟩:=List.getElem?_of_mem (hc i hi);have hkl:=(List.getElem?_eq_some_iff.1 hk).1;have:=h.all k (by omega);refine List.mem_map.2 ⟨_,this,?_⟩;simp[eR,List.getD_eq_getElem?_getD,hk]
 have:=oP _ _ this;simpa using this
end Go.Proofs.YtdgckfkoihcmjaaGreatDoor
namespace Go.Proofs.YtdgckfkoihcmjaaGreatDoor
open Go.Proofs.Tryz
open Go Go.Lw
set_option maxRecDepth 20000 set_option maxHeartbeats 4000000
section
variable {live:List Bool}{cls:List Int}
def gG:Nat->List (List Int)->List (ByteArray×Int)
 |_,[]=>[]
 |i,x::r=>(bs (gq x),(i:Int))::gG (i+1) r
theorem tH:∀(ls:List (List Int)) (i:Nat) (l:List Int),gG i (ls++[l])=gG i ls++[(bs (gq l),((i+ls.length:Nat):Int))]
 | [],i,l=>by simp[gG]
 |x::r,i,l=>by
  simp only[List.cons_append,gG];rw[tH r (i+1) l,List.length_cons,show i+1+r.length=i+(r.length+1) by omega]
theorem qF:∀(ls:List (List Int)) (i:Nat),(gG i ls).length=ls.length
 | [],_=>rfl
 |x::r,i=>by rw[gG,List.length_cons,List.length_cons,qF r (i+1)]
theorem kT:∀(ls:List (List Int)) (i:Nat) (l:List Int),kZ (bs (gq l)) (gG i ls)=(jT i ls l).map fun j=>(j:Int)
 | [],i,l=>rfl
 |x::r,i,l=>by
  rw[gG,kZ,jT]
  by_cases h:l=x
  · subst h;rw[if_pos rfl,if_pos rfl];rfl
  · have hk:¬bs (gq l)=bs (gq x):=fun e=>h (key_inj (aI e))
    rw[if_neg hk,if_neg h];exact kT r (i+1) l
theorem vg {t:Int}(h:t<0\/live.getD t.toNat false=false):bW live cls t= -2:=if_pos h
theorem CZ {t:Int}(h:¬(t<0\/live.getD t.toNat false=false)):bW live cls t=cls.getD t.toNat 0:=if_neg h
theorem rP (hcb:∀x∈cls,-1<=x/\x<=1000000) (k:Nat) : -1<=cls.getD k 0/\cls.getD k 0<=1000000:=by
 rw[List.getD_eq_getElem?_getD];cases hk:cls[k]? with
 |none=>simp
 |some x=>exact hcb x (List.mem_of_getElem? hk)
theorem yh {d:bD}(hcb:∀x∈cls,-1<=x/\x<=1000000) (k:Nat):∀x∈eR d live cls k,-9223372036854775808<=x/\x<=9223372036854775807:=by
 intro x hx
 rcases List.mem_cons.1 hx with e|e
 · have:=rP hcb k;omega
 · obtain⟨t,_,rfl⟩:=List.mem_map.1 e;unfold bW;split
   · omega
   · have:=rP hcb t.toNat;omega
theorem uM:∀(ls:List (List Int)) (i:Nat) (l:List Int),jT i ls l=none->jT i (ls++[l]) l=some (i+ls.length)
 | [],i,l,_=>by simp[jT]
 |x::r,i,l,h=>by
  rw[jT] at h;split at h
  · cases h
  · rename_i hn;rw[List.cons_append,jT,if_neg hn,uM r (i+1) l h,List.length_cons]
    congr 1;omega
theorem wo {h:aj}{db:Nat}{d:bD}{lv:Value}(htens:qX h) (k:ou h db d) (hok:d.Ok) (hlv:aY .bool h (fun _=>False) lv live) (hll:live.length=d.next.length) :
 av Tryz.prog 65 #[.pointer (some ⟨db,0,none⟩),lv] h (bq fun r h'=>cn (Value.int .i64) h' h.size 3 r (dH d live)/\aq h h'):=by
 obtain⟨vn,vr,hk,⟨na,nn,nc,rfl,hnl,hnc,hnm,hgetn⟩,⟨ra,rn,rc,rfl,hrl,hrc,hrm,hgetr⟩⟩:=k;obtain⟨va,vm,vc,rfl,hvl,hvc,hvm,hgetv⟩:=hlv;have hlen:=hok.len;have hsize:=hok.size;have hslN:aY DF h (fun _=>False) (.slice na nn nc) d.next:=⟨_,_,_,rfl,hnl,hnc,hnm,hgetn⟩
 have hslR:aY (.int .i64) h (fun _=>False) (.slice ra rn rc) d.rule:=⟨_,_,_,rfl,hrl,hrc,hrm,hgetr⟩
 have hslV:aY .bool h (fun _=>False) (.slice va vm vc) live:=⟨_,_,_,rfl,hvl,hvc,hvm,hgetv⟩
 subst hnl;generalize htgt:dH d live=tgt;refine bP ?_;refine af ?_;refine xp rfl (az rfl (hk.cell (i:=0) rfl)) ?_;refine af ?_;refine xo rfl (aT.pR underlying129 H.Mw H.OK rfl rfl rfl (by omega) (by decide)) ?_;rintro _ h1 ⟨rfl,k1,e1⟩;have k1:cn (Value.int .i64) h1 h.size 3 (.slice (some ⟨h.size,0,none⟩) d.next.length d.next.length) (List.replicate d.next.length 0):=by unfold cn;simpa using k1
 refine af ?_;refine gJ (σ:=Nat) (fun i=>[(26,.int .i64 (i:Nat))]) (fun i h'=>aq h h'/\cn (Value.int .i64) h' h.size 3 (.slice (some ⟨h.size,0,none⟩) d.next.length d.next.length) (d.rule.take i++List.replicate (d.next.length-i) 0)/\i<=d.next.length) (fun i=>d.next.length-i) (0) ⟨e1,by simpa using k1,Nat.zero_le _⟩ rfl ?_;rintro i g ⟨eg,ho,hi⟩ ih;refine af ?_;refine aP (fun hlt=>?_) (fun hlt=>?_)
 · have hiN:i<d.next.length:=by omega
   obtain⟨x,hx⟩:∃x,d.rule[i]? =some x:=⟨_,List.getElem?_eq_getElem (by omega)⟩
   have hxe:d.rule[i]'(by omega)=x:=(List.getElem?_eq_some_iff.1 hx).2;obtain⟨oa',n',c',hv',_,_,_,hgetr⟩:=id (hslR.mv (Mv.ah eg));cases hv';obtain⟨b2,o2,cs2,ha2,_,hrow2,rfl⟩:=hgetr i x hx;obtain⟨gg,c4,hv4,hgb,hglt,hcell,hfz,hset⟩:=ho.at (Hp (z:=(0:Int)) hlen hiN);rw[Ho hlen hi] at hv4;cases hv4;refine af ?_;refine xp rfl (az rfl ((hk.ah eg).cell (i:=1) rfl)) ?_;refine aZ ?_;refine xp rfl (cK rfl rfl i rfl ha2) ?_;refine xp rfl (az rfl (hrow2 0 _ rfl)) ?_;refine xp rfl (cK rfl rfl i rfl rfl) ?_;refine aH rfl (bU H.jM rfl rfl rfl hcell hfz) ?_;rintro _ g2 ⟨rfl,hg2⟩;have hset:=hset x;rw[<-hg2,<-hxe,Hl hlen hiN] at hset;have x2:Ext (fun b=>b=h.size) g g2:=by rw[hg2];exact Ext.dK _ _ _ rfl
   have e2:aq h g2:=aq.only eg x2 (Nat.le_refl _);refine af ?_;exact ih (i+1) ⟨e2,hset,hiN⟩
 · obtain rfl:i=d.next.length:=by omega
   rw[Nat.sub_self,List.replicate_zero,List.append_nil,List.take_of_length_le (by omega)] at ho;refine af ?_;refine gJ (σ:=Nat×Nat×Value×List Int) (fun q=>[(5,q.2.2.1),(7,.int .i64 (q.2.1:Nat))]) (fun q h'=>aq h h'/\cn (Value.int .i64) h' h.size 3 q.2.2.1 q.2.2.2/\q.2.2.2.length=d.next.length/\(∀x∈q.2.2.2,-1<=x/\x<=1000000)/\(q.2.1<=d.next.length/\jF q.2.1 q.2.2.2/\d.next.length+1<=q.1+q.2.1)/\kB d live q.1 q.2.1 q.2.2.2=tgt) (fun q=>q.1) ((d.next.length+1,0,.slice (some ⟨h.size,0,none⟩) d.next.length d.next.length,d.rule)) ⟨eg,ho,hlen,hok.ru,⟨Nat.zero_le _,fun i hi=>absurd hi (Nat.not_lt_zero _),by simp⟩,htgt⟩ rfl ?_;rintro⟨n,many,vcl,cls⟩ g ⟨eg,ho,hcl,hcb,⟨hmN,hcov,hfuel⟩,hcon⟩ ih
   try dsimp only
   dsimp only at ho hcl hcb hmN hcov hfuel hcon;obtain⟨n,rfl⟩:∃m,n=m+1:=⟨n-1,by omega⟩
   rw[kB] at hcon;have hmore:=mV (d:=d) (live:=live) hcov hcl;have hend:=ey d live cls;generalize hps:aU d live cls d.next.length 0 [] []=ps at hcon hmore hend
   obtain⟨la,lc,rfl,_⟩:=(show aB g h.size 3 1 vcl cls.length (cls.map (Value.int .i64)) from ho).open;rw[hcl] at ho;have hown:∀b,(Value.slice la d.next.length lc).ownBlock=some b->b<g.size:=fun b hb=>(aB.lt ho hb).2
   rw[hcl];refine af ?_;refine xo rfl (nj (ek:=Value.string) (ev:=Value.int .i64)) ?_;rintro _ g1 ⟨rfl,hm1,e1',z1⟩;refine af ?_;refine xo rfl (aT.pR underlying129 H.Mw H.OK rfl rfl rfl (by omega) (by decide)) ?_;rintro _ g2 ⟨rfl,k2,e2⟩;have k2:cn (Value.int .i64) g2 g1.size 3 (.slice (some ⟨g1.size,0,none⟩) d.next.length d.next.length) (List.replicate d.next.length 0):=by unfold cn;simpa using k2
   have hm2:=hm1.ext e2 (fun k=>k);have e12:=e1'.trans e2;refine af ?_;refine xp rfl (az rfl ((hk.ah (eg.trans e12)).cell (i:=0) rfl)) ?_;refine af ?_;refine gJ (σ:=Nat×List (List Int)×List Int) (fun q=>[(49,.int .i64 (q.1:Nat))]) (fun q h'=>aq g h'/\fu Value.string (Value.int .i64) h' g.size (gG 0 q.2.1)/\cn (Value.int .i64) h' g1.size 3 (.slice (some ⟨g1.size,0,none⟩) d.next.length d.next.length) (q.2.2++List.replicate (d.next.length-q.1) 0)/\(q.1<=d.next.length/\q.2.2.length=q.1/\q.2.1.length<=q.1)/\aU d live cls (d.next.length-q.1) q.1 q.2.1 q.2.2=ps) (fun q=>d.next.length-q.1) ((0,[],[])) ⟨e12,hm2,k2,⟨Nat.zero_le _,rfl,Nat.le_refl _⟩,hps⟩ rfl ?_;rintro⟨k,seen,after⟩ g3 ⟨e3,hmp,haf,⟨hkN,hal,hsl⟩,hcon2⟩ ih2
   try dsimp only
   dsimp only at hmp haf hkN hal hsl hcon2;have eg3:=eg.trans e3;have ho3:=cn.ah ho e3;refine af ?_;refine aP (fun hlt=>?_) (fun hlt=>?_)
   · have hkN:k<d.next.length:=by omega
     obtain⟨m,hm⟩:∃m,d.next.length-k=m+1:=⟨d.next.length-k-1,by omega⟩
     rw[hm,aU] at hcon2;obtain⟨r,hr⟩:∃r,d.next[k]? =some r:=⟨_,List.getElem?_eq_getElem hkN⟩
     obtain⟨oa',n',c',hv',_,_,_,hgetn⟩:=id (hslN.mv (Mv.ah eg3));cases hv';obtain⟨b1,o1,cs1,ha1,_,hrow1,rfl⟩:=hgetn k r hr;have hone:∀u∈bN r,u.oneCell'=true:=fun u hu=>by simp[bN] at hu;obtain⟨_,_,rfl⟩:=hu;rfl
     have hrow:d.row k=r.v:=by unfold bD.row;rw[hr]
     iterate 4 refine aR ?_
     refine de ?_;refine aZ ?_;refine xp rfl (cK rfl rfl k rfl ha1) ?_;refine xp rfl (bV rfl hrow1) ?_;refine xo rfl (cm) ?_;rintro _ g4 ⟨rfl,k4,e4,z4⟩;have k4:aC g4 g3.size 155 (List.replicate 256 (Value.int .i64 0)):=k4;refine af ?_;refine aH rfl (aK rfl rfl k4 hone) ?_;rintro _ g5 ⟨rfl,k5,x5,z5⟩;have k5:aC g5 g3.size 155 (bN r):=by rw[<-AE r];exact k5
     have e5:aq g3 g5:=aq.only e4 x5 (Nat.le_refl _);have ho5:=cn.ah ho3 e5;obtain⟨c,hc⟩:∃c,cls[k]? =some c:=⟨_,List.getElem?_eq_getElem (by omega)⟩
     have hgd:cls.getD k 0=c:=by rw[List.getD_eq_getElem?_getD,hc];rfl
     obtain⟨gg,c4,hv4,hgb,hglt,hcell,hfz,hset⟩:=ho5.at hc;rw[hcl] at hv4;have hla:la=some ⟨gg,0,none⟩:=by cases hv4;rfl
     refine cV ?_;refine aR ?_;refine de ?_
     iterate 2 refine aZ ?_
     refine xp rfl (cK rfl rfl k rfl hla) ?_;refine xp rfl (az rfl hcell) ?_;have e56:aq g5 (g5.push (.cells #[.int .i64 c] 3)):=Ext.push _ _ _;have hl6:cn (Value.int .i64) (g5.push (.cells #[.int .i64 c] 3)) g5.size 3 (.slice (some ⟨g5.size,0,none⟩) 1 1) [c]:=kW (Value.int .i64) g5 3 [c] 1 rfl (by decide) g5.size (Nat.le_refl _) rfl;refine xo rfl (jG [_]) ?_;rintro _ _ ⟨rfl,rfl⟩;refine af ?_;generalize g5.push (.cells #[.int .i64 c] 3)=g6 at *;have k6:=k5.ah e56;have e36:aq g3 g6:=e5.trans e56;have ho6:=cn.ah ho5 e56;have hz5:=e5.size;refine xp rfl (bV rfl k6.row) ?_;refine af ?_;refine gJ (σ:=Nat×Value) (fun q=>[(12,q.2),(60,.int .i64 (q.1:Nat))]) (fun q h'=>aq g3 h'/\cn (Value.int .i64) h' g5.size 3 q.2 (c::(r.v.take q.1).map (bW live cls))/\q.1<=256/\g5.size<=h'.size) (fun q=>256-q.1) ((0,.slice (some ⟨g5.size,0,none⟩) 1 1)) ⟨e36,hl6,Nat.zero_le _,e56.size⟩ rfl ?_;rintro⟨j,vl⟩ g7 ⟨e7,hl7,hj,hz7⟩ ih3
     try dsimp only
     dsimp only at hl7 hj;have eg7:=eg3.trans e7;have ho7:=cn.ah ho3 e7;have hlen7:(c::(r.v.take j).map (bW live cls)).length=j+1:=by simp[r.len];omega
     refine af ?_;refine aP (fun hlt3=>?_) (fun hlt3=>?_)
     · have hj2:j<256:=by omega
       obtain⟨t,ht⟩:∃t,r.v[j]? =some t:=⟨_,List.getElem?_eq_getElem (by rw[r.len];exact hj2)⟩
       have htm:=hok.to r (List.mem_of_getElem? hr) t (List.mem_of_getElem? ht);have htr:c::(r.v.take (j+1)).map (bW live cls)=(c::(r.v.take j).map (bW live cls))++[bW live cls t]:=by rw[List.take_add_one,ht];simp
       have hlo:aB g7 g5.size 3 1 vl (c::(r.v.take j).map (bW live cls)).length ((c::(r.v.take j).map (bW live cls)).map (Value.int .i64)):=hl7;have hlo2:=hlo;rw[hlen7] at hlo2;obtain⟨wa,wc,rfl,_⟩:=hlo2.open;have hl8:cn (Value.int .i64) g7 g5.size 3 (.slice wa (j+1) wc) (c::(r.v.take j).map (bW live cls)):=hl7
       have fin:∀v8 g8 x,aB g8 g5.size 3 1 v8 (j+1+1) ((c::(r.v.take j).map (bW live cls)).map (Value.int .i64)++[.int .i64 x])->Ext (cu (Value.slice wa (j+1) wc).ownBlock) g7 g8->x=bW live cls t->aq g3 g8/\cn (Value.int .i64) g8 g5.size 3 v8 (c::(r.v.take (j+1)).map (bW live cls))/\j+1<=256/\g5.size<=g8.size:=by
        rintro v8 g8 x ho hx rfl;refine⟨cn.grown e7 hl8 hz5 hx,?_,hj2,Nat.le_trans hz7 hx.size⟩;rw[htr];exact cn.of ho hlen7.symm rfl rfl
       refine af ?_;refine xp rfl (ay.qc underlying155 H.jM H.FB rfl rfl j rfl hj2 (show (bN r).toArray[j]? =some (Value.int .i64 t) by simp[bN,ht])) ?_;refine aZ ?_;refine cV ?_;refine aR ?_;refine de ?_
       iterate 3 refine aZ ?_
       refine b9 65 (fun hg=>?_) (fun hg=>?_)
       · have hg':=of_decide_eq_true hg;refine af ?_;refine eu rfl (by simp) ?_;refine af ?_;refine xo rfl (jG [_]) ?_;rintro _ _ ⟨rfl,rfl⟩;refine xo rfl (wC rfl rfl hlo2 rfl rfl) ?_;rintro v8 g8 ⟨ho8,hx8,hx8',hv8⟩;have ff:=fin v8 g8 (-2) ho8 hx8 (vg (.inl hg')).symm;obtain⟨v8a,v8c,rfl,_⟩:=ho8.open;refine af ?_;exact ih3 (j+1,_) ff
       · have hg':=of_decide_eq_false hg;obtain⟨t2,rfl⟩:=Int.eq_ofNat_of_zero_le (show 0<=t by omega);obtain⟨bt,hbt⟩:∃bt,live[t2]? =some bt:=⟨_,List.getElem?_eq_getElem (by omega)⟩
         have hlt2:live.getD t2 false=bt:=by rw[List.getD_eq_getElem?_getD,hbt];rfl
         obtain⟨oa',n',c',hv',_,_,_,hgetv⟩:=id (hslV.mv (Mv.ah eg7));cases hv';obtain⟨b3,o3,cs3,ha3,_,hrow3,rfl⟩:=hgetv t2 bt hbt
         iterate 2 refine aZ ?_
         refine xp rfl (cK rfl rfl t2 rfl ha3) ?_;refine xp rfl (az rfl (hrow3 0 _ rfl)) ?_;refine af ?_;refine fF (fun hb=>?_) (fun hb=>?_)
         · have hb':bt=false:=by simpa using hb
           refine af ?_;refine xo rfl (jG [_]) ?_;rintro _ _ ⟨rfl,rfl⟩;refine xo rfl (wC rfl rfl hlo2 rfl rfl) ?_;rintro v8 g8 ⟨ho8,hx8,hx8',hv8⟩;have ff:=fin v8 g8 (-2) ho8 hx8 (vg (.inr (by show live.getD t2 false=false;rw[hlt2,hb']))).symm;obtain⟨v8a,v8c,rfl,_⟩:=ho8.open;refine af ?_;exact ih3 (j+1,_) ff
         · have hb':bt=true:=by simpa using hb
           obtain⟨c2,hc2⟩:∃c2,cls[t2]? =some c2:=⟨_,List.getElem?_eq_getElem (by omega)⟩
           have hgd2:cls.getD t2 0=c2:=by rw[List.getD_eq_getElem?_getD,hc2];rfl
           obtain⟨gg2,c42,hv42,hgb2,hglt2,hcell2,hfz2,hset2⟩:=ho7.at hc2;rw[hcl] at hv42;have hla2:la=some ⟨gg2,0,none⟩:=by cases hv42;rfl
           refine de ?_
           iterate 3 refine aZ ?_
           refine xp rfl (cK rfl rfl t2 rfl hla2) ?_;refine xp rfl (az rfl hcell2) ?_;refine xo rfl (jG [_]) ?_;rintro _ _ ⟨rfl,rfl⟩;refine xo rfl (wC rfl rfl hlo2 rfl rfl) ?_;rintro v8 g8 ⟨ho8,hx8,hx8',hv8⟩
           have ff:=fin v8 g8 c2 ho8 hx8 (by
            rw[CZ (by
             rintro(e|e)
             · exact hg' e
             · rw[Int.toNat_natCast,hlt2,hb'] at e;cases e),Int.toNat_natCast,hgd2])
           obtain⟨v8a,v8c,rfl,_⟩:=ho8.open;refine af ?_;exact ih3 (j+1,_) ff
     · obtain rfl:j=256:=by omega
       have hkey:c::(r.v.take 256).map (bW live cls)=eR d live cls k:=by unfold eR;rw[hgd,hrow,List.take_of_length_le (by rw[r.len];exact Nat.le_refl _)]
       have hkb:=yh (d:=d) (live:=live) hcb k;have hkl:(eR d live cls k).length<=1000000:=by rw[<-hkey,hlen7];decide
       rw[hkey] at hl7;generalize hkk:eR d live cls k=key at *;refine af ?_;refine xo rfl (aF rfl (qL (O:=fun _=>False) (htens.ah eg7) (cn.read (h1:=fun _=>rfl) hl7 (fun _ _ k=>k)) hkl hkb)) ?_;rintro _ g8 ⟨rfl,e8⟩;have e38:aq g3 g8:=e7.trans e8;have eg8:aq g g8:=e3.trans e38;have mp8:=hmp.ext e38 (fun k=>k);have haf8:=cn.ah haf e38
       have hk0:(after++List.replicate (d.next.length-k) (0:Int))[k]? =some 0:=by
        rw[List.getElem?_append_right (by omega),List.getElem?_replicate,if_pos (by omega)]
       have hl0:(after++List.replicate (d.next.length-k) (0:Int)).length=d.next.length:=by simp;omega
       have hsetA:∀y:Int,(after++List.replicate (d.next.length-k) (0:Int)).set k y=(after++[y])++List.replicate (d.next.length-(k+1)) 0:=fun y=>by
        rw[List.set_append_right _ _ (by omega),hal,Nat.sub_self,show d.next.length-k=(d.next.length-(k+1))+1 by omega,List.replicate_succ,List.set_cons_zero];simp
       have hz12:=e1'.size
       have fin2:∀(gA gB:aj) (seen':List (List Int)) (y:Int),aq g gA->fu Value.string (Value.int .i64) gA g.size (gG 0 seen')->cn (Value.int .i64) gB g1.size 3 (.slice (some ⟨g1.size,0,none⟩) d.next.length d.next.length) ((after++List.replicate (d.next.length-k) (0:Int)).set k y)->gB=dK gA ⟨g1.size,0+k*1,none⟩ (.int .i64 y)->aU d live cls m (k+1) seen' (after++[y])=ps->seen'.length<=k+1->aq g gB/\fu Value.string (Value.int .i64) gB g.size (gG 0 seen')/\cn (Value.int .i64) gB g1.size 3 (.slice (some ⟨g1.size,0,none⟩) d.next.length d.next.length) ((after++[y])++List.replicate (d.next.length-(k+1)) 0)/\(k+1<=d.next.length/\(after++[y]).length=k+1/\seen'.length<=k+1)/\aU d live cls (d.next.length-(k+1)) (k+1) seen' (after++[y])=ps:=by
        rintro gA gB seen' y eA mA hB hgB hcp hsl';have xB:Ext (fun b=>b=g1.size) gA gB:=by rw[hgB];exact Ext.dK _ _ _ rfl
        refine⟨aq.only eA xB hz12,mA.ext xB (by show ¬_=_;omega),?_,⟨hkN,by simp[hal],hsl'⟩,?_⟩
        · rw[<-hsetA];exact hB
        · rw[show d.next.length-(k+1)=m by omega];exact hcp
       refine af ?_;refine xp rfl (ay.ud (z:=.int .i64 0) jD underlying153 underlying9 (by kernel_rfl) rfl rfl rfl mp8) ?_;rw[kT]
       rcases hfind:jT 0 seen key with _|i0
       · rw[hfind] at hcon2;simp only at hcon2;have hnone:kZ (bs (gq key)) (gG 0 seen)=none:=by rw[kT,hfind];rfl
         refine af ?_;refine eu rfl (by simp) ?_;refine af ?_;refine xp rfl (ay.CF underlying153 rfl (mp8)) ?_;refine aH rfl (aT.mapUpdate (v:=((gG 0 seen).length:Int)) jD underlying153 underlying9 rfl rfl rfl rfl rfl mp8 hnone) ?_;rintro _ g9 ⟨rfl,mp9,x9,z9⟩;have mp9:fu Value.string (Value.int .i64) g9 g.size (gG 0 (seen++[key])):=by rw[tH,Nat.zero_add,<-qF seen 0];exact mp9
         have hsz8:=eg8.size;have e9:aq g g9:=aq.only eg8 x9 (Nat.le_refl _);have haf9:cn (Value.int .i64) g9 g1.size 3 (.slice (some ⟨g1.size,0,none⟩) d.next.length d.next.length) (after++List.replicate (d.next.length-k) (0:Int)):=aB.ext x9 haf8 (fun b hb (e:b=g.size)=>by have:=(aB.lt haf8 hb).1;omega);obtain⟨gg3,c3,hv3,_,_,hcell3,hfz3,hset3⟩:=haf9.at hk0;rw[hl0] at hv3;cases hv3;have hasc:kZ (bs (gq key)) (gG 0 (seen++[key]))=some ((seen.length:Nat):Int):=by rw[kT,uM seen 0 key hfind,Nat.zero_add];rfl
         refine af ?_;refine xp rfl (ay.lookup (z:=.int .i64 0) jD underlying153 underlying9 (by kernel_rfl) rfl rfl rfl mp9) ?_;rw[hasc,Option.map_some,Option.getD_some];refine xp rfl (cK rfl rfl k rfl rfl) ?_;refine aH rfl (bU H.jM rfl rfl rfl hcell3 hfz3) ?_;rintro _ g10 ⟨rfl,hg10⟩;have hg10:g10=dK g9 ⟨g1.size,0+k*1,none⟩ (.int .i64 ((seen.length:Nat):Int)):=hg10;have hB:=hset3 ((seen.length:Nat):Int);rw[<-hg10] at hB;refine af ?_;exact ih2 (k+1,seen++[key],after++[((seen.length:Nat):Int)]) (fin2 g9 g10 _ _ e9 mp9 hB hg10 hcon2 (by simp;omega))
       · rw[hfind] at hcon2;simp only at hcon2;refine af ?_;refine eC rfl (by simp) ?_;obtain⟨gg3,c3,hv3,_,_,hcell3,hfz3,hset3⟩:=haf8.at hk0;rw[hl0] at hv3;cases hv3;have hasc:kZ (bs (gq key)) (gG 0 seen)=some ((i0:Nat):Int):=by rw[kT,hfind];rfl
         refine af ?_;refine xp rfl (ay.lookup (z:=.int .i64 0) jD underlying153 underlying9 (by kernel_rfl) rfl rfl rfl mp8) ?_;rw[hasc,Option.map_some,Option.getD_some];refine xp rfl (cK rfl rfl k rfl rfl) ?_;refine aH rfl (bU H.jM rfl rfl rfl hcell3 hfz3) ?_;rintro _ g10 ⟨rfl,hg10⟩;have hg10:g10=dK g8 ⟨g1.size,0+k*1,none⟩ (.int .i64 ((i0:Nat):Int)):=hg10;have hB:=hset3 ((i0:Nat):Int);rw[<-hg10] at hB;refine af ?_;exact ih2 (k+1,seen,after++[((i0:Nat):Int)]) (fin2 g8 g10 _ _ eg8 mp8 hB hg10 hcon2 (Nat.le_succ_of_le hsl))
   · obtain rfl:k=d.next.length:=by omega
     rw[Nat.sub_self,List.replicate_zero,List.append_nil] at haf;rw[Nat.sub_self,aU] at hcon2;subst hcon2;dsimp only at hcon hmore hend;have hm:=hend.size;have hsl':(gG 0 seen).length=seen.length:=qF seen 0
     have ha':cn (Value.int .i64) g3 h.size 3 (.slice (some ⟨g1.size,0,none⟩) d.next.length d.next.length) after:=C9 (show aB g3 g1.size 3 1 _ after.length (after.map (Value.int .i64)) from haf) (fun b hb=>by
      cases hb;have:=eg.size;have:=e1'.size
      show h.size<=g1.size
      omega)
     refine af ?_;refine xp rfl (ay.CF underlying153 rfl (hmp)) ?_;rw[hsl'];refine af ?_;refine aP (fun heq=>?_) (fun heq=>?_)
     · rw[if_pos (by omega)] at hcon;refine af ?_;refine bh ?_;exact⟨_,rfl,by rw[<-hcon];exact ha',eg3⟩
     · rw[if_neg (by omega)] at hcon;refine af ?_;refine xp rfl (ay.CF underlying153 rfl (hmp)) ?_;rw[hsl'];refine af ?_;exact ih (n,seen.length,_,after) ⟨eg3,ha',hal,fun x hx=>by have:=hend.bound x hx;omega,⟨by show seen.length<=_;omega,hend.nums,by show _<=n+seen.length;omega⟩,hcon⟩
end
end Go.Proofs.YtdgckfkoihcmjaaGreatDoor
namespace Go.Proofs.YtdgckfkoihcmjaaGreatDoor
open Go
section
variable {of:List Nat}
def og (cls:List Int):Nat->List Nat->Int->Option Nat
 |_,[],_=>none
 |i,x::r,c=>if c=cls.getD x 0 then some i else og cls (i+1) r c
theorem uO {cls:List Int}:∀(of:List Nat) (i j:Nat) (c:Int),og cls i of c=some j->i<=j/\∃x,of[j-i]? =some x/\c=cls.getD x 0
 | [],i,j,c,h=>by cases h
 |x::r,i,j,c,h=>by
  rw[og] at h;split at h
  · rename_i e;cases h;exact⟨Nat.le_refl _,x,by simp,e⟩
  · obtain⟨h1,y,h2,h3⟩:=uO r (i+1) j c h;refine⟨by omega,y,?_,h3⟩;rw[show j-i=(j-(i+1))+1 by omega,List.getElem?_cons_succ];exact h2
theorem oN {cls:List Int}:∀(of:List Nat) (i:Nat) (c:Int),og cls i of c=none->∀x∈of,c≠cls.getD x 0
 | [],i,c,h,x,hx=>by cases hx
 |y::r,i,c,h,x,hx=>by
  rw[og] at h;split at h
  · cases h
  · rename_i hn
    rcases List.mem_cons.1 hx with e|e
    · subst e;exact hn
    · exact oN r (i+1) c h x e
def cF (live:List Bool) (cls:List Int) (of:List Nat) (t:Int):List Nat×Int :=
 if t<0\/live.getD t.toNat false=false then (of,-1) else
  match og cls 0 of (cls.getD t.toNat 0) with
  |some i=>(of,(i:Int))
  |none=>(of++[t.toNat],(of.length:Int))
def fD (live:List Bool) (cls:List Int):List Int->List Nat->List Int->List Nat×List Int
 | [],of,row=>(of,row)
 |t::r,of,row=>fD live cls r (cF live cls of t).1 (row++[(cF live cls of t).2])
def AR (d:bD) (live:List Bool) (cls:List Int):Nat->Nat->List Nat->List Row->List Int->bD
 | 0,_,_,next,rule=>⟨next,rule⟩
 |n+1,i,of,next,rule =>
  match of[i]? with
  |none=>⟨next,rule⟩
  |some k=>AR d live cls n (i+1) (fD live cls (d.row k) of []).1 (next++[jO (fD live cls (d.row k) of []).2]) (rule++[d.ru k])
def lE (d:bD):bD:=if d.next.length=0 then ⟨[],[]⟩ else AR d (bf d) (dH d (bf d)) (d.next.length+1) 0 [0] [] []
structure BQ (n:Nat) (of:List Nat):Prop where
 once:of.Nodup
 lt:∀x∈of,x<n
theorem AG:∀(n:Nat) (l:List Nat),l.Nodup->(∀x∈l,x<n)->l.length<=n
 | 0,[],_,_=>Nat.le_refl _
 | 0,x::l,_,h=>absurd (h x (by simp)) (Nat.not_lt_zero _)
 |n+1,l,hl,h=>by
  have h1:=AG n (l.erase n) (hl.erase n) (fun x hx=>by
   have:=(hl.mem_erase_iff).1 hx;have:=h x this.2;omega)
  by_cases hn:n∈l
  · have:=List.length_erase_of_mem hn;omega
  · rw[List.erase_of_not_mem hn] at h1;omega
theorem BQ.len {n:Nat}(k:BQ n of):of.length<=n:=AG n of k.once k.lt
theorem tW {live:List Bool}{cls:List Int}{n:Nat}{t:Int}(k:BQ n of) (ht:t<n):BQ n (cF live cls of t).1:=by
 unfold cF;split
 · exact k
 · rename_i hn;split
   · exact k
   · rename_i hf;have hne:=oN of 0 _ hf;refine⟨List.nodup_append.2 ⟨k.once,by simp,fun a ha b hb e=>?_⟩,fun x hx=>?_⟩
     · have:b=t.toNat:=by simpa using hb
       subst e;subst this;exact hne _ ha rfl
     · rcases List.mem_append.1 hx with e|e
       · exact k.lt x e
       · have:x=t.toNat:=by simpa using e
         omega
theorem Cz {live:List Bool}{cls:List Int}{t:Int}:of.length<=(cF live cls of t).1.length/\∀(i x:Nat),of[i]? =some x->(cF live cls of t).1[i]? =some x:=by
 unfold cF;split
 · exact⟨Nat.le_refl _,fun _ _ h=>h⟩
 · split
   · exact⟨Nat.le_refl _,fun _ _ h=>h⟩
   · exact⟨by simp,fun i x h=>by rw[List.getElem?_append_left (List.getElem?_eq_some_iff.1 h).1];exact h⟩
end
end Go.Proofs.YtdgckfkoihcmjaaGreatDoor
namespace Go.Proofs.YtdgckfkoihcmjaaGreatDoor
open Go Go.Lw
set_option maxRecDepth 20000
section
variable {v3:Value}{n:Nat}
def kI (cls:List Int):Nat->List Nat->List (Int×Int)
  |_,[]=>[]
  |i,x::r=>(cls.getD x 0,(i:Int))::kI cls (i+1) r
theorem tI (cls:List Int):∀(ls:List Nat) (i:Nat) (l:Nat),kI cls i (ls++[l])=kI cls i ls++[(cls.getD l 0,((i+ls.length:Nat):Int))]
  | [],i,l=>by simp[kI]
  |x::r,i,l=>by
    simp only[List.cons_append,kI];rw[tI cls r (i+1) l,List.length_cons,show i+1+r.length=i+(r.length+1) by omega]
theorem qU (cls:List Int):∀(ls:List Nat) (i:Nat) (c:Int),kZ c (kI cls i ls)=(og cls i ls c).map fun j=>(j:Int)
  | [],i,c=>rfl
  |x::r,i,c=>by
    rw[kI,kZ,og]
    by_cases h:c=cls.getD x 0
    · rw[if_pos h,if_pos h];rfl
    · rw[if_neg h,if_neg h];exact qU cls r (i+1) c
structure dU (h0 h:aj) (cls:List Int) (db mb:Nat) (vo vn vr:Value) (of:List Nat) (next:List Row) (rule:List Int):Prop where
  ext:aq h0 h
  dblk:aC h db 151 [vn,vr]
  nx:lf 256 bN h h0.size 155 vn next
  ru:cn (Value.int .i64) h h0.size 3 vr rule
  ol:cn dP h h0.size 3 vo of
  mp:fu (Value.int .i64) (Value.int .i64) h mb (kI cls 0 of)
  ne:∀b,vo.ownBlock=some b->vr.ownBlock≠some b
  dge:h0.size<=db
  mge:h0.size<=mb
section
variable {h0 h:aj}{cls:List Int}{db mb:Nat}{vo vn vr:Value}{of:List Nat}{next:List Row}{rule:List Int}
theorem dU.ED (k:dU h0 h cls db mb vo vn vr of next rule):∀b,vn.ownBlock=some b->cP h b 155:=fun _ hb=>aB.ty k.nx hb
theorem dU.Dq (k:dU h0 h cls db mb vo vn vr of next rule):∀b,vr.ownBlock=some b->cP h b 3:=fun _ hb=>aB.ty k.ru hb
theorem dU.Mc (k:dU h0 h cls db mb vo vn vr of next rule):∀b,vo.ownBlock=some b->cP h b 3:=fun _ hb=>aB.ty k.ol hb
theorem dU.ah {h':aj}(k:dU h0 h cls db mb vo vn vr of next rule) (e:aq h h'):dU h0 h' cls db mb vo vn vr of next rule :=
  ⟨k.ext.trans e,k.dblk.ah e,lf.ah k.nx e,cn.ah k.ru e,cn.ah k.ol e,k.mp.ext e (fun k=>k),k.ne,k.dge,k.mge⟩
theorem dU.put {h':aj}{x:Nat}(k:dU h0 h cls db mb vo vn vr of next rule) (e:Ext (fun b=>b=x) h h') (hx:cP h x 155) (hn:vn.ownBlock≠some x) (hge:h0.size<=x):dU h0 h' cls db mb vo vn vr of next rule:=by
  have hd:¬db=x:=k.dblk.ty.ne hx (by decide);have hm:¬mb=x:=k.mp.ne hx;exact⟨aq.only k.ext e hge,k.dblk.ext e hd,aB.ext e k.nx (fun b hb hbx=>hn (by subst hbx;exact hb)),aB.ext e k.ru (fun b hb=>(k.Dq b hb).ne hx (by decide)),aB.ext e k.ol (fun b hb=>(k.Mc b hb).ne hx (by decide)),k.mp.ext e hm,k.ne,k.dge,k.mge⟩
theorem dU.KE {g3 g4:aj}{r:Row}(k:dU h0 h cls db mb vo vn vr of next rule) (hn:n=next.length) (ho:aB g3 h0.size 155 256 v3 (n+1) (next.flatMap bN++bN r)) (hx:Ext (cu vn.ownBlock) h g3) (hd:aC g4 db 151 [v3,vr]) (x4:Ext (fun b=>b=db) g3 g4) :
    dU h0 g4 cls db mb vo v3 vr of (next++[r]) rule:=by
  have nne:∀{b:Nat}{t:TypeId},cP h b t->155≠t->¬cu vn.ownBlock b:=fun kt ht e=>(k.ED _ e.symm).ne kt ht rfl
  have d3:=k.dblk.ext hx (nne k.dblk.ty (by decide));have dne:∀{b:Nat}{t:TypeId},cP g3 b t->151≠t->¬b=db:=fun kt ht e=>by subst e;exact d3.ty.ne kt ht rfl
  have mne:¬cu vn.ownBlock mb:=fun e=>k.mp.ne (k.ED _ e.symm) rfl
  have hm3:=k.mp.ext hx mne;have ru3:=aB.ext hx k.ru (fun b hb=>nne (k.Dq b hb) (by decide));have of3:=aB.ext hx k.ol (fun b hb=>nne (k.Mc b hb) (by decide));refine⟨⟨by have:=k.ext.size;have:=hx.size;have:=x4.size;omega,fun b hb kk=>?_⟩,hd,?_,aB.ext x4 ru3 (fun b hb=>dne (aB.ty ru3 hb) (by decide)),aB.ext x4 of3 (fun b hb=>dne (aB.ty of3 hb) (by decide)),hm3.ext x4 (hm3.ne d3.ty),k.ne,k.dge,k.mge⟩
  · rw[x4.block b (by have:=k.ext.size;have:=hx.size;omega) (by have:=k.dge;omega),hx.block b (by have:=k.ext.size;omega) (fun e=>by have:=(aB.lt k.nx e.symm).1;omega)];exact k.ext.block b hb kk
  · exact aB.ext x4 (lf.of ho hn rfl) (fun b hb=>dne (aB.ty ho hb) (by decide))
theorem dU.KD {g3 g4:aj}{x:Int}(k:dU h0 h cls db mb vo vn vr of next rule) (hn:n=rule.length) (ho:aB g3 h0.size 3 1 v3 (n+1) (rule.map (Value.int .i64)++[.int .i64 x])) (hx:Ext (cu vr.ownBlock) h g3) (hv:∀b,v3.ownBlock=some b->vr.ownBlock=some b\/h.size<=b) (hd:aC g4 db 151 [vn,v3]) (x4:Ext (fun b=>b=db) g3 g4) :
    dU h0 g4 cls db mb vo vn v3 of next (rule++[x]):=by
  have nne:∀{b:Nat}{t:TypeId},cP h b t->3≠t->¬cu vr.ownBlock b:=fun kt ht e=>(k.Dq _ e.symm).ne kt ht rfl
  have d3:=k.dblk.ext hx (nne k.dblk.ty (by decide));have dne:∀{b:Nat}{t:TypeId},cP g3 b t->151≠t->¬b=db:=fun kt ht e=>by subst e;exact d3.ty.ne kt ht rfl
  have mne:¬cu vr.ownBlock mb:=fun e=>k.mp.ne (k.Dq _ e.symm) rfl
  have hm3:=k.mp.ext hx mne;have nx3:=aB.ext hx k.nx (fun b hb=>nne (k.ED b hb) (by decide));have of3:=aB.ext hx k.ol (fun b hb e=>k.ne b hb e.symm);refine⟨⟨by have:=k.ext.size;have:=hx.size;have:=x4.size;omega,fun b hb kk=>?_⟩,hd,aB.ext x4 nx3 (fun b hb=>dne (aB.ty nx3 hb) (by decide)),?_,aB.ext x4 of3 (fun b hb=>dne (aB.ty of3 hb) (by decide)),hm3.ext x4 (hm3.ne d3.ty),fun b hb e=>?_,k.dge,k.mge⟩
  · rw[x4.block b (by have:=k.ext.size;have:=hx.size;omega) (by have:=k.dge;omega),hx.block b (by have:=k.ext.size;omega) (fun e=>by have:=(aB.lt k.ru e.symm).1;omega)];exact k.ext.block b hb kk
  · exact aB.ext x4 (cn.of (ys:=[x]) ho hn rfl rfl) (fun b hb=>dne (aB.ty ho hb) (by decide))
  · rcases hv b e with e|e
    · exact k.ne b hb e
    · have:=(k.Mc b hb).lt;omega
theorem dU.more {g1 g2:aj}{t:Nat}(k:dU h0 h cls db mb vo vn vr of next rule) (x1:Ext (fun b=>b=mb) h g1) (hm:fu (Value.int .i64) (Value.int .i64) g1 mb (kI cls 0 (of++[t]))) (hn:n=of.length) (ho:aB g2 h0.size 3 1 v3 (n+1) (of.map dP++[dP t])) (hx:Ext (cu vo.ownBlock) g1 g2) (hv:∀b,v3.ownBlock=some b->vo.ownBlock=some b\/g1.size<=b) :
    dU h0 g2 cls db mb v3 vn vr (of++[t]) next rule:=by
  have mne:∀{b:Nat}{t:TypeId},cP h b t->¬b=mb:=fun kt e=>k.mp.ne kt e.symm
  have d1:=k.dblk.ext x1 (mne k.dblk.ty);have nx1:=aB.ext x1 k.nx (fun b hb=>mne (k.ED b hb));have ru1:=aB.ext x1 k.ru (fun b hb=>mne (k.Dq b hb));have of1:=aB.ext x1 k.ol (fun b hb=>mne (k.Mc b hb));have one:∀{b:Nat}{t:TypeId},cP g1 b t->3≠t->¬cu vo.ownBlock b:=fun kt ht e=>(show cP g1 _ 3 from aB.ty of1 e.symm).ne kt ht rfl
  refine⟨⟨by have:=k.ext.size;have:=hx.size;have:=x1.size;omega,fun b hb kk=>?_⟩,d1.ext hx (one d1.ty (by decide)),aB.ext hx nx1 (fun b hb=>one (aB.ty nx1 hb) (by decide)),aB.ext hx ru1 (fun b hb e=>k.ne b e.symm hb),cn.of (ys:=[t]) ho hn rfl rfl,hm.ext hx (fun e=>hm.ne (aB.ty of1 e.symm) rfl),fun b hb e=>?_,k.dge,k.mge⟩
  · rw[hx.block b (by have:=k.ext.size;have:=x1.size;omega) (fun e=>by have:=(aB.lt k.ol e.symm).1;omega),x1.block b (by have:=k.ext.size;omega) (by have:=k.mge;omega)];exact k.ext.block b hb kk
  · rcases hv b hb with e'|e'
    · exact k.ne b e' e
    · have:=(show cP g1 _ 3 from aB.ty ru1 e).lt;omega
end
end
end Go.Proofs.YtdgckfkoihcmjaaGreatDoor
namespace Go.Proofs.YtdgckfkoihcmjaaGreatDoor
open Go.Proofs.Tryz
open Go Go.Lw
set_option maxRecDepth 20000 set_option maxHeartbeats 4000000
theorem wY (d:bD):∀(n:Nat) (out:List Bool),(pS d n out).length=out.length
 | 0,_=>rfl
 |n+1,out=>by
  rw[pS];split
  · rw[wY d n,gw]
  · rw[gw]
theorem EK (d:bD):(bf d).length=d.next.length:=by rw[bf,wY];simp
theorem uY (d:bD) (live:List Bool):∀(n many:Nat) (cls:List Int),cls.length=d.next.length->(kB d live n many cls).length=d.next.length
 | 0,_,_,h=>h
 |n+1,many,cls,h=>by
  rw[kB];split
  · exact(ey d live cls).len
  · exact uY d live n _ _ (ey d live cls).len
theorem CT (d:bD) (live:List Bool) (h:d.rule.length=d.next.length):(dH d live).length=d.next.length:=uY d live _ _ _ h
def ni (h:aj) (O:Nat->Prop) (db:Nat) (d:bD):Prop :=
 ∃vn vr,¬O db/\aC h db 151 [vn,vr]/\aY DF h O vn d.next/\aY (.int .i64) h O vr d.rule
theorem ni.mv {h h':aj}{O O':Nat->Prop}{db:Nat}{d:bD}(k:ni h O db d) (m:Mv O O' h h'):ni h' O' db d:=by
 obtain⟨vn,vr,ho,hk,h1,h2⟩:=k;have hm:=m.block db hk.lt ho;exact⟨vn,vr,hm.2,hm.1.trans hk,h1.mv m,h2.mv m⟩
theorem ni.rd {h:aj}{O:Nat->Prop}{db:Nat}{d:bD}(k:ni h O db d):ou h db d:=by
 obtain⟨vn,vr,ho,hk,h1,h2⟩:=k;exact⟨vn,vr,hk,qv h1 (fun _ k=>k.elim),qv h2 (fun _ k=>k.elim)⟩
theorem HA {h:aj}{db:Nat}{d:bD}(htens:qX h) (k:ou h db d) (hok:d.Ok) (hd0:0<d.next.length) :
 av Tryz.prog 28 #[.pointer (some ⟨db,0,none⟩)] h (bq fun r h'=>(∃b,r= .pointer (some ⟨b,0,none⟩)/\ni h' (fun g=>g<h.size) b (lE d))/\aq h h'):=by
 have hlen:=hok.len;have hsize:=hok.size;generalize hres:lE d=res;refine bP ?_;refine af ?_;refine xo rfl (aF rfl (Bn k)) ?_;rintro _ h0 ⟨rfl,hh0⟩;subst hh0;refine af ?_;refine aP (fun hz=>?_) (fun hz=>?_)
 · refine af ?_;refine bh ?_;exfalso;omega
 · rw[lE,if_neg hz] at hres;have hll:=EK d;have hcl:=CT d (bf d) hlen;refine af ?_;refine xo rfl (aF rfl (CC k hok)) ?_;rintro w3 h1 ⟨ho1,e1⟩;generalize bf d=live at *;obtain⟨la,lc,rfl,_⟩:=(show aB h1 h0.size 4 1 w3 live.length (live.map Value.bool) from ho1).open;refine af ?_;refine xo rfl (aF rfl (wo (htens.ah e1) (k.ah e1) hok (cn.read (O:=fun _=>False) (h1:=fun _=>rfl) ho1 (fun _ _ k=>k)) hll)) ?_;rintro w4 h2 ⟨ho2,e2⟩;generalize dH d live=cls at *;obtain⟨ca,cc,rfl,_⟩:=(show aB h2 h1.size 3 1 w4 cls.length (cls.map (Value.int .i64)) from ho2).open;have ho1:=cn.ah ho1 e2;have k2:=(k.ah e1).ah e2;have hsV:aY .bool h2 (fun _=>False) (.slice la live.length lc) live:=cn.read (h1:=fun _=>rfl) ho1 (fun _ _ k=>k);have hsC:aY (.int .i64) h2 (fun _=>False) (.slice ca cls.length cc) cls:=cn.read (h1:=fun _=>rfl) ho2 (fun _ _ k=>k);rw[hll] at hsV;rw[hcl] at hsC;rw[hll,hcl];obtain⟨c0,hc0⟩:∃c0,cls[0]? =some c0:=⟨_,List.getElem?_eq_getElem (by omega)⟩
   have hcd0:cls.getD 0 0=c0:=by rw[List.getD_eq_getElem?_getD,hc0];rfl
   refine af ?_;refine xp rfl (au (H.HQ ) rfl) ?_;refine xo rfl (iF) ?_;rintro _ h3 ⟨rfl,kd3,e3,z3⟩;refine af ?_;refine xo rfl (nj (ek:=Value.int .i64) (ev:=Value.int .i64)) ?_;rintro _ h4 ⟨rfl,hm4,e4,z4⟩;have kd3:aC h3 h2.size 151 [.slice none 0 0,.slice none 0 0]:=kd3;have e34:=e3.trans e4;obtain⟨oa',n',c',hv',_,_,_,hgetc⟩:=id (hsC.mv (Mv.ah e34));cases hv';obtain⟨b3,o3,cs3,ha3,_,hrow3,rfl⟩:=hgetc 0 c0 hc0;refine aZ ?_;refine xp rfl (cK rfl rfl 0 rfl ha3) ?_;refine xp rfl (az rfl (hrow3 0 _ rfl)) ?_;refine aH rfl (vG (v:=(0:Int)) (jE.int .i64) underlying162 underlying3 rfl rfl rfl rfl rfl hm4 (rfl:kZ c0 []=none)) ?_;rintro _ h5 ⟨rfl,hm5,x5,z5⟩;have hm5:fu (Value.int .i64) (Value.int .i64) h5 h3.size (kI cls 0 [0]):=by rw[kI,hcd0];exact hm5
   have hz3:=e3.size;have e25:aq h2 h5:=aq.only e34 x5 hz3;have kd5:aC h5 h2.size 151 [.slice none 0 0,.slice none 0 0]:=(kd3.ah e4).ext x5 (by show ¬_=_;omega);refine af ?_;refine xo rfl (jG [_]) ?_;rintro _ _ ⟨rfl,rfl⟩;refine af ?_;have e56:aq h5 (h5.push (.cells #[.int .i64 0] 3)):=Ext.push _ _ _;have ol6:cn dP (h5.push (.cells #[.int .i64 0] 3)) h2.size 3 (.slice (some ⟨h5.size,0,none⟩) 1 1) [0]:=kW dP h5 3 [0] 1 rfl (by decide) h2.size e25.size rfl;generalize h5.push (.cells #[.int .i64 0] 3)=h6 at *
   have mk6:dU h2 h6 cls h2.size h3.size (.slice (some ⟨h5.size,0,none⟩) 1 1) (.slice none 0 0) (.slice none 0 0) [0] [] [] :=
    ⟨e25.trans e56,kd5.ah e56,lf.nil _ _ _ _ _,cn.nil _ _ _ _,ol6,hm5.ext e56 (fun k=>k),fun b _ hb=>(by cases hb),Nat.le_refl _,hz3⟩
   refine gJ (σ:=Nat×Value) (fun q=>[(7,q.2),(8,.int .i64 (q.1:Nat))]) (fun q h'=>∃vn vr of next rule,dU h2 h' cls h2.size h3.size q.2 vn vr of next rule/\q.1<=of.length/\BQ d.next.length of/\(next.length=q.1/\rule.length=q.1)/\AR d live cls (d.next.length+1-q.1) q.1 of next rule=res) (fun q=>d.next.length+1-q.1) ((0,.slice (some ⟨h5.size,0,none⟩) 1 1)) ⟨_,_,[0],[],[],mk6,Nat.zero_le _,⟨by simp,fun x hx=>by simp at hx;omega⟩,⟨rfl,rfl⟩,hres⟩ rfl ?_;rintro⟨i,vl⟩ g ⟨vn,vr,of,next,rule,mk,hi,hok2,⟨hnl,hrl⟩,hcon⟩ ih
   try dsimp only
   dsimp only at mk hi hnl hrl hcon;have hofl:=hok2.len;obtain⟨oa,oc,rfl,_⟩:=(show aB g h2.size 3 1 vl of.length (of.map dP) from mk.ol).open;have mkg:=mk;refine af ?_;refine aP (fun hlt=>?_) (fun hlt=>?_)
   · have hil:i<of.length:=by omega
     obtain⟨kk,hcur⟩:∃kk,of[i]? =some kk:=⟨_,List.getElem?_eq_getElem hil⟩
     have hkN:=hok2.lt kk (List.mem_of_getElem? hcur);obtain⟨n,hnn⟩:∃n,d.next.length+1-i=n+1:=⟨d.next.length-i,by omega⟩
     rw[hnn,AR,hcur] at hcon;simp only at hcon;obtain⟨r,hr⟩:∃r,d.next[kk]? =some r:=⟨_,List.getElem?_eq_getElem hkN⟩
     have hrow:d.row kk=r.v:=by unfold bD.row;rw[hr]
     rw[hrow] at hcon;generalize htgt:fD live cls r.v of []=tgt at hcon;refine af ?_;refine xo rfl (cm) ?_;rintro _ g1 ⟨rfl,kz,ez,zz⟩;have kz:aC g1 g.size 155 (([]:List Int).map (Value.int .i64)++List.replicate (256-0) (Value.int .i64 0)):=kz;have IV:=mk.ah ez;have hvz:vn.ownBlock≠some g.size:=fun e=>by have:=(mk.ED _ e).lt;omega
     obtain⟨vn0,vr0,kd,⟨na,nn,nc,rfl,hnl0,hnc,hnm,hgetn⟩,hsR⟩:=id (k2.ah IV.ext);subst hnl0;obtain⟨b1,o1,cs1,ha1,_,hrow1,rfl⟩:=hgetn kk r hr;obtain⟨gg,c4,hv4,_,_,hcell,_,_⟩:=IV.ol.at hcur;have hoa:oa=some ⟨gg,0,none⟩:=by cases hv4;rfl
     refine af ?_;refine eO rfl (az rfl (kd.cell (i:=0) rfl)) ?_
     iterate 2 refine BX ?_
     refine eO rfl (cK rfl rfl i rfl hoa) ?_;refine eO rfl (az rfl hcell) ?_;refine eO rfl (cK rfl rfl kk rfl ha1) ?_;refine eO rfl (bV rfl hrow1) ?_;refine af ?_;refine gJ (σ:=Nat×Value) (fun q=>[(7,q.2),(45,.int .i64 (q.1:Nat))]) (fun q h'=>∃of' row,dU h2 h' cls h2.size h3.size q.2 vn vr of' next rule/\(q.1<=256/\row.length=q.1)/\aC h' g.size 155 (row.map (Value.int .i64)++List.replicate (256-q.1) (Value.int .i64 0))/\of'[i]? =some kk/\BQ d.next.length of'/\fD live cls (r.v.drop q.1) of' row=tgt) (fun q=>256-q.1) ((0,.slice oa of.length oc)) ⟨of,[],IV,⟨Nat.zero_le _,rfl⟩,kz,hcur,hok2,htgt⟩ rfl ?_;rintro⟨b,vl⟩ g2 ⟨of,row,mk,⟨hb,hrlen⟩,kz,hcur,hok2,hrow⟩ ih2
     try dsimp only
     dsimp only at mk hb hrlen kz hrow;have hofl:=hok2.len;obtain⟨oa,oc,rfl,_⟩:=(show aB g2 h2.size 3 1 vl of.length (of.map dP) from mk.ol).open;refine af ?_;refine aP (fun hb256=>?_) (fun hb256=>?_)
     · have hb2:b<256:=by omega
       obtain⟨t,ht⟩:∃t,r.v[b]? =some t:=⟨_,List.getElem?_eq_getElem (by rw[r.len];exact hb2)⟩
       have htm:=hok.to r (List.mem_of_getElem? hr) t (List.mem_of_getElem? ht);have hdrop:r.v.drop b=t::r.v.drop (b+1):=by rw[List.drop_eq_getElem_cons (by rw[r.len];exact hb2),(List.getElem?_eq_some_iff.1 ht).2]
       rw[hdrop,fD] at hrow;have hso:=tW (live:=live) (cls:=cls) (t:=t) hok2 htm.2;have hsg:=(Cz (live:=live) (cls:=cls) (of:=of) (t:=t)).2 i kk hcur;have hcells:(row.map (Value.int .i64)++List.replicate (256-b) (Value.int .i64 0)).length=256:=by simp[hrlen];omega
       have hset:∀to:Int,(row.map (Value.int .i64)++List.replicate (256-b) (Value.int .i64 0)).set (0+b*1) (.int .i64 to)=(row++[to]).map (Value.int .i64)++List.replicate (256-(b+1)) (Value.int .i64 0):=fun to=>by
        rw[Nat.zero_add,Nat.mul_one,List.set_append_right _ _ (by simp;omega),show 256-b=(256-(b+1))+1 by omega,List.replicate_succ];have:b-(row.map (Value.int .i64)).length=0:=by simp;omega
        rw[this,List.set_cons_zero];simp
       have hblt:0+b*1<(row.map (Value.int .i64)++List.replicate (256-b) (Value.int .i64 0)).length:=by rw[hcells];omega
       have hzge:h2.size<=g.size:=mkg.ext.size
       have fin:∀(gA gB:aj) (vA:Value) (ofA:List Nat) (to:Int),dU h2 gA cls h2.size h3.size vA vn vr ofA next rule->aC gA g.size 155 (row.map (Value.int .i64)++List.replicate (256-b) (Value.int .i64 0))->gB=dK gA ⟨g.size,0+b*1,none⟩ (.int .i64 to)->cF live cls of t=(ofA,to)->∃of' row,dU h2 gB cls h2.size h3.size vA vn vr of' next rule/\(b+1<=256/\row.length=b+1)/\aC gB g.size 155 (row.map (Value.int .i64)++List.replicate (256-(b+1)) (Value.int .i64 0))/\of'[i]? =some kk/\BQ d.next.length of'/\fD live cls (r.v.drop (b+1)) of' row=tgt:=by
        rintro gA gB vA ofA to mA kA hgB hst;have k6:=kA.set (0+b*1) (.int .i64 to);rw[<-hgB,hset] at k6;have x6:Ext (fun y=>y=g.size) gA gB:=by rw[hgB];exact Ext.dK _ _ _ rfl
        rw[hst] at hso hsg hrow;exact⟨ofA,row++[to],mA.put x6 kA.ty hvz hzge,⟨hb2,by simp[hrlen]⟩,k6,hsg,hso,hrow⟩
       refine af ?_;refine xp rfl (ay.qc underlying155 H.jM H.FB rfl rfl b rfl hb2 (show (bN r).toArray[b]? =some (Value.int .i64 t) by simp[bN,ht])) ?_
       iterate 2 refine aZ ?_
       refine cV ?_
       iterate 2 refine aR ?_
       refine de ?_
       iterate 3 refine aZ ?_
       refine b9 51 (fun hg=>?_) (fun hg=>?_)
       · have hg':=of_decide_eq_true hg;refine af ?_;refine eu rfl (by simp) ?_;refine aR ?_;refine de ?_;refine aZ ?_;refine xp rfl (xM rfl rfl b rfl (by omega)) ?_;refine aH rfl (bU H.jM rfl rfl rfl (kz.cell (List.getElem?_eq_getElem hblt)) kz.nf) ?_;rintro _ g6 ⟨rfl,hg6⟩;have ff:=fin g2 g6 _ of (-1) mk kz hg6 (by rw[cF,if_pos (.inl hg')]);refine af ?_;exact ih2 (b+1,_) ff
       · have hg':=of_decide_eq_false hg;obtain⟨t2,rfl⟩:=Int.eq_ofNat_of_zero_le (show 0<=t by omega);obtain⟨bt,hbt⟩:∃bt,live[t2]? =some bt:=⟨_,List.getElem?_eq_getElem (by omega)⟩
         have hlt2:live.getD t2 false=bt:=by rw[List.getD_eq_getElem?_getD,hbt];rfl
         obtain⟨oa',n',c',hv',_,_,_,hgetv⟩:=id (hsV.mv (Mv.ah mk.ext));cases hv';obtain⟨b3,o3,cs3,ha3,_,hrow3,rfl⟩:=hgetv t2 bt hbt
         iterate 2 refine aZ ?_
         refine xp rfl (cK rfl rfl t2 rfl ha3) ?_;refine xp rfl (az rfl (hrow3 0 _ rfl)) ?_;refine af ?_;refine fF (fun hb=>?_) (fun hb=>?_)
         · have hb':bt=false:=by simpa using hb
           refine aR ?_;refine de ?_;refine aZ ?_;refine xp rfl (xM rfl rfl b rfl (by omega)) ?_;refine aH rfl (bU H.jM rfl rfl rfl (kz.cell (List.getElem?_eq_getElem hblt)) kz.nf) ?_;rintro _ g6 ⟨rfl,hg6⟩;have ff:=fin g2 g6 _ of (-1) mk kz hg6 (by rw[cF,if_pos (.inr (by show live.getD t2 false=false;rw[hlt2,hb']))]);refine af ?_;exact ih2 (b+1,_) ff
         · have hb':bt=true:=by simpa using hb
           obtain⟨c2,hc2⟩:∃c2,cls[t2]? =some c2:=⟨_,List.getElem?_eq_getElem (by omega)⟩
           have hgd2:cls.getD t2 0=c2:=by rw[List.getD_eq_getElem?_getD,hc2];rfl
           have hneg:¬(((t2:Nat):Int)<0\/live.getD ((t2:Nat):Int).toNat false=false):=by
            rintro(e|e)
            · exact hg' e
            · rw[Int.toNat_natCast,hlt2,hb'] at e;cases e
           have hstep:cF live cls of ((t2:Nat):Int)=match og cls 0 of c2 with|some i=>(of,(i:Int))|none=>(of++[t2],(of.length:Int)):=by
            rw[cF,if_neg hneg,Int.toNat_natCast,hgd2]<;>rfl
           obtain⟨oa',n',c',hv',_,_,_,hgetc⟩:=id (hsC.mv (Mv.ah mk.ext));cases hv';obtain⟨b4,o4,cs4,ha4,_,hrow4,rfl⟩:=hgetc t2 c2 hc2
           iterate 2 refine aR ?_
           refine de ?_
           iterate 3 refine aZ ?_
           refine xp rfl (cK rfl rfl t2 rfl ha4) ?_;refine xp rfl (az rfl (hrow4 0 _ rfl)) ?_;refine xp rfl (ay.ud (z:=.int .i64 0) (jE.int .i64) underlying162 underlying3 (by kernel_rfl) rfl rfl rfl mk.mp) ?_;rw[qU]
           rcases hfind:og cls 0 of c2 with _|i0
           · rw[hfind] at hstep;simp only at hstep;have hnone:kZ c2 (kI cls 0 of)=none:=by rw[qU,hfind];rfl
             refine af ?_;refine eu rfl (by simp) ?_;refine aR ?_;refine de ?_
             iterate 3 refine aZ ?_
             refine cV ?_;refine aR ?_;refine de ?_
             iterate 3 refine aZ ?_
             refine xp rfl (cK rfl rfl t2 rfl ha4) ?_;refine xp rfl (az rfl (hrow4 0 _ rfl)) ?_;refine af ?_;refine aH rfl (aT.mapUpdate (v:=((of.length:Nat):Int)) (jE.int .i64) underlying162 underlying3 rfl rfl rfl rfl rfl mk.mp hnone) ?_;rintro _ g3 ⟨rfl,hm3,x3,z3'⟩;have hm3:fu (Value.int .i64) (Value.int .i64) g3 h3.size (kI cls 0 (of++[t2])):=by rw[tI,Nat.zero_add,hgd2];exact hm3
             have mne:∀{b:Nat}{t:TypeId},cP g2 b t->¬b=h3.size:=fun kt e=>mk.mp.ne kt e.symm
             have ol3:aB g3 h2.size 3 1 (.slice oa of.length oc) of.length (of.map dP):=aB.ext x3 mk.ol (fun b hb=>mne (mk.Mc b hb));have kz3:=kz.ext x3 (mne kz.ty);have hz2g:=mk.ext.size;refine af ?_;refine xo rfl (jG [_]) ?_;rintro _ _ ⟨rfl,rfl⟩;refine xo rfl (wC rfl rfl ol3 rfl rfl) ?_;rintro v7 g4 ⟨ho4,hx4,hx4',hv4⟩;have mk4:=mk.more (t:=t2) x3 hm3 rfl ho4 hx4 hv4;have kz4:=kz3.ext hx4 (fun e=>(show cP g3 _ 3 from aB.ty ol3 e.symm).ne kz3.ty (by decide) rfl);obtain⟨v7a,v7c,rfl,_⟩:=ho4.open;refine aZ ?_;refine cV ?_;refine de ?_
             iterate 2 refine aZ ?_
             refine xp rfl (xM rfl rfl b rfl (by omega)) ?_;refine aH rfl (bU H.jM rfl rfl rfl (kz4.cell (List.getElem?_eq_getElem hblt)) kz4.nf) ?_;rintro _ g6 ⟨rfl,hg6⟩;have ff:=fin g4 g6 _ (of++[t2]) (of.length:Nat) mk4 kz4 hg6 hstep;refine af ?_;exact ih2 (b+1,_) ff
           · rw[hfind] at hstep;simp only at hstep;refine af ?_;refine eC rfl (by simp) ?_;refine aR ?_;refine de ?_
             iterate 2 refine aZ ?_
             refine xp rfl (xM rfl rfl b rfl (by omega)) ?_;refine aH rfl (bU H.jM rfl rfl rfl (kz.cell (List.getElem?_eq_getElem hblt)) kz.nf) ?_;rintro _ g6 ⟨rfl,hg6⟩;have ff:=fin g2 g6 _ of (i0:Nat) mk kz hg6 hstep;refine af ?_;exact ih2 (b+1,_) ff
     · obtain rfl:b=256:=by omega
       rw[List.drop_of_length_le (by rw[r.len];exact Nat.le_refl _),fD] at hrow;subst hrow;simp only at hcon;have hencr:bN (jO row)=row.map (Value.int .i64):=by rw[bN,sQ hrlen]
       rw[Nat.sub_self,List.replicate_zero,List.append_nil,<-hencr] at kz;have hil2:i<of.length:=(List.getElem?_eq_some_iff.1 hcur).1
       have nne:∀{b:Nat}{t:TypeId},cP g2 b t->155≠t->¬(cu vn.ownBlock b\/Array.size g2<=b):=fun kt ht e=>by
        rcases e with e|e
        · exact(mk.ED _ e.symm).ne kt ht rfl
        · have:=kt.lt;omega
       have hzM:¬(cu vn.ownBlock g.size\/Array.size g2<=g.size):=by
        rintro(e|e)
        · exact hvz e.symm
        · have:=kz.lt;omega
       have hdM:=nne mk.dblk.ty (by decide);have hnx:aB g2 h2.size 155 256 vn next.length (next.flatMap bN):=mk.nx
       have hone:∀u∈bN (jO row),u.oneCell'=true:=fun u hu=>by simp[bN] at hu;obtain⟨_,_,rfl⟩:=hu;rfl
       have hg2:=mk.ext.size;refine af ?_;refine kH 11 (fun b=>cu vn.ownBlock b\/Array.size g2<=b) (fun i=>Nat.blt i 10) ?_;refine aG 0 ?_;refine aG 1 ?_;refine aG 2 ?_;refine aG 3 ?_;refine bC 4 rfl (fun h' e=>az rfl (e.cell hdM (mk.dblk.cell (i:=0) rfl))) ?_;refine bC 5 rfl (fun h' e=>bV rfl (e.rowAt hzM kz.row)) ?_;refine cU 6 rfl (aT.u5 (cs:=bN (jO row)) underlying149 H.DD rfl (lK _) (by decide)) ?_;rintro _ _ ⟨rfl,rfl⟩;refine⟨fun _=>(Ext.push _ _ _),?_⟩;refine cU 7 rfl (aT.xH underlying149 H.DD rfl rfl hnx rfl (by simp) hone (by simp only[maxLen];omega) (by omega) hg2) ?_;rintro v3 g3 ⟨ho3,hx3,hx3',hv3⟩;refine⟨fun _=>hx3'.mono (fun _ _ k=>.inl k),?_⟩;obtain⟨a3,c3,rfl,_⟩:=ho3.open;refine Iu 8 ?_;refine aG 9 ?_;refine iA 10 rfl (kY rfl rfl ((mk.dblk.ext hx3 (fun e=>hdM (.inl e))))) ?_;rintro _ g4 ⟨rfl,k4,x4,z4⟩;refine⟨nofun,?_⟩;have mk4:=mk.KE (r:=jO row) rfl ho3 hx3 k4 x4;obtain⟨vn0,vr0,kd4,_,⟨ra,rn,rc,rfl,hrl0,hrc,hrm,hgetr⟩⟩:=id k2;obtain⟨x,hx⟩:∃x,d.rule[kk]? =some x:=⟨_,List.getElem?_eq_getElem (by omega)⟩
       have hru0:d.ru kk=x:=by unfold bD.ru;rw[List.getD_eq_getElem?_getD,hx];rfl
       obtain⟨b5,o5,cs5,ha5,hO5,hrow5,rfl⟩:=hgetr kk x hx;obtain⟨gg5,c5,hv5,_,_,hcell5,_,_⟩:=mk4.ol.at hcur;have hoa5:oa=some ⟨gg5,0,none⟩:=by cases hv5;rfl
       have rne:∀{b:Nat}{t:TypeId},cP g4 b t->3≠t->¬(cu vr.ownBlock b\/Array.size g4<=b):=fun kt ht e=>by
        rcases e with e|e
        · exact(mk4.Dq _ e.symm).ne kt ht rfl
        · have:=kt.lt;omega
       have hdM4:=rne mk4.dblk.ty (by decide);have hru:aB g4 h2.size 3 1 vr rule.length (rule.map (Value.int .i64)):=mk4.ru;have hg4s:=mk4.ext.size
       have olb:∀{b:Nat},b<h2.size->¬(cu vr.ownBlock b\/Array.size g4<=b):=fun kb e=>by
        rcases e with e|e
        · have:=(aB.lt mk4.ru e.symm).1;omega
        · omega
       have hc4:=kd4.cell (i:=1) rfl;have hd4:=olb (dA hc4);have hc5:cellAt h2 _=some (Value.int .i64 x):=hrow5 0 _ rfl;have hd5:=olb (dA hc5)
       have hd6:¬(cu vr.ownBlock gg5\/Array.size g4<=gg5):=fun e=>by
        rcases e with e|e
        · exact mk4.ne gg5 (by rw[hoa5];rfl) e.symm
        · have:=dA hcell5;simp only at this;omega
       refine gV ?_;refine kH 20 (fun b=>cu vr.ownBlock b\/Array.size g4<=b) (fun i=>Nat.blt i 19) ?_;refine aG 0 ?_;refine aG 1 ?_;refine aG 2 ?_;refine aG 3 ?_;refine bC 4 rfl (fun h' e=>az rfl (e.cell hdM4 (mk4.dblk.cell (i:=1) rfl))) ?_;refine aG 5 ?_;refine aG 6 ?_;refine aG 7 ?_;refine bC 8 rfl (fun h' e=>az rfl (e.cell hd4 (mk4.ext.cell (fun k=>k) hc4))) ?_;refine aG 9 ?_;refine aG 10 ?_;refine bC 11 rfl (fun h' e=>cK rfl rfl i rfl hoa5) ?_;refine bC 12 rfl (fun h' e=>az rfl (e.cell hd6 hcell5)) ?_;refine bC 13 rfl (fun h' e=>cK rfl rfl kk rfl ha5) ?_;refine bC 14 rfl (fun h' e=>az rfl (e.cell hd5 (mk4.ext.cell (fun k=>k) hc5))) ?_;refine cU 15 rfl (jG [_]) ?_;rintro _ _ ⟨rfl,rfl⟩;refine⟨fun _=>by first|exact Ext.push _ _ _|assumption,?_⟩;refine cU 16 rfl (wC rfl rfl hru rfl rfl) ?_;rintro v6 g6 ⟨ho6,hx6,hx6',hv6⟩;refine⟨fun _=>hx6'.mono (fun _ _ k=>.inl k),?_⟩;obtain⟨a6,c6,rfl,_⟩:=ho6.open;refine Iu 17 ?_;refine aG 18 ?_;refine iA 19 rfl (kY rfl rfl ((mk4.dblk.ext hx6 (fun e=>hdM4 (.inl e))))) ?_;rintro _ g7 ⟨rfl,k7,x7,z7⟩;refine⟨nofun,?_⟩;have mk7:=mk4.KD (x:=x) rfl ho6 hx6 hv6 k7 x7;refine gV ?_;refine af ?_;exact ih (i+1,_) ⟨_,_,of,next++[jO row],rule++[x],mk7,hil2,hok2,⟨by simp[hnl],by simp[hrl]⟩,by rw[<-hru0,show d.next.length+1-(i+1)=n by omega];exact hcon⟩
   · obtain rfl:i=of.length:=by omega
     obtain⟨n,hnn⟩:∃n,d.next.length+1-of.length=n+1:=⟨d.next.length-of.length,by omega⟩
     rw[hnn,AR,List.getElem?_eq_none (Nat.le_refl _)] at hcon;simp only at hcon;refine af ?_;refine bh ?_;have hz02:=(e1.trans e2).size;refine⟨_,rfl,⟨h2.size,rfl,?_⟩,(e1.trans e2).trans mk.ext⟩;rw[<-hcon];exact⟨vn,vr,by omega,mk.dblk,lf.read mk.nx (fun b hb k=>by omega),cn.read (h1:=fun _=>rfl) mk.ru (fun b hb k=>by omega)⟩
end Go.Proofs.YtdgckfkoihcmjaaGreatDoor
namespace Go.Proofs.YtdgckfkoihcmjaaGreatDoor
open Go
section
variable {ss:List aX}{st s k t:Nat}{cls:List Int}
def vJ (L:List (List Nat)) (l:List Nat) (to:Int):Prop:=(l.length=0/\to= -1)\/(l.length≠0/\∃i:Nat,to=(i:Int)/\L[i]? =some l)
theorem vJ.mono {L L':List (List Nat)}{l:List Nat}{to:Int}(k:vJ L l to) (h:L <+: L'):vJ L' l to:=by
 rcases k with k|⟨k,i,e,hi⟩
 · exact .inl k
 · obtain⟨t,rfl⟩:=h;exact .inr ⟨k,i,e,by rw[List.getElem?_append_left (List.getElem?_eq_some_iff.1 hi).1];exact hi⟩
theorem yw (ss:List aX) (cur:List Nat) (lists:List (List Nat)) (b:Nat) (hn:lists.Nodup) :
 lists <+: (dh ss cur lists b).1/\(dh ss cur lists b).1.Nodup/\vJ (dh ss cur lists b).1 (cw ss (UInt8.ofNat b) cur) (dh ss cur lists b).2:=by
 unfold dh;split
 · rename_i h;exact⟨List.prefix_refl _,hn,.inl ⟨h,rfl⟩⟩
 · rename_i h;split
   · rename_i i hi;exact⟨List.prefix_refl _,hn,.inr ⟨h,i,rfl,(oL lists 0 i _ hi).2⟩⟩
   · rename_i hi;refine⟨List.prefix_append _ _,List.nodup_append.2 ⟨hn,by simp,fun x hx y hy e=>?_⟩,.inr ⟨h,lists.length,rfl,by simp⟩⟩;have:y=cw ss (UInt8.ofNat b) cur:=by simpa using hy
     exact uL lists 0 _ hi (by rw[<-this,<-e];exact hx)
theorem qI (ss:List aX) (cur:List Nat):∀(n b:Nat) (lists:List (List Nat)) (row:List Int),lists.Nodup ->
 lists <+: (lB ss cur n b lists row).1/\(lB ss cur n b lists row).1.Nodup/\∃ys,(lB ss cur n b lists row).2=row++ys/\ys.length=n/\∀(j:Nat) (y:Int),ys[j]? =some y->vJ (lB ss cur n b lists row).1 (cw ss (UInt8.ofNat (b+j)) cur) y
 | 0,b,lists,row,hn=>⟨List.prefix_refl _,hn,[],by simp[lB],rfl,fun j y h=>by simp at h⟩
 |n+1,b,lists,row,hn=>by
  obtain⟨h1,h2,h3⟩:=yw ss cur lists b hn;obtain⟨k1,k2,ys,k3,k4,k5⟩:=qI ss cur n (b+1) (dh ss cur lists b).1 (row++[(dh ss cur lists b).2]) h2;rw[lB];refine⟨h1.trans k1,k2,(dh ss cur lists b).2::ys,by rw[k3];simp,by simp[k4],fun j y hy=>?_⟩;cases j with
  |zero =>
   simp only[List.getElem?_cons_zero,Option.some.injEq] at hy;subst hy;exact h3.mono k1
  |succ j =>
   rw[List.getElem?_cons_succ] at hy;have:=k5 j y hy
   rwa [show b+(j+1)=b+1+j by omega]
structure nq (ss:List aX) (st:Nat) (lists:List (List Nat)) (d:bD):Prop where
 first:lists[0]? =some (bX ss st)
 once:lists.Nodup
 size:lists.length<=2000
 rlen:d.rule.length=d.next.length
 row:∀(k:Nat) (r:Row) (l:List Nat),d.next[k]? =some r->lists[k]? =some l->∀(b:Nat) (y:Int),r.v[b]? =some y->vJ lists (cw ss (UInt8.ofNat b) l) y
 rule:∀(k:Nat) (x:Int) (l:List Nat),d.rule[k]? =some x->lists[k]? =some l->x=aV ss l
theorem rU {ss:List aX}{st:Nat}:∀(n k:Nat) (lists:List (List Nat)) (next:List Row) (rule:List Int) (d:bD),nq ss st lists ⟨next,rule⟩->next.length=k->k<=lists.length->ko ss n k lists next rule=some d->∃L,lists <+: L/\nq ss st L d/\L.length=d.next.length
 | 0,k,lists,next,rule,d,h,hk,hkl,hd=>by cases hd
 |n+1,k,lists,next,rule,d,h,hk,hkl,hd=>by
  rw[ko] at hd;split at hd
  · rename_i hn;cases hd;have:=List.getElem?_eq_none_iff.1 hn;exact⟨lists,List.prefix_refl _,h,by show lists.length=next.length;omega⟩
  · rename_i cur hcur;obtain⟨h1,h2,ys,h3,h4,h5⟩:=qI ss cur 256 0 lists [] h.once;split at hd
    · cases hd
    · rename_i hsz;have hkl2:=(List.getElem?_eq_some_iff.1 hcur).1
      have hpre:∀(i:Nat) (l:List Nat),i<lists.length->(lB ss cur 256 0 lists []).1[i]? =some l->lists[i]? =some l:=fun i l hi hl=>by
       obtain⟨t,ht⟩:=h1;rw[<-ht,List.getElem?_append_left hi] at hl;exact hl
      have hpre2:∀(i:Nat) (l:List Nat),lists[i]? =some l->(lB ss cur 256 0 lists []).1[i]? =some l:=fun i l hl=>by
       obtain⟨t,ht⟩:=h1;rw[<-ht,List.getElem?_append_left (List.getElem?_eq_some_iff.1 hl).1];exact hl
      have hlen:=h1.length_le;have hrl:rule.length=next.length:=h.rlen
      obtain⟨L,g1,g2,g3⟩:=rU (st:=st) n (k+1) _ _ _ d ⟨hpre2 _ _ h.first,h2,by omega,by simp[hrl],fun i r l hr hl b y hy=>by
       rcases Nat.lt_or_ge i next.length with hi|hi
       · rw[List.getElem?_append_left hi] at hr;exact(h.row i r l hr (hpre i l (by omega) hl) b y hy).mono h1
       · have hik:i=next.length:=by
          have:=(List.getElem?_eq_some_iff.1 hr).1;simp at this;omega
         subst hik;simp only[List.getElem?_concat_length,Option.some.injEq] at hr;subst hr;have hlc:=hpre _ l (by omega) hl;rw[hk] at hlc;rw[hcur] at hlc;cases hlc;rw[h3,List.nil_append,sQ h4] at hy;have:=h5 b y hy
         rwa [Nat.zero_add] at this,fun i x l hx hl=>by
       rcases Nat.lt_or_ge i rule.length with hi|hi
       · rw[List.getElem?_append_left hi] at hx;exact h.rule i x l hx (hpre i l (by omega) hl)
       · have hik:i=rule.length:=by
          have:=(List.getElem?_eq_some_iff.1 hx).1;simp at this;omega
         subst hik;simp only[List.getElem?_concat_length,Option.some.injEq] at hx;subst hx;have hlc:=hpre _ l (by omega) hl;rw[hrl,hk,hcur] at hlc;cases hlc;rfl⟩ (by simp[hk]) (by omega) hd
      exact⟨L,h1.trans g1,g2,g3⟩
theorem vD {ss:List aX}(hr:∀x∈ss,x.rule<=1000000):∀(l:List Nat) (b:Int),-1<=b/\b<=1000000-> -1<=qu ss l b/\qu ss l b<=1000000
 | [],b,h=>h
 |j::r,b,h=>by
  rw[qu];refine vD hr r _ ?_;split
  · rename_i x hx;split
    · have:=hr x (List.mem_of_getElem? hx);omega
    · exact h
  · exact h
theorem vB (hr:∀x∈ss,x.rule<=1000000) (l:List Nat) : -1<=aV ss l/\aV ss l<=1000000:=by
 unfold aV;split
 · omega
 · exact vD hr l (-1) (by omega)
theorem nq.ok {L:List (List Nat)}{d:bD}(k:nq ss st L d) (hL:L.length=d.next.length) (hr:∀x∈ss,x.rule<=1000000):d.Ok:=by
 refine⟨k.rlen,by rw[<-hL];exact k.size,fun r hrm x hx=>?_,fun x hx=>?_⟩
 · obtain⟨i,hi⟩:=List.getElem?_of_mem hrm;obtain⟨j,hj⟩:=List.getElem?_of_mem hx;have hil:=(List.getElem?_eq_some_iff.1 hi).1;have hl:L[i]? =some (L[i]'(by omega)):=List.getElem?_eq_getElem _
   rcases k.row i r _ hi hl j x hj with ⟨_,rfl⟩|⟨_,i2,rfl,h2⟩
   · omega
   · have:=(List.getElem?_eq_some_iff.1 h2).1;omega
 · obtain⟨i,hi⟩:=List.getElem?_of_mem hx;have hil:=(List.getElem?_eq_some_iff.1 hi).1;have hl:L[i]? =some (L[i]'(by rw[hL,<-k.rlen];exact hil)):=List.getElem?_eq_getElem _;rw[k.rule i x _ hi hl];exact vB hr _
theorem iS {d:bD}(h:fZ ss st= .inr d):(bX ss st).length≠0/\∃L,nq ss st L d/\L.length=d.next.length/\0<L.length:=by
 unfold fZ at h;split at h
 · cases h
 · rename_i hs;refine⟨hs,?_⟩;split at h
   · cases h
   · rename_i d' hd;cases h;obtain⟨L,h1,h2,h3⟩:=rU (st:=st) 2002 0 [bX ss st] [] [] d ⟨rfl,by simp,by simp,rfl,fun k r l hr=>by simp at hr,fun k x l hx=>by simp at hx⟩ rfl (by simp) hd;exact⟨L,h2,h3,by have:=(List.getElem?_eq_some_iff.1 h2.first).1;omega⟩
theorem Fe {d:bD}(h:fZ ss st= .inr d) (hr:∀x∈ss,x.rule<=1000000):d.Ok:=by
 obtain⟨_,L,h1,h2,_⟩:=iS h;exact h1.ok h2 hr
theorem nq.to {ss:List aX}{st0:Nat}{L:List (List Nat)}{d:bD}(k:nq ss st0 L d) (hL:L.length=d.next.length){st:Nat}{now:List Nat}(hn:L[st]? =some now) (c:UInt8):vJ L (cw ss c now) (d.to st c):=by
 have hl:=(List.getElem?_eq_some_iff.1 hn).1;have hr:d.next[st]? =some (d.next[st]'(by omega)):=List.getElem?_eq_getElem _
 obtain⟨x,hx,he,hm⟩:=(d.next[st]'(by omega)).at c;unfold bD.to;rw[hr];simp only;rw[he];have:=k.row st _ now hr hn c.toNat x hx
 rwa [UInt8.ofNat_toNat] at this
theorem nq.ru {ss:List aX}{st0:Nat}{L:List (List Nat)}{d:bD}(k:nq ss st0 L d) (hL:L.length=d.next.length){st:Nat}{now:List Nat}(hn:L[st]? =some now):d.ru st=aV ss now:=by
 have hl:=(List.getElem?_eq_some_iff.1 hn).1;have hlt:st<d.rule.length:=by rw[k.rlen];omega
 have hr:d.rule[st]? =some (d.rule[st]'hlt):=List.getElem?_eq_getElem _;have:=k.rule st _ now hr hn;unfold bD.ru;rw[List.getD_eq_getElem?_getD,hr];exact this
theorem rT {ss:List aX}{st0:Nat}{L:List (List Nat)}{d:bD}(k:nq ss st0 L d) (hL:L.length=d.next.length):∀(l:By) (st j:Nat) (now:List Nat) (b:Int×Int),L[st]? =some now->now.length≠0 ->
 ((aJ d l st j b).1,(aJ d l st j b).2.1)=jm ss l now j b
 | [],st,j,now,b,hn,h0=>by
  rw[aJ,jm,if_neg h0,k.ru hL hn];split<;>rfl
 |c::l,st,j,now,b,hn,h0=>by
  rw[aJ,jm,if_neg h0,k.ru hL hn]
  rcases k.to hL hn c with ⟨e,h⟩|⟨e,i,h,hi⟩
  · rw[h,if_neg (by decide),tY e];split<;>rfl
  · rw[h,if_pos (by omega),Int.toNat_natCast];exact rT k hL l i (j+1) _ _ hi e
theorem ql {d:bD}(h:fZ ss st= .inr d) (hs:ss.length≠0) (l:By):((aJ d l 0 0 (0,-1)).1,(aJ d l 0 0 (0,-1)).2.1)=dn ss st l:=by
 obtain⟨h0,L,h1,h2,_⟩:=iS h;rw[dn,if_neg hs];exact rT h1 h2 l 0 0 _ _ h1.first h0
def bD.go (d:bD):By->Int->Int
 | [],s=>s
 |c::l,s=>bD.go d l (if s<0 then -1 else d.to s.toNat c)
def bD.fB (d:bD) (s:Int) (w:By):Int:=if d.go w s<0 then -1 else d.ru (d.go w s).toNat
theorem go_neg (d:bD):∀(w:By) (s:Int),s<0->d.go w s<0
 | [],s,h=>h
 |c::l,s,h=>by
  rw[bD.go,if_pos h];exact go_neg d l (-1) (by decide)
theorem kJ (d:bD) (w:By){s:Int}(h:s<0):d.fB s w= -1:=by rw[bD.fB,if_pos (go_neg d w s h)]
theorem dx (d:bD) (k:Nat):d.fB (k:Int) []=d.ru k:=by
 rw[bD.fB,bD.go,if_neg (by omega),Int.toNat_natCast]
theorem dN (d:bD) (k:Nat) (c:UInt8) (w:By):d.fB (k:Int) (c::w)=d.fB (d.to k c) w:=by
 have h:¬((k:Int)<0):=by omega
 rw[bD.fB,bD.fB,bD.go,if_neg h,Int.toNat_natCast]
def Ii (d:bD) (k:Nat):Prop:=∃w,0<=d.fB (k:Int) w
def gU (d:bD) (out:List Bool):Prop:=∀k:Nat,out.getD k false=true->Ii d k
theorem Gn {d:bD}{t:Int}(h:t∈d.row k):∃c:UInt8,d.to k c=t:=by
 unfold bD.row at h;split at h
 · rename_i r hr;obtain⟨i,hi⟩:=List.getElem?_of_mem h;have hl:=(List.getElem?_eq_some_iff.1 hi).1;rw[r.len] at hl;refine⟨UInt8.ofNat i,?_⟩;have hc:(UInt8.ofNat i).toNat=i:=by simp;omega
   unfold bD.to;rw[hr];simp only;rw[hc,List.getD_eq_getElem?_getD,hi];rfl
 · cases h
theorem Kz {d:bD}(c:UInt8) (h:k<d.next.length):d.to k c∈d.row k:=by
 have hr:d.next[k]? =some (d.next[k]'h):=List.getElem?_eq_getElem _
 obtain⟨x,hx,he,hm⟩:=(d.next[k]'h).at c;unfold bD.to bD.row;rw[hr];simp only;rw[he];exact hm
theorem yI {d:bD}{out:List Bool}(h:gU d out) (k:Nat) (ha:cX d out k=true):Ii d k:=by
 unfold cX at ha
 rcases Bool.or_eq_true _ _▸ha with e|e
 · exact⟨[],by rw[dx];exact of_decide_eq_true e⟩
 · obtain⟨t,ht,hl⟩:=List.any_eq_true.1 e;unfold fV at hl;rw[Bool.and_eq_true] at hl;have h0:=of_decide_eq_true hl.1;obtain⟨c,hc⟩:=Gn ht;obtain⟨w,hw⟩:=h t.toNat hl.2;refine⟨c::w,?_⟩;rw[dN,hc]
   rwa [Int.toNat_of_nonneg h0] at hw
theorem Ee {d:bD}{out:List Bool}(h:gU d out) (k:Nat):gU d (out.set k (cX d out k)):=by
 intro j hj
 by_cases e:k=j
 · subst e;rw[List.getD_eq_getElem?_getD] at hj
   by_cases hk:k<out.length
   · rw[List.getElem?_set_self hk] at hj;exact yI h k hj
   · rw[List.getElem?_eq_none (by simp;omega)] at hj;cases hj
 · rw[List.getD_eq_getElem?_getD,List.getElem?_set_ne e,<-List.getD_eq_getElem?_getD] at hj;exact h j hj
theorem jr {d:bD}:∀(n k:Nat) (out:List Bool) (ag:Bool),gU d out->gU d (bO d n k out ag).1
 | 0,_,_,_,h=>h
 |n+1,k,out,ag,h=>by
  rw[bO];split
  · exact jr n (k+1) out ag h
  · exact jr n (k+1) _ _ (Ee h k)
theorem jq {d:bD}:∀(n k:Nat) (out:List Bool) (ag:Bool),k+n<=out.length->(bO d n k out ag).2=false->(bO d n k out ag).1=out/\∀j,k<=j->j<k+n->out.getD j false=false->cX d out j=false
 | 0,_,_,_,_,_=>⟨rfl,fun j h1 h2=>by omega⟩
 |n+1,k,out,ag,hk,h=>by
  rw[bO] at h ⊢;split at h
  · rename_i hg;rw[if_pos hg];obtain⟨h1,h2⟩:=jq n (k+1) out ag (by omega) h
    exact⟨h1,fun j hj1 hj2 hj3=>by
     by_cases e:j=k
     · subst e;rw[hg] at hj3;cases hj3
     · exact h2 j (by omega) (by omega) hj3⟩
  · rename_i hg;rw[if_neg hg]
    have hf:out[k]? =some false:=by
     rw[List.getD_eq_getElem?_getD,List.getElem?_eq_getElem (by omega)] at hg;rw[List.getElem?_eq_getElem (by omega)];simpa using hg
    obtain⟨h1,h2⟩:=jq n (k+1) _ _ (by simp;omega) h
    have hb:cX d out k=false:=by
     cases hb:cX d out k with
     |false=>rfl
     |true =>
      exfalso;rw[hb,Bool.or_true] at h
      have hmono:∀(n k:Nat) (out:List Bool),(bO d n k out true).2=true:=fun n=>by
       induction n with
       |zero=>intro k out;rfl
       |succ n ih=>intro k out;rw[bO];split<;>simp[ih]
      rw[hmono] at h;cases h
    have hset:out.set k (cX d out k)=out:=by
     rw[hb]
     apply List.ext_getElem?
     intro j
     by_cases e:k=j
     · subst e;rw[List.getElem?_set_self (by omega),hf]
     · rw[List.getElem?_set_ne e]
    rw[hset] at h1 h2;rw[hset]
    exact⟨h1,fun j hj1 hj2 hj3=>by
     by_cases e:j=k
     · subst e;exact hb
     · exact h2 j (by omega) (by omega) hj3⟩
def vI (d:bD) (out:List Bool):Prop:=∀k,k<d.next.length->out.getD k false=false->cX d out k=false
theorem uf {d:bD}:∀(n:Nat) (out:List Bool),out.length=d.next.length->fY out<n->gU d out->gU d (pS d n out)/\vI d (pS d n out)
 | 0,_,_,h,_=>absurd h (Nat.not_lt_zero _)
 |n+1,out,hl,hf,hs=>by
  have hless:=gY d d.next.length 0 out false (by omega)
  have hsp:=jr d.next.length 0 out false hs
  rw[pS];split
  · rename_i ht
    rcases hless.2 ht with e|e
    · cases e
    · exact uf n _ (by rw[gw];exact hl) (by omega) hsp
  · rename_i ht;have hst:=jq d.next.length 0 out false (by omega) (by simpa using ht)
    rw[hst.1];exact⟨hs,fun k hk hko=>hst.2 k (Nat.zero_le _) (by omega) hko⟩
theorem qo {d:bD}{out:List Bool}(hok:d.Ok) (h:vI d out):∀(w:By) (k:Nat),k<d.next.length->0<=d.fB (k:Int) w->out.getD k false=true
 | [],k,hk,hw=>by
  rw[dx] at hw;cases ho:out.getD k false with
  |true=>rfl
  |false =>
   have:=h k hk ho;unfold cX at this;rw[decide_eq_true hw] at this;cases this
 |c::w,k,hk,hw=>by
  rw[dN] at hw;have ht:=bD.pz hok (s:=k) c
  have h0:0<=d.to k c:=by
   by_cases e:d.to k c<0
   · rw[kJ d w e] at hw;omega
   · omega
  obtain⟨t,htt⟩:=Int.eq_ofNat_of_zero_le h0;rw[htt] at hw;have ih:=qo hok h w t (by omega) hw;cases ho:out.getD k false with
  |true=>rfl
  |false =>
   have:=h k hk ho;unfold cX at this;rw[Bool.or_eq_false_iff] at this;have h2:=List.any_eq_false.1 this.2 _ (Kz c hk);unfold fV at h2;rw[htt,Int.toNat_natCast,ih] at h2;simp at h2
theorem ue {d:bD}(hok:d.Ok) (hk:k<d.next.length):(bf d).getD k false=true↔Ii d k:=by
 have h:=uf (d:=d) (d.next.length+1) (List.replicate d.next.length false) (by simp) (by
  have:fY (List.replicate d.next.length false)<=d.next.length:=by unfold fY;exact Nat.le_trans (List.length_filter_le _ _) (by simp)
  omega) (fun k hk=>by
   rw[List.getD_eq_getElem?_getD,List.getElem?_replicate] at hk;split at hk<;>cases hk)
 exact⟨h.1 k,fun⟨w,hw⟩=>qo hok h.2 w k hk hw⟩
structure DR (d:bD) (live:List Bool) (cls:List Int) (k:Nat) (seen:List (List Int)) (after:List Int):Prop where
 len:after.length=k
 once:seen.Nodup
 at_:∀j,j<k->∃i:Nat,after[j]? =some (i:Int)/\seen[i]? =some (eR d live cls j)
theorem uN:∀(ls:List (List Int)) (i:Nat) (l:List Int),jT i ls l=none->l∉ls
 | [],i,l,_=>List.not_mem_nil
 |x::r,i,l,h=>by
  rw[jT] at h;split at h
  · cases h
  · rename_i e;have:=uN r (i+1) l h;simp only[List.mem_cons,not_or];exact⟨e,this⟩
theorem kq {d:bD}{live:List Bool}{cls:List Int}:∀(n k:Nat) (seen:List (List Int)) (after:List Int),DR d live cls k seen after->DR d live cls (k+n) (aU d live cls n k seen after).1 (aU d live cls n k seen after).2
 | 0,k,seen,after,h=>h
 |n+1,k,seen,after,h=>by
  rw[aU,show k+(n+1)=(k+1)+n by omega];split
  · rename_i i hi;have hi':=oM seen 0 i _ hi;refine kq n (k+1) _ _ ⟨by simp[h.len],h.once,fun j hj=>?_⟩
    by_cases e:j=k
    · subst e;refine⟨i,?_,hi'.2⟩;rw[<-h.len,List.getElem?_concat_length]
    · obtain⟨i',h1,h2⟩:=h.at_ j (by omega);exact⟨i',by rw[List.getElem?_append_left (by rw[h.len];omega)];exact h1,h2⟩
  · rename_i hi;have hno:=uN seen 0 _ hi;refine kq n (k+1) _ _ ⟨by simp[h.len],List.nodup_append.2 ⟨h.once,by simp,fun a ha b hb e=>?_⟩,fun j hj=>?_⟩
    · have:b=eR d live cls k:=by simpa using hb
      rw[e,this] at ha;exact hno ha
    · by_cases e:j=k
      · subst e;refine⟨seen.length,?_,by rw[List.getElem?_concat_length]⟩;rw[<-h.len,List.getElem?_concat_length]
      · obtain⟨i',h1,h2⟩:=h.at_ j (by omega);exact⟨i',by rw[List.getElem?_append_left (by rw[h.len];omega)];exact h1,by rw[List.getElem?_append_left (List.getElem?_eq_some_iff.1 h2).1];exact h2⟩
theorem ku {d:bD}{live:List Bool}(hs:s<d.next.length) (ht:t<d.next.length) :
 (aU d live cls d.next.length 0 [] []).2.getD s 0=(aU d live cls d.next.length 0 [] []).2.getD t 0↔eR d live cls s=eR d live cls t:=by
 have h:=kq (d:=d) (live:=live) (cls:=cls) d.next.length 0 [] [] ⟨rfl,by simp,fun j hj=>absurd hj (Nat.not_lt_zero _)⟩
 rw[Nat.zero_add] at h;obtain⟨i,h1,h2⟩:=h.at_ s hs;obtain⟨j,h3,h4⟩:=h.at_ t ht;rw[List.getD_eq_getElem?_getD,List.getD_eq_getElem?_getD,h1,h3];constructor
 · intro e
   have:i=j:=by
    have e':(i:Int)=(j:Int):=e;omega
   subst this;rw[h2] at h4;exact Option.some.inj h4
 · intro e;rw[<-e] at h4;have hi:=(List.getElem?_eq_some_iff.1 h2)
   have hj:=(List.getElem?_eq_some_iff.1 h4)
   obtain⟨hi1,hi2⟩:=hi;obtain⟨hj1,hj2⟩:=hj
   have:i=j:=by
    rcases Nat.lt_trichotomy i j with e|e|e
    · exact absurd (hi2.trans hj2.symm) (List.pairwise_iff_getElem.1 h.once i j hi1 hj1 e)
    · exact e
    · exact absurd (hj2.trans hi2.symm) (List.pairwise_iff_getElem.1 h.once j i hj1 hi1 e)
   subst this;rfl
theorem rX:∀(m:Nat) (l:List Int),jF m l->l.length=m->l.Nodup
 | 0,l,_,hl=>by rw[List.length_eq_zero_iff.1 hl];exact List.Pairwise.nil
 |m+1,l,h,hl=>by
  have hm:=h m (Nat.lt_succ_self m);have h1:jF m (l.erase (m:Int)):=fun i hi=>(List.mem_erase_of_ne (by omega)).2 (h i (by omega))
  have h3:=List.length_erase_of_mem hm;have h2:=rX m _ h1 (by omega)
  have hno:(m:Int)∉l.erase (m:Int):=fun hin=>by
   have h4:jF m ((l.erase (m:Int)).erase (m:Int)):=fun i hi=>(List.mem_erase_of_ne (by omega)).2 (h1 i hi)
   have h5:=oP _ _ h4;have h6:=List.length_erase_of_mem hin;have h7:=List.length_pos_of_mem hin;omega
  exact(List.perm_cons_erase hm).nodup_iff.2 (List.nodup_cons.2 ⟨hno,h2⟩)
theorem pJ {d:bD}(hs:s<d.next.length) (c:UInt8):(d.row s)[c.toNat]? =some (d.to s c):=by
 have hr:d.next[s]? =some (d.next[s]'hs):=List.getElem?_eq_getElem _
 obtain⟨x,hx,he,_⟩:=(d.next[s]'hs).at c;unfold bD.row bD.to;rw[hr];simp only;rw[he];exact hx
theorem yq {d:bD}(hs:s<d.next.length):(d.row s).length=256:=by
 have hr:d.next[s]? =some (d.next[s]'hs):=List.getElem?_eq_getElem _
 unfold bD.row;rw[hr];exact(d.next[s]'hs).len
theorem Ds {d:bD}(hs:s<d.next.length) (ht:t<d.next.length) (f:Int->Int):(d.row s).map f=(d.row t).map f↔∀c:UInt8,f (d.to s c)=f (d.to t c):=by
 constructor
 · intro e c;have:=congrArg (fun l=>l[c.toNat]?) e;simp only[List.getElem?_map,pJ hs c,pJ ht c,Option.map_some,Option.some.injEq] at this;exact this
 · intro h
   apply List.ext_getElem?
   intro i
   by_cases hi:i<256
   · have hc:(UInt8.ofNat i).toNat=i:=by simp;omega
     have h1:=pJ hs (UInt8.ofNat i);have h2:=pJ ht (UInt8.ofNat i);rw[hc] at h1 h2;rw[List.getElem?_map,List.getElem?_map,h1,h2,Option.map_some,Option.map_some,h]
   · rw[List.getElem?_eq_none (by rw[List.length_map,yq hs];omega),List.getElem?_eq_none (by rw[List.length_map,yq ht];omega)]
def Alike (d:bD) (a b:Int):Prop:=∀w,d.fB a w=d.fB b w
theorem Dn {d:bD}(hok:d.Ok) (a:Int) (w:By) : -1<=d.fB a w:=by
 unfold bD.fB;split
 · omega
 · unfold bD.ru;rw[List.getD_eq_getElem?_getD];cases h:d.rule[(d.go w a).toNat]? with
   |none=>decide
   |some x=>exact(hok.ru x (List.mem_of_getElem? h)).1
theorem jy {d:bD}(hok:d.Ok){a:Int}(ha:a<d.next.length):(a<0\/(bf d).getD a.toNat false=false)↔∀w,d.fB a w= -1:=by
 constructor
 · intro h w
   rcases h with h|h
   · exact kJ d w h
   · by_cases hn:a<0
     · exact kJ d w hn
     · obtain⟨k,rfl⟩:=Int.eq_ofNat_of_zero_le (show 0<=a by omega);have hl:=ue hok (k:=k) (by omega);have hg:=Dn hok (k:Int) w
       by_cases hw:0<=d.fB (k:Int) w
       · rw[Int.toNat_natCast,hl.2 ⟨w,hw⟩] at h;cases h
       · omega
 · intro h
   by_cases hn:a<0
   · exact .inl hn
   · right
     obtain⟨k,rfl⟩:=Int.eq_ofNat_of_zero_le (show 0<=a by omega);have hl:=ue hok (k:=k) (by omega);rw[Int.toNat_natCast];cases hb:(bf d).getD k false with
     |false=>rfl
     |true =>
      obtain⟨w,hw⟩:=hl.1 hb;have:=h w;omega
structure sn (d:bD) (cls:List Int):Prop where
 len:cls.length=d.next.length
 ge:∀k,-1<=cls.getD k 0
 alike:∀s t:Nat,s<d.next.length->t<d.next.length->Alike d s t->cls.getD s 0=cls.getD t 0
 rule:∀s t:Nat,s<d.next.length->t<d.next.length->cls.getD s 0=cls.getD t 0->d.ru s=d.ru t
theorem zq {d:bD}(hok:d.Ok) (k:sn d cls){a b:Int}(ha:a<d.next.length) (hb:b<d.next.length) (h:Alike d a b):bW (bf d) cls a=bW (bf d) cls b:=by
 by_cases hd:a<0\/(bf d).getD a.toNat false=false
 · have hd':b<0\/(bf d).getD b.toNat false=false:=(jy hok hb).2 fun w=>by rw[<-h w];exact(jy hok ha).1 hd w
   rw[bW,if_pos hd,bW,if_pos hd']
 · have hd':¬(b<0\/(bf d).getD b.toNat false=false):=fun e=>hd ((jy hok ha).2 fun w=>by rw[h w];exact(jy hok hb).1 e w)
   rw[bW,if_neg hd,bW,if_neg hd']
   have ha0:0<=a:=by
    by_cases e:a<0
    · exact absurd (.inl e) hd
    · omega
   have hb0:0<=b:=by
    by_cases e:b<0
    · exact absurd (.inl e) hd'
    · omega
   exact k.alike a.toNat b.toNat (by omega) (by omega) (by rw[Int.toNat_of_nonneg ha0,Int.toNat_of_nonneg hb0];exact h)
theorem ET {d:bD}(hok:d.Ok) (k:sn d cls) (hs:s<d.next.length) (ht:t<d.next.length) (h:Alike d s t):eR d (bf d) cls s=eR d (bf d) cls t:=by
 unfold eR;rw[k.alike s t hs ht h,(Ds hs ht _).2 fun c=>zq hok k (bD.pz hok c).2 (bD.pz hok c).2 fun w=>by rw[<-dN,<-dN];exact h (c::w)]
theorem Ba {d:bD}{live:List Bool}(h:eR d live cls s=eR d live cls t):cls.getD s 0=cls.getD t 0:=by
 unfold eR at h;exact(List.cons.inj h).1
theorem Gs {d:bD}(hok:d.Ok) (k:sn d cls):sn d (aU d (bf d) cls d.next.length 0 [] []).2:=by
 have hend:=ey d (bf d) cls;refine⟨hend.len,fun j=>?_,fun s t hs ht h=>(ku hs ht).2 (ET hok k hs ht h),fun s t hs ht h=>k.rule s t hs ht (Ba ((ku hs ht).1 h))⟩;rw[List.getD_eq_getElem?_getD];cases hx:(aU d (bf d) cls d.next.length 0 [] []).2[j]? with
 |none=>decide
 |some x=>have:=hend.bound x (List.mem_of_getElem? hx);show -1<=x;omega
theorem sK {d:bD}(hok:d.Ok) (hs:s<d.next.length):d.rule.getD s 0=d.ru s:=by
 have hl:=hok.len;unfold bD.ru;rw[List.getD_eq_getElem?_getD,List.getD_eq_getElem?_getD,List.getElem?_eq_getElem (by omega)];rfl
theorem Gm {d:bD}(hok:d.Ok):sn d d.rule:=by
 refine⟨hok.len,fun k=>?_,fun s t hs ht h=>?_,fun s t hs ht h=>?_⟩
 · rw[List.getD_eq_getElem?_getD];cases hx:d.rule[k]? with
   |none=>decide
   |some x=>exact(hok.ru x (List.mem_of_getElem? hx)).1
 · rw[sK hok hs,sK hok ht];have:=h []
   rwa [dx,dx] at this
 · rwa [sK hok hs,sK hok ht] at h
theorem pE {d:bD}(hok:d.Ok){cls:List Int}(k:sn d cls) (hst:∀s t,s<d.next.length->t<d.next.length->cls.getD s 0=cls.getD t 0->eR d (bf d) cls s=eR d (bf d) cls t):∀(w:By) (s t:Nat),s<d.next.length->t<d.next.length->cls.getD s 0=cls.getD t 0->d.fB (s:Int) w=d.fB (t:Int) w
 | [],s,t,hs,ht,h=>by rw[dx,dx];exact k.rule s t hs ht h
 |c::w,s,t,hs,ht,h=>by
  rw[dN,dN];have hk:=hst s t hs ht h;unfold eR at hk;have hb:=(Ds hs ht _).1 (List.cons.inj hk).2 c;have ha:=(bD.pz hok (s:=s) c).2;have hb2:=(bD.pz hok (s:=t) c).2;generalize d.to s c=a at *;generalize d.to t c=b at *
  by_cases hd:a<0\/(bf d).getD a.toNat false=false
  · have hd':b<0\/(bf d).getD b.toNat false=false:=by
     by_cases e:b<0\/(bf d).getD b.toNat false=false
     · exact e
     · rw[bW,if_pos hd,bW,if_neg e] at hb;have:=k.ge b.toNat;omega
    rw[(jy hok ha).1 hd w,(jy hok hb2).1 hd' w]
  · by_cases hd':b<0\/(bf d).getD b.toNat false=false
    · rw[bW,if_neg hd,bW,if_pos hd'] at hb;have:=k.ge a.toNat;omega
    · rw[bW,if_neg hd,bW,if_neg hd'] at hb
      have ha0:0<=a:=by
       by_cases e:a<0
       · exact absurd (.inl e) hd
       · omega
      have hb0:0<=b:=by
       by_cases e:b<0
       · exact absurd (.inl e) hd'
       · omega
      have ih:=pE hok k hst w a.toNat b.toNat (by omega) (by omega) hb
      rwa [Int.toNat_of_nonneg ha0,Int.toNat_of_nonneg hb0] at ih
theorem rZ {d:bD}(hok:d.Ok):∀(n many:Nat) (cls:List Int),sn d cls->jF many cls->many<=d.next.length->d.next.length+1<=n+many->sn d (kB d (bf d) n many cls)/\∀s t:Nat,s<d.next.length->t<d.next.length->(kB d (bf d) n many cls).getD s 0=(kB d (bf d) n many cls).getD t 0->Alike d s t
 | 0,many,cls,k,hc,hm,hf=>by omega
 |n+1,many,cls,k,hc,hm,hf=>by
  have hend:=ey d (bf d) cls;have hmore:=mV (live:=bf d) hc k.len;have hp:=Gs hok k;rw[kB];split
  · rename_i he;refine⟨hp,fun s t hs ht h w=>?_⟩;have hkey:=(ku hs ht).1 h;refine pE hok k (fun s t hs ht h=>?_) w s t hs ht (Ba hkey)
    have hcov:jF many ((aU d (bf d) cls d.next.length 0 [] []).1.map fun s=>s.getD 0 0):=fun i hi=>by
     obtain⟨k',hk'⟩:=List.getElem?_of_mem (hc i hi);have hkl:=(List.getElem?_eq_some_iff.1 hk').1;have:=hend.all k' (by have:=k.len;omega);refine List.mem_map.2 ⟨_,this,?_⟩;simp[eR,List.getD_eq_getElem?_getD,hk']
    have hon:=rX many _ hcov (by simpa using he);obtain⟨i,hi⟩:=List.getElem?_of_mem (hend.all s hs);obtain⟨j,hj⟩:=List.getElem?_of_mem (hend.all t ht);have h1:((aU d (bf d) cls d.next.length 0 [] []).1.map fun s=>s.getD 0 0)[i]? =some (cls.getD s 0):=by rw[List.getElem?_map,hi];rfl
    have h2:((aU d (bf d) cls d.next.length 0 [] []).1.map fun s=>s.getD 0 0)[j]? =some (cls.getD s 0):=by rw[List.getElem?_map,hj,h];rfl
    obtain⟨hi1,hi2⟩:=List.getElem?_eq_some_iff.1 h1;obtain⟨hj1,hj2⟩:=List.getElem?_eq_some_iff.1 h2
    have hij:i=j:=by
     rcases Nat.lt_trichotomy i j with e|e|e
     · exact absurd (hi2.trans hj2.symm) (List.pairwise_iff_getElem.1 hon i j hi1 hj1 e)
     · exact e
     · exact absurd (hj2.trans hi2.symm) (List.pairwise_iff_getElem.1 hon j i hj1 hi1 e)
    subst hij;rw[hi] at hj;exact Option.some.inj hj
  · rename_i hne;have hsz:=hend.size;exact rZ hok n _ _ hp hend.nums hsz (by omega)
theorem mW {d:bD}(hok:d.Ok) (hs:s<d.next.length) (ht:t<d.next.length):(dH d (bf d)).getD s 0=(dH d (bf d)).getD t 0↔Alike d s t:=by
 have h:=rZ hok (d.next.length+1) 0 d.rule (Gm hok) (fun i hi=>absurd hi (Nat.not_lt_zero _)) (Nat.zero_le _) (by omega);exact⟨h.2 s t hs ht,h.1.alike s t hs ht⟩
def iK (B:Nat) (ss:List aX):Prop:=∀x∈ss,x.rule<=B
theorem iK.snoc {B:Nat}(k:iK B ss){x:aX}(h:x.rule<=B):iK B (ss++[x]):=fun y hy=>by
 rcases List.mem_append.1 hy with e|e
 · exact k y e
 · have:y=x:=by simpa using e
   rw[this];exact h
theorem iK.set {B:Nat}{ss:List aX}(k:iK B ss){x:aX}(h:x.rule<=B) (i:Nat):iK B (ss.set i x):=fun y hy=>by
 rcases List.mem_or_eq_of_mem_set hy with e|e
 · exact k y e
 · rw[e];exact h
end
mutual
theorem yN (B:Nat):∀(x:Nd) (ss:List aX) (to:Nat),iK B ss->iK B (lay x ss to).1
 |.mk k s kids,ss,to,h=>by
  rw[lay];split
  · exact h.snoc (Nat.zero_le _)
  · split
    · exact xj B kids ss to h
    · split
      · exact(xl B kids ss to h).snoc (Nat.zero_le _)
      · split
        · exact(xh B kids ss to h).snoc (Nat.zero_le _)
        · split
          · exact(xh B kids _ _ (h.snoc (Nat.zero_le _))).set (Nat.zero_le _) _
          · exact h
theorem xj (B:Nat):∀(l:List Nd) (ss:List aX) (to:Nat),iK B ss->iK B (bg l ss to).1
 | [],ss,to,h=>by rw[bg];exact h
 |x::r,ss,to,h=>by rw[bg];exact yN B x _ _ (xj B r ss to h)
theorem xl (B:Nat):∀(l:List Nd) (ss:List aX) (to:Nat),iK B ss->iK B (aM l ss to).1
 | [],ss,to,h=>by rw[aM];exact h
 |x::r,ss,to,h=>by rw[aM];exact xl B r _ to (yN B x ss to h)
theorem xh (B:Nat):∀(l:List Nd) (ss:List aX) (to:Nat),iK B ss->iK B (bR l ss to).1
 | [],ss,to,h=>by rw[bR];exact h
 |x::r,ss,to,h=>by rw[bR];exact yN B x ss to h
end
section
variable {ss:List aX}{st s k t:Nat}{cls:List Int}
theorem AV (B:Nat):∀(i:Nat) (rules:List By) (ss:List aX) (t:List Nat) (ss':List aX) (t':List Nat),i+rules.length<=B->iK B ss->kN i rules ss t= .inr (ss',t')->iK B ss'
 |i,[],ss,t,ss',t',_,h,hm=>by
  rw[kN] at hm;cases hm;exact h
 |i,s::r,ss,t,ss',t',hB,h,hm=>by
  rw[List.length_cons] at hB;rw[kN] at hm;split at hm
  · cases hm
  · exact AV B (i+1) r _ _ ss' t' (by omega) (yN B _ _ _ (h.snoc (by show i<=B;omega))) hm
theorem GO {rules:List By}(h:eG rules= .inr (ss,st)):∀x∈ss,x.rule<=1000000:=by
 unfold eG at h;split at h
 · cases h
 · rename_i hn;split at h
   · cases h
   · rename_i ss1 t1 hg;split at h
     · cases h
     · cases h;have:=AV 64 0 rules [] [] ss1 t1 (by omega) (fun x hx=>(by cases hx)) hg;intro x hx;have:=(this.snoc (x:=⟨0,0,t1,0⟩) (Nat.zero_le _)) x hx;omega
end
end Go.Proofs.YtdgckfkoihcmjaaGreatDoor
namespace Go.Proofs.YtdgckfkoihcmjaaGreatDoor
open Go Go.Lw
set_option maxRecDepth 20000
def lM (rules:List By):Int ⊕ bD:=match eG rules with
  |.inl e=>.inl e
  |.inr (ss,st)=>fZ ss st
theorem nI {rules:List By}{d:bD}(h:lM rules= .inr d):d.Ok/\0<d.next.length:=by
  unfold lM at h;split at h
  · cases h
  · rename_i ss st hm;refine⟨Fe h (GO hm),?_⟩;obtain⟨_,L,_,h2,h3⟩:=iS h;omega
theorem Ae {rules:List By}{d:bD}(h:lM rules= .inr d) (s:By) (a:Int):((cN d s a).1,(cN d s a).2.1)=yG rules s a:=by
  have hd:=(nI h).2;unfold lM at h;split at h
  · cases h
  · rename_i ss st hm;have hst:=(fU hm).stl;unfold yG CA cN;rw[hm];simp only
    by_cases ha:a<0\/(s.length:Int)<a
    · rw[if_pos (.inr ha),if_pos (.inr ha)]
    · rw[if_neg (by omega),if_neg (by omega)];exact ql h (by omega) _
end Go.Proofs.YtdgckfkoihcmjaaGreatDoor

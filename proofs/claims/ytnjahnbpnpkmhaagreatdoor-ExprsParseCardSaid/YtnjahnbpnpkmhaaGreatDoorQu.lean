/- Part 21. -/
import Derived.Lib.ItoaLen
import Derived.Test.YtnjahnbpnpkmhaaGreatDoorQt

namespace Go.Proofs.YtnjahnbpnpkmhaaGreatDoor
open Go
def gV (l:List Int):By:=l.flatMap λn=>Lib.itoa n++[32]
theorem ud (u:Nat):∀c∈Lib.decDigits u,48<=c.toNat/\c.toNat<=57:=by
  induction u using Nat.strongRecOn with
  |_ u ih =>
    intro c hc;rw[Lib.decDigits] at hc;split at hc
    · rename_i h;simp at hc;subst hc;simp;omega
    · rename_i h
      rcases List.mem_append.1 hc with k|k
      · exact ih (u / 10) (by omega) c k
      · simp at k;subst k;have:u%10<10:=Nat.mod_lt _ (by decide);simp;omega
def JS (l:By):Nat:=l.foldl (λa c=>a*10+(c.toNat-48)) 0
theorem vX (u:Nat):JS (Lib.decDigits u)=u:=by
  induction u using Nat.strongRecOn with
  |_ u ih =>
    rw[Lib.decDigits];split
    · rename_i h;simp[JS];omega
    · rename_i h;have h1:=ih (u / 10) (by omega);unfold JS at h1 ⊢;rw[List.foldl_append,h1];have:u%10<10:=Nat.mod_lt _ (by decide);simp;omega
theorem xO (n:Int):∀c∈Lib.itoa n,c≠32:=by
  intro c hc e;subst e;unfold Lib.itoa at hc;split at hc
  · rcases List.mem_cons.1 hc with k|k
    · cases k
    · have:=(ud _ _ k).1;simp at this
  · have:=(ud _ _ hc).1;simp at this
theorem JA {m n:Int}(h:Lib.itoa m=Lib.itoa n):m=n:=by
  have neg:∀a b:Nat,45::Lib.decDigits a≠Lib.decDigits b:=λa b e=>by
    have:(45:UInt8)∈Lib.decDigits b:=by rw[<-e];exact List.mem_cons_self
    have:=(ud _ _ this).1;simp at this
  unfold Lib.itoa at h;split at h<;>split at h
  · have h:=congrArg JS (List.cons.inj h).2;rw[vX,vX] at h;omega
  · exact absurd h (neg _ _)
  · exact absurd h.symm (neg _ _)
  · have h:=congrArg JS h;rw[vX,vX] at h;omega
theorem vg:∀(a b r s:By),(∀c∈a,c≠32)->(∀c∈b,c≠32)->a++32::r=b++32::s->a=b/\r=s
  | [],[],r,s,_,_,h=>by simpa using h
  | [],d::b,r,s,_,J,h=>by
    simp only[List.nil_append,List.cons_append,List.cons.injEq] at h;exact absurd h.1.symm (J d List.mem_cons_self)
  |c::a,[],r,s,U,_,h=>by
    simp only[List.nil_append,List.cons_append,List.cons.injEq] at h;exact absurd h.1 (U c List.mem_cons_self)
  |c::a,d::b,r,s,U,J,h=>by
    simp only[List.cons_append,List.cons.injEq] at h;have:=vg a b r s (λx I=>U x (List.mem_cons_of_mem _ I)) (λx I=>J x (List.mem_cons_of_mem _ I)) h.2;exact⟨by rw[h.1,this.1],this.2⟩
theorem key_inj:∀{l m:List Int},gV l=gV m->l=m
  | [],[],_=>rfl
  | [],n::m,h=>by
    have:=congrArg List.length h;simp[gV] at this
  |n::l,[],h=>by
    have:=congrArg List.length h;simp[gV] at this
  |n::l,k::m,h=>by
    have h':Lib.itoa n++32::gV l=Lib.itoa k++32::gV m:=by simpa [gV] using h
    obtain⟨h1,I⟩:=vg _ _ _ _ (xO n) (xO k) h';rw[JA h1,key_inj I]
theorem Bz:∀(l:List Int),(∀n∈l,-9223372036854775808<=n/\n<=9223372036854775807)->(gV l).length<=22*l.length
  | [],_=>by simp[gV]
  |n::l,h=>by
    have h1:=Bz l (λx J=>h x (List.mem_cons_of_mem _ J));have I:=h n List.mem_cons_self;have h2:=Lib.itoa_length_le n I.1 I.2;have e:gV (n::l)=Lib.itoa n++[32]++gV l:=rfl;have U:(gV (n::l)).length=(Lib.itoa n).length+1+(gV l).length:=by rw[e,List.length_append,List.length_append];rfl
    rw[U,List.length_cons];omega
theorem Jy (l:List Int) (n:Int):gV (l++[n])=gV l++Lib.itoa n++[32]:=by simp[gV]
end Go.Proofs.YtnjahnbpnpkmhaaGreatDoor
namespace Go.Proofs.YtnjahnbpnpkmhaaGreatDoor
open Go.Proofs.Tryz
open Go Go.Lw
set_option maxRecDepth 20000 set_option maxHeartbeats 4000000
section
variable {h:aq}{b:Nat}{v:Value}{l:List UInt8}
theorem bInfo:∃j,prog.info? 167=some j/\j.size≠0:=⟨_,rfl,by decide⟩
theorem Mo:∃i,prog.info? 5=some i/\i.zero=some (.int .u8 0)/\i.size=1/\i.bytes=1:=⟨_,rfl,rfl,rfl,rfl⟩
theorem OJ:liesAt prog prog.depth 167 (2 / prog.cellsOf 167) 0 167 1=true:=by kernel_rfl
theorem KE:prog.cellsOf 5=1:=by kernel_rfl
theorem vB (I:aC h b 167 [.pointer none,v]) :
 au prog 118 #[.pointer (some ⟨b,0,none⟩)] h (bK λ_ h'=>aC h' b 167 [.pointer (some ⟨b,0,none⟩),v]/\Ext (λi=>i=b) h h'/\h'.size=h.size):=by
 obtain⟨j,hj,Y⟩:=bInfo;refine bJ ?_;refine af ?_;refine xp rfl (aA rfl (I.cell (i:=0) rfl)) (xp rfl (az.tY underlying165 rfl rfl) ?_);refine af ?_;refine dc rfl (by decide) (cI ?_)
 iterate 2 refine aR ?_
 refine xp rfl (az.Ii underlying165 underlying217 hj Y I (by simp) rfl) (xp rfl (az.Jb func136 (by decide +kernel) (by kernel_rfl) (by kernel_rfl) (by kernel_rfl) rfl) (xp rfl (az.ES underlying217 underlying165 hj I OJ rfl) ?_));refine af ?_;refine aO rfl (iG rfl rfl I) ?_;rintro _ h1 ⟨rfl,Z,J,U⟩;refine af ?_;refine D4 ?_;exact⟨_,rfl,Z,J,U⟩
theorem yl (I:aC h b 167 [.pointer (some ⟨b,0,none⟩),v]) :
 au prog 118 #[.pointer (some ⟨b,0,none⟩)] h (bK λ_ h'=>aC h' b 167 [.pointer (some ⟨b,0,none⟩),v]/\Ext (λi=>i=b) h h'/\h'.size=h.size):=by
 obtain⟨j,J,hj0⟩:=bInfo;refine bJ ?_;refine af ?_;refine xp rfl (aA rfl (I.cell (i:=0) rfl)) (xp rfl (az.tY underlying165 rfl rfl) ?_);refine af ?_;refine dB rfl Bool.false_ne_true ?_;refine af ?_;refine xp rfl (aA rfl (I.cell (i:=0) rfl)) (aR (xp rfl (az.EB underlying165 J rfl rfl) ?_));refine af ?_;refine dB rfl Bool.false_ne_true ?_;refine af ?_;refine D4 ?_;exact⟨_,rfl,I,Ext.refl _ _,rfl⟩
theorem jz {p:Value}(I:aC h b 167 [p,v]) (J:p= .pointer none\/p= .pointer (some ⟨b,0,none⟩)) :
 au prog 118 #[.pointer (some ⟨b,0,none⟩)] h (bK λ_ h'=>aC h' b 167 [.pointer (some ⟨b,0,none⟩),v]/\Ext (λi=>i=b) h h'/\h'.size=h.size):=by
 rcases J with rfl|rfl
 · exact vB I
 · exact yl I
theorem dY (s:ByteArray) (hb:mg h b 167 5 l) (hl:l.length+s.size<=140737488355328) :
 au prog 83 #[.pointer (some ⟨b,0,none⟩),.string s] h (bK λr h'=>r= .tuple #[.int .i64 s.size,.nilIface]/\mg h' b 167 5 (l++s.data.toList)/\Ext (λi=>b<=i) h h'):=by
 obtain⟨i,hi,ak,ag,ae⟩:=Mo;obtain⟨p,v,hk,hp,hv⟩:=hb;have hlt:=hk.lt;refine bJ ?_;refine af ?_;refine xo rfl (aE rfl (jz hk hp)) ?_;rintro _ h1 ⟨aa,Z,hs1⟩;refine af ?_;have I:Fk h1 (b+1) 5 v l:=aB.ext Z hv (λg hg=>by have:=oS hv g hg.symm;omega);refine xp rfl (aA rfl (aa.cell (i:=1) rfl)) ?_;refine af ?_;refine xo rfl (aV.HL underlying90 underlying9 hi ak ag ae rfl rfl I hl (by omega)) ?_;rintro v2 h2 ⟨J,Y⟩;refine af ?_;have ad:=aa.ext Y (λhm=>by have:=oS I b hm;omega);obtain⟨oa2,c2,rfl,-⟩:=aB.open J;refine aO rfl (iG rfl rfl ad) ?_;rintro _ h3 ⟨rfl,ac,U,hs3⟩;refine af ?_;refine aP ?_;have ab:Fk h3 (b+1) 5 _ (l++s.data.toList):=aB.ext U J (λg hg=>by have:=oS J g hg.symm;omega);exact⟨_,rfl,rfl,⟨_,_,ac,.inr rfl,ab⟩,((Z.mono (λ_ _ k=>by show b<=_;omega)).trans (Y.mono (λg _ k=>by have:=oS I g k;show b<=g;omega))).trans (U.mono (λ_ _ k=>by show b<=_;omega))⟩
theorem mg.ah {h h':aq}{b:Nat}{l:List UInt8}(k:mg h b 167 5 l) (e:aj h h'):mg h' b 167 5 l:=by
 obtain⟨p,v,hk,J,I⟩:=k;exact⟨p,v,hk.ah e,J,bN.ah I e⟩
theorem lV (hb:mg h b 167 5 l) (hl:l.length<=140737488355328) :
 au prog 86 #[.pointer (some ⟨b,0,none⟩)] h (bK λr h'=>r= .string ⟨l.toArray⟩/\Ext (λi=>b<=i) h h'):=by
 obtain⟨p,v,hk,hp,hv⟩:=hb;obtain⟨oa,c,rfl,hw⟩:=aB.open hv;have hc1:=hk.cell (i:=1) rfl;refine bJ ?_;refine af ?_;refine jK 12 (λi=>b+1<=i) (λi=>Nat.blt i 12) ?_;refine aF 0 ?_;refine aF 1 ?_;refine aF 2 ?_;refine bq 3 rfl (λh' e=>aA rfl (e.cell (by show ¬b+1<=b;omega) hc1)) ?_;refine aF 5 ?_;refine aF 6 ?_;refine aF 7 ?_;refine bq 8 rfl (λh' e=>aA rfl (e.cell (by show ¬b+1<=b;omega) hc1)) ?_;refine aF 9 ?_;refine cV 4 rfl (aV.GG underlying197 rfl hv) ?_;rintro u h1 ⟨⟨q,rfl,hs⟩,he⟩;refine⟨λ_=>he.of,?_⟩;refine cV 10 rfl (ur underlying197 KE rfl rfl hs hl) ?_;rintro _ h2 ⟨rfl,hx2⟩;refine⟨λ_=>hx2,?_⟩;refine aF 11 ?_;refine fV ?_;refine aP ?_;exact⟨_,rfl,rfl,(aj.of he).trans (hx2.mono (λg _ k=>by have:b+1<=g:=k;show b<=g;omega))⟩
def vI (h:aq):Prop:=Cl prog h "internal/strconv.uint64pow10" =some (Lib.pow10Tab.map λz=>Value.int .u64 z).toArray
theorem vI.ah {h':aq}(k:vI h) (e:aj h h'):vI h':=Eh e k
theorem EP (J:vI h) (n:Int) (I : -9223372036854775808<=n/\n<=9223372036854775807) :
 au prog 84 #[.int .i64 n] h (bK λr h'=>r= .string (bs (Lib.itoa n))/\aj h h'):=by
 refine au.Bl λw hw=>?_
 subst hw;refine(th n I.1 I.2 w J).mono ?_;rintro e w' ⟨rfl,k,os,rfl⟩;refine⟨_,rfl,⟨rfl,?_⟩,rfl,rfl,rfl⟩;refine⟨by simp[Go.Sort.grow],λb U _=>?_⟩;simp[Go.Sort.grow,Array.getElem?_append_left U]
theorem gp (c:UInt8) (hb:mg h b 167 5 l) (hl:l.length<=900000000) :
 au prog 85 #[.pointer (some ⟨b,0,none⟩),.int .u8 (c.toNat:Nat)] h (bK λ_ h'=>mg h' b 167 5 (l++[c])/\Ext (λg=>b<=g) h h'):=by
 obtain⟨p,v,hk,hp,hv⟩:=hb;have hlt:=hk.lt;refine bJ ?_;refine af ?_;refine xo rfl (aE rfl (jz hk hp)) ?_;rintro _ h1 ⟨ab,Z,hs1⟩;refine af ?_;have J:Fk h1 (b+1) 5 v l:=aB.ext Z hv (λg hg=>by have:=oS hv g hg.symm;omega);refine xp rfl (aA rfl (ab.cell (i:=1) rfl)) ?_;refine af ?_;refine xo rfl (iD [_]) ?_;rintro _ _ ⟨rfl,rfl⟩;refine xo rfl (vL rfl rfl J rfl rfl) ?_;rintro v2 h2 ⟨aa,Y,hx2',hv2⟩;have ad:=ab.ext Y (λhm=>by have:=oS J b hm;omega);have I:Fk h2 (b+1) 5 v2 (l++[c]):=bN.of (ys:=[c]) aa rfl rfl rfl;obtain⟨oa2,c2,rfl,-⟩:=aa.open;refine af ?_;refine aO rfl (iG rfl rfl ad) ?_;rintro _ h3 ⟨rfl,ac,U,hs3⟩;refine af ?_;refine aP ?_;exact⟨_,rfl,⟨_,_,ac,.inr rfl,aB.ext U I (λg hg=>by have:=oS I g hg.symm;omega)⟩,((Z.mono (λ_ _ k=>by show b<=_;omega)).trans (Y.mono (λg _ k=>by have:=oS J g k;show b<=g;omega))).trans (U.mono (λ_ _ k=>by show b<=_;omega))⟩
theorem tQ {O:Nat->Prop}(hg:vI h){l:List Int}(hv:aL (.int .i64) h O v l) (hl:l.length<=1000000) (Y:∀n∈l,-9223372036854775808<=n/\n<=9223372036854775807) :
 au prog 46 #[v] h (bK λr h'=>r= .string (bs (gV l))/\aj h h'):=by
 obtain⟨oa,n,c,rfl,ac⟩:=hv.open;have hn:=ac.len;refine bJ ?_;refine af ?_;refine xo rfl (cL) ?_;rintro _ h0 ⟨rfl,am,ao,hs0⟩;refine af ?_;have aw:mg h0 h.size 167 5 []:=yV am;refine fK (σ:=Nat) (λi=>[(8,.int .i64 (i:Nat))]) (λi h'=>i<=n/\aj h h'/\mg h' h.size 167 5 (gV (l.take i))/\h0.size<=h'.size) (λi=>n-i) (0) ⟨Nat.zero_le _,ao,aw,Nat.le_refl _⟩ rfl ?_;rintro i g ⟨hi,I,U,hgz⟩ ih;have hlen:=Bz (l.take i) (λx hx=>Y x (List.mem_of_mem_take hx));rw[List.length_take] at hlen;refine af ?_;refine aN (λal=>?_) (λal=>?_)
 · obtain⟨b1,o1,x,ag,_,hx,ap⟩:=(ac.mv (Mv.ah I)).at (show i<n by omega);have J:=Y x (List.mem_of_getElem? hx);have hil:=Lib.itoa_length_le x J.1 J.2;have hbsz:=aJ (Lib.itoa x);have ad:(bs (Lib.itoa x)).data.toList=Lib.itoa x:=by simp[bs]
   have ak:gV (l.take (i+1))=gV (l.take i)++(bs (Lib.itoa x)).data.toList++[32]:=by rw[List.take_add_one,hx,Option.toList_some,Jy,ad]
   iterate 4 refine aQ ?_
   refine cI (xp rfl (bZ rfl rfl i rfl ag) (xp rfl (aA rfl ap) ?_));refine af ?_;refine xo rfl (aE rfl (EP (hg.ah I) x J)) ?_;rintro _ g1 ⟨rfl,e1⟩;refine xo rfl (aE rfl (dY (bs (Lib.itoa x)) (mg.ah U e1) (by omega))) ?_;rintro _ g2 ⟨rfl,ar,aa⟩;refine af ?_;refine xo rfl (aE rfl (gp 32 ar (by rw[List.length_append,ad];omega))) ?_;rintro _ g3 ⟨ae,Z⟩;refine af ?_;have z1:=e1.size;have z2:=aa.size;have z3:=Z.size;rw[<-ak] at ae
   have e3:aj h g3:=⟨by have:=I.size;omega,λb Y k=>by
    rw[Z.block b (by have:=I.size;omega) (by show ¬_<=_;omega),aa.block b (by have:=I.size;omega) (by show ¬_<=_;omega),e1.block b (by have:=I.size;omega) (λk=>k)];exact I.block b Y k⟩
   exact ih (i+1) ⟨by omega,e3,ae,by omega⟩
 · have an:l.take i=l:=List.take_of_length_le (by omega);rw[an] at U;have hkl:=Bz l Y;refine af ?_;refine xo rfl (aE rfl (lV U (by omega))) ?_;rintro _ g1 ⟨rfl,ab⟩;refine af ?_;refine aP ?_;exact⟨_,rfl,rfl,⟨by have:=ab.size;have:=I.size;omega,λb Y k=>by rw[ab.block b (by have:=I.size;omega) (by show ¬_<=_;omega)];exact I.block b Y k⟩⟩
end
end Go.Proofs.YtnjahnbpnpkmhaaGreatDoor
namespace Go.Proofs.YtnjahnbpnpkmhaaGreatDoor
open Go
structure Row where
  v:List Int
  len:v.length=256
structure bW where
  next:List Row
  rule:List Int
def bW.to (d:bW) (s:Nat) (c:UInt8):Int:=match d.next[s]? with|some r=>r.v.getD c.toNat (-1)|none=> -1
def bW.ru (d:bW) (s:Nat):Int:=d.rule.getD s (-1)
structure bW.Ok (d:bW):Prop where
  len:d.rule.length=d.next.length
  size:d.next.length<=2000
  to:∀r∈d.next,∀x∈r.v,-1<=x/\x<d.next.length
  ru:∀x∈d.rule,-1<=x/\x<=1000000
theorem Row.at {r:Row}(c:UInt8):∃x,r.v[c.toNat]? =some x/\r.v.getD c.toNat (-1)=x/\x∈r.v:=by
  have h:=r.len;have hc:=c.toNat_lt;have I:r.v[c.toNat]? =some (r.v[c.toNat]'(by omega)):=List.getElem?_eq_getElem (by omega);exact⟨_,I,by rw[List.getD_eq_getElem?_getD,I];rfl,List.getElem_mem _⟩
theorem bW.rX {d:bW}(k:d.Ok){s:Nat}(c:UInt8) : -1<=d.to s c/\d.to s c<d.next.length:=by
  unfold bW.to;cases h:d.next[s]? with
  |none=>simp only;omega
  |some r =>
    obtain⟨x,hx,he,hm⟩:=r.at c;simp only;rw[he];exact k.to r (List.mem_of_getElem? h) x hm
def aT (d:bW):By->Nat->Nat->Int×Int->Int×Int×Int
  | [],st,k,b=>if 0<=d.ru st then (k,d.ru st,k) else (b.1,b.2,k)
  |c::l,st,k,b =>
    if 0<=d.to st c then aT d l (d.to st c).toNat (k+1) (if 0<=d.ru st then (k,d.ru st) else b)
    else if 0<=d.ru st then (k,d.ru st,k) else (b.1,b.2,k)
def dH (d:bW) (s:By) (a:Int):Int×Int×Int:=if d.next.length=0\/a<0\/(s.length:Int)<a then (0,-1,0) else aT d (s.drop a.toNat) 0 0 (0,-1)
end Go.Proofs.YtnjahnbpnpkmhaaGreatDoor
namespace Go.Proofs.YtnjahnbpnpkmhaaGreatDoor
open Go.Proofs.Tryz
open Go Go.Lw
set_option maxRecDepth 20000 set_option maxHeartbeats 4000000
section
variable {h:aq}
def cw (r:Row):List Value:=r.v.map (.int .i64)
@[simp] theorem nM (r:Row):(cw r).length=256:=by simp[cw,r.len]
def F4:gW Row:=.record 256 (by decide) cw nM (λr v hv=>by simp[cw] at hv;obtain⟨_,_,rfl⟩:=hv;rfl)
def qK (h:aq) (db:Nat) (d:bW):Prop :=
 ∃vn vr,aC h db 122 [vn,vr]/\aL F4 h (λ_=>False) vn d.next/\aL (.int .i64) h (λ_=>False) vr d.rule
theorem qK.ah {h h':aq}{db:Nat}{d:bW}(k:qK h db d) (e:aj h h'):qK h' db d:=by
 obtain⟨vn,vr,h1,J,I⟩:=k;exact⟨vn,vr,h1.ah e,J.mv (Mv.ah e),I.mv (Mv.ah e)⟩
def Mi (h:aq) (p:Value) (d:bW):Prop:=(p= .pointer none/\d=⟨[],[]⟩)\/∃db,p= .pointer (some ⟨db,0,none⟩)/\qK h db d
theorem HB:au prog 49 #[.pointer none] h (bK λr h'=>r= .bool true/\h'=h):=by
 refine bJ ?_;refine aQ ?_;refine cI ?_;refine aR ?_;refine cO ?_;refine aQ ?_;refine dU [(2,.bool true)] rfl ?_ ?_
 · refine aR ?_;refine xp rfl (az.tY underlying75 rfl rfl) ?_;refine af ?_;refine RW.bw (d:=5) (b':=true) rfl (rfl) ?_;refine af ?_;exact aD rfl ⟨ai rfl (rfl),sb rfl⟩
 · refine aP ?_;exact⟨_,rfl,rfl,rfl⟩
theorem DI {db:Nat}{d:bW}(k:qK h db d):au prog 49 #[.pointer (some ⟨db,0,none⟩)] h (bK λr h'=>r= .bool (decide (d.next.length=0))/\h'=h):=by
 obtain⟨vn,vr,hk,⟨na,nn,nc,rfl,hnl,_⟩,h2⟩:=k;refine bJ ?_;refine aQ ?_;refine cI ?_;refine aR ?_;refine cO ?_;refine aQ ?_;refine dU [(2,.bool (decide (d.next.length=0)))] rfl ?_ ?_
 · refine aR ?_;refine xp rfl (az.tY underlying75 rfl rfl) ?_;refine af ?_;refine RW.bw (d:=5) (b':=false) rfl (rfl) ?_;refine af ?_;refine xp rfl (aA rfl (hk.cell (i:=0) rfl)) ?_;refine af ?_;exact aD rfl ⟨ai rfl (by simp only[decide_eq_decide];omega),sb rfl⟩
 · refine aP ?_;exact⟨_,rfl,rfl,rfl⟩
theorem DH {p:Value}{d:bW}(k:Mi h p d):au prog 49 #[p] h (bK λr h'=>r= .bool (decide (d.next.length=0))/\h'=h):=by
 rcases k with ⟨rfl,rfl⟩|⟨db,rfl,k⟩
 · exact HB
 · exact DI k
theorem BJ {p:Value}{d:bW}{s:By}{a:Int}(k:Mi h p d) (hok:d.Ok) (hs:s.length<=1000000) :
 au prog 120 #[p,.string (bs s),.int .i64 a] h (bK λr h'=>r= .tuple #[.int .i64 (dH d s a).1,.int .i64 (dH d s a).2.1,.int .i64 (dH d s a).2.2]/\h'=h):=by
 have hbs:=aJ s;refine bJ ?_;refine aQ ?_;refine cI ?_
 iterate 3 refine aR ?_
 refine cO ?_;refine aQ ?_;refine cI ?_;refine aR ?_;refine cO ?_
 iterate 2 refine aQ ?_
 refine dU [(22,.bool (decide (d.next.length=0\/a<0\/(s.length:Int)<a)))] rfl ?_ ?_
 · refine af ?_;refine xo rfl (aE rfl (DH k)) ?_;rintro _ h0 ⟨rfl,hh0⟩;subst hh0;refine af ?_;refine cX 13 (λhg=>?_) (λhg=>?_)
   · have hg':=of_decide_eq_true hg;refine af ?_;exact aD rfl ⟨ai rfl (by simp[hg']),sb rfl⟩
   · have hg':=of_decide_eq_false hg;refine af ?_;refine cX 17 (λhg2=>?_) (λhg2=>?_)
     · have hg2':=of_decide_eq_true hg2;refine af ?_;exact aD rfl ⟨ai rfl (by simp[hg2']),sb rfl⟩
     · have hg2':=of_decide_eq_false hg2;refine af ?_;exact aD rfl ⟨ai rfl (by simp only[decide_eq_decide];omega),sb rfl⟩
 · refine aN (λhz=>?_) (λhz=>?_)
   · refine af ?_;refine aP ?_;rw[dH,if_pos hz];exact⟨_,rfl,rfl,rfl⟩
   · obtain⟨k0,rfl⟩:=Int.eq_ofNat_of_zero_le (show 0<=a by omega);have hk0:k0<=s.length:=by omega
     have hma:dH d s (k0:Nat)=aT d (s.drop k0) 0 0 (0,-1):=by rw[dH,if_neg hz];rfl
     rw[hma];generalize htgt:aT d (s.drop k0) 0 0 (0,-1)=tgt
     rcases k with ⟨_,rfl⟩|⟨db,rfl,vn,vr,hk,⟨na,nn,nc,rfl,hnl,_,_,hgetn⟩,⟨ra,rn,rc,rfl,hrl,_,_,hgetr⟩⟩
     exact absurd (.inl rfl) hz;have hlen:=hok.len;have hsize:=hok.size;refine af ?_;refine Kt (σ:=Int×Nat×Int×Int) (λq=>[(0,.pointer (some ⟨db,0,none⟩)),(1,.string (bs s)),(2,.int .i64 (k0:Nat)),(6,.int .i64 q.2.2.1),(7,.int .i64 q.2.2.2),(8,.int .i64 (q.2.1:Nat)),(9,.int .i64 q.1)]) (λq h'=>h'=h/\k0+q.2.1<=s.length/\(0<=q.1->q.1<d.next.length/\aT d (s.drop (k0+q.2.1)) q.1.toNat q.2.1 q.2.2=tgt)/\(q.1<0->(q.2.2.1,q.2.2.2,(q.2.1:Int))=tgt)) (λq=>2*(s.length-(k0+q.2.1))+(if 0<=q.1 then 1 else 0)) ((0,0,0,-1)) ⟨rfl,by simpa using hk0,λ_=>⟨by show (0:Int)<_;omega,by simpa using htgt⟩,λk=>absurd k (by decide)⟩ ?_;rintro⟨st,i,b1,b2⟩ g ⟨rfl,hki,hpos,hneg⟩ ih
     try dsimp only
     dsimp only at hki hpos hneg;refine af ?_;refine aN (λhst=>?_) (λhst=>?_)
     · obtain⟨hlt,hcon⟩:=hpos hst;obtain⟨j,rfl⟩:=Int.eq_ofNat_of_zero_le hst;have hcon:aT d (s.drop (k0+i)) j i (b1,b2)=tgt:=hcon;obtain⟨x,hx⟩:∃x,d.rule[j]? =some x:=⟨_,List.getElem?_eq_getElem (by omega)⟩
       have hru:d.ru j=x:=by unfold bW.ru;rw[List.getD_eq_getElem?_getD,hx];rfl
       obtain⟨b,o,cs,ha,_,hrow,rfl⟩:=hgetr j x hx;refine af ?_;refine xp rfl (aA rfl (hk.cell (i:=1) rfl)) ?_;refine aR ?_;refine xp rfl (bZ rfl rfl j rfl ha) ?_;refine xp rfl (aA rfl (hrow 0 _ rfl)) ?_;refine af ?_
       have fin:∀(c1 c2:Int) (h':aq) (ρ':Env),Sub [(0,.pointer (some ⟨db,0,none⟩)),(1,.string (bs s)),(2,.int .i64 (k0:Nat)),(6,.int .i64 c1),(7,.int .i64 c2),(8,.int .i64 (i:Nat)),(9,.int .i64 (j:Nat))] ρ'->h'=g->(c1,c2)=(if 0<=d.ru j then ((i:Int),d.ru j) else (b1,b2))->G prog 120 f120 [.code [1,0,1,0,0,1,0,1,1,1],.blk 1,.loop [0,0,1,0,1,1,1],.blk 0,.code [1,1,1,1]] ρ' h' (bK λr h'=>r= .tuple #[.int .i64 tgt.1,.int .i64 tgt.2.1,.int .i64 tgt.2.2]/\h'=g):=by
        rintro c1 c2 g1 ρ' hsub rfl hc;refine G.sub (ρ':=[(0,.pointer (some ⟨db,0,none⟩)),(1,.string (bs s)),(2,.int .i64 (k0:Nat)),(6,.int .i64 c1),(7,.int .i64 c2),(8,.int .i64 (i:Nat)),(9,.int .i64 (j:Nat))]) hsub ?_;refine af ?_;refine aN (λhend=>?_) (λhend=>?_)
        · have hd:s.drop (k0+i)=[]:=List.drop_of_length_le (by omega);rw[hd,aT] at hcon
          have hcon:(c1,c2,(i:Int))=tgt:=by
           rw[<-hcon]
           by_cases h0:0<=d.ru j
           · rw[if_pos h0] at hc ⊢;cases hc;rfl
           · rw[if_neg h0] at hc ⊢;cases hc;rfl
          refine af ?_;refine aP ?_;exact⟨_,rfl,by rw[<-hcon];rfl,rfl⟩
        · have hki2:k0+i<s.length:=by omega
          have hd:s.drop (k0+i)=s[k0+i]::s.drop (k0+i+1):=List.drop_eq_getElem_cons hki2;rw[hd,aT,<-hc] at hcon;obtain⟨r,hr⟩:∃r,d.next[j]? =some r:=⟨_,List.getElem?_eq_getElem (by omega)⟩
          obtain⟨b3,o3,cs3,ha3,_,hrow3,rfl⟩:=hgetn j r hr;obtain⟨y,hy,he,_⟩:=r.at s[k0+i];have hc8:=s[k0+i].toNat_lt;have hto:d.to j s[k0+i]=y:=by unfold bW.to;rw[hr];exact he
          have hb:=bW.rX hok (s:=j) s[k0+i];rw[hto] at hcon hb;have hcell:cellAt g1 ⟨b3,o3+j*256+s[k0+i].toNat*1,none⟩=some (.int .i64 y):=by rw[Nat.mul_one];exact hrow3 _ _ (by simp[cw,hy])
          refine af ?_;refine bF rfl (aA rfl (hk.cell (i:=0) rfl)) ?_;refine af ?_;refine bF rfl (tq rfl rfl (k0+i) (by omega) (eH (List.getElem?_eq_getElem hki2))) ?_;refine bF rfl (bZ rfl rfl j rfl ha3) ?_;refine bF rfl (y8 rfl rfl s[k0+i].toNat rfl (by omega)) ?_;refine bF rfl (aA rfl hcell) ?_;refine af ?_;refine aN (λhy0=>?_) (λhy0=>?_)
          · rw[if_pos hy0] at hcon;obtain⟨j2,rfl⟩:=Int.eq_ofNat_of_zero_le hy0;refine af ?_;exact ih ((j2:Int),i+1,c1,c2) ⟨rfl,by show k0+(i+1)<=s.length;omega,λ_=>⟨hb.2,by show aT d (s.drop (k0+(i+1))) _ _ _=tgt;rw[show k0+(i+1)=k0+i+1 by omega];exact hcon⟩,λk=>absurd k (by show ¬(j2:Int)<0;omega)⟩ (by show 2*(s.length-(k0+(i+1)))+(if (0:Int)<=(j2:Nat) then 1 else 0)<2*(s.length-(k0+i))+(if (0:Int)<=(j:Nat) then 1 else 0);rw[if_pos (by omega),if_pos (by omega)];omega)
          · rw[if_neg hy0] at hcon;refine af ?_;exact ih (y,i,c1,c2) ⟨rfl,hki,λk=>absurd k hy0,λ_=>by show (c1,c2,(i:Int))=tgt;rw[<-hcon];by_cases h0:0<=d.ru j;(rw[if_pos h0] at hc ⊢;cases hc;rfl);(rw[if_neg h0] at hc ⊢;cases hc;rfl)⟩ (by show 2*(s.length-(k0+i))+(if (0:Int)<=y then 1 else 0)<2*(s.length-(k0+i))+(if (0:Int)<=(j:Nat) then 1 else 0);rw[if_neg hy0,if_pos (by omega)];omega)
       refine aN (λhr=>?_) (λhr=>?_)
       · refine cI ?_
         iterate 4 refine aR ?_
         refine cO ?_;exact fin _ _ _ _ (by exact sb rfl) rfl (by rw[hru,if_pos hr])
       · refine aQ ?_;exact fin _ _ _ _ (by exact sb rfl) rfl (by rw[hru,if_neg hr])
     · have hcon:=hneg (by omega);refine af ?_;refine aP ?_;exact⟨_,rfl,by rw[<-hcon];rfl,rfl⟩
end
end Go.Proofs.YtnjahnbpnpkmhaaGreatDoor
namespace Go.Proofs.YtnjahnbpnpkmhaaGreatDoor
open Go
def BA (l:List Nat):By:=gV (l.map Int.ofNat)
theorem Jz {l m:List Nat}(h:BA l=BA m):l=m:=by
  have:=key_inj h
  have hi:∀a b:List Nat,a.map Int.ofNat=b.map Int.ofNat->a=b:=by
    intro a
    induction a with
    |nil=>intro b h;cases b with
      |nil=>rfl
      |cons y b=>simp at h
    |cons x a I=>intro b h;cases b with
      |nil=>simp at h
      |cons y b =>
        simp only[List.map_cons,List.cons.injEq] at h;rw[I b h.2];have:=h.1;simp only[Int.ofNat_eq_natCast] at this;rw[show x=y by omega]
  exact hi _ _ this
def qF:Nat->List (List Nat)->List Nat->Option Nat
  |_,[],_=>none
  |i,x::r,l=>if l=x then some i else qF (i+1) r l
theorem rB:∀(ls:List (List Nat)) (i j:Nat) (l:List Nat),qF i ls l=some j->i<=j/\ls[j-i]? =some l
  | [],i,j,l,h=>by cases h
  |x::r,i,j,l,h=>by
    rw[qF] at h;split at h
    · rename_i e;cases h;subst e;exact⟨Nat.le_refl _,by simp⟩
    · have:=rB r (i+1) j l h;refine⟨by omega,?_⟩;rw[show j-i=(j-(i+1))+1 by omega,List.getElem?_cons_succ];exact this.2
theorem xY:∀(ls:List (List Nat)) (i:Nat) (l:List Nat),qF i ls l=none->l∉ls
  | [],i,l,_=>List.not_mem_nil
  |x::r,i,l,h=>by
    rw[qF] at h;split at h
    · cases h
    · rename_i e;have:=xY r (i+1) l h;simp only[List.mem_cons,not_or];exact⟨e,this⟩
def dR (ss:List bL) (cur:List Nat) (lists:List (List Nat)) (b:Nat):List (List Nat)×Int :=
  if (cT ss (UInt8.ofNat b) cur).length=0 then (lists,-1)
  else match qF 0 lists (cT ss (UInt8.ofNat b) cur) with
    |some i=>(lists,(i:Int))
    |none=>(lists++[cT ss (UInt8.ofNat b) cur],(lists.length:Int))
def ny (ss:List bL) (cur:List Nat):Nat->Nat->List (List Nat)->List Int->List (List Nat)×List Int
  | 0,_,lists,row=>(lists,row)
  |n+1,b,lists,row=>ny ss cur n (b+1) (dR ss cur lists b).1 (row++[(dR ss cur lists b).2])
def lF (l:List Int):Row:=⟨(l++List.replicate 256 (-1)).take 256,by rw[List.length_take,List.length_append,List.length_replicate];omega⟩
theorem vR {l:List Int}(h:l.length=256):(lF l).v=l:=by
  unfold lF;simp only;rw[List.take_append_of_le_length (by omega),List.take_of_length_le (by omega)]
def lR (ss:List bL):Nat->Nat->List (List Nat)->List Row->List Int->Option bW
  | 0,_,_,_,_=>none
  |n+1,k,lists,next,rule =>
    match lists[k]? with
    |none=>some ⟨next,rule⟩
    |some cur =>
      if 2000<(ny ss cur 256 0 lists []).1.length then none
      else lR ss n (k+1) (ny ss cur 256 0 lists []).1 (next++[lF (ny ss cur 256 0 lists []).2]) (rule++[bu ss cur])
def gM (ss:List bL) (st:Nat):Int ⊕ bW :=
  if (cB ss st).length=0 then .inl 1
  else match lR ss 2002 0 [cB ss st] [] [] with
    |none=>.inl 70
    |some d=>.inr d
end Go.Proofs.YtnjahnbpnpkmhaaGreatDoor
namespace Go.Proofs.YtnjahnbpnpkmhaaGreatDoor
open Go Go.Lw
set_option maxRecDepth 20000
def O9 (h:aq) (O:Nat->Prop) (cs:List Value) (x:List Nat):Prop:=∃v,cs=[v]/\aL jy h O v x
def EY:gW (List Nat):=⟨1,by decide,O9,λh=>by obtain⟨v,rfl,_⟩:=h;rfl,λh=>by
    obtain⟨v,rfl,hv⟩:=h;intro u hu;simp at hu;subst hu;exact aL.JB hv,λh m=>by
    obtain⟨v,hc,hv⟩:=h;exact⟨v,hc,hv.mv m⟩⟩
def oM:Nat->List (List Nat)->List (ByteArray×Int)
  |_,[]=>[]
  |i,x::r=>(bs (BA x),(i:Int))::oM (i+1) r
theorem zO:∀(ls:List (List Nat)) (i:Nat) (l:List Nat),oM i (ls++[l])=oM i ls++[(bs (BA l),((i+ls.length:Nat):Int))]
  | [],i,l=>by simp[oM]
  |x::r,i,l=>by
    simp only[List.cons_append,oM];rw[zO r (i+1) l,List.length_cons,show i+1+r.length=i+(r.length+1) by omega]
theorem yD:∀(ls:List (List Nat)) (i:Nat) (l:List Nat),mY (bs (BA l)) (oM i ls)=(qF i ls l).map λj=>(j:Int)
  | [],i,l=>rfl
  |x::r,i,l=>by
    rw[oM,mY,qF]
    by_cases h:l=x
    · subst h;rw[if_pos rfl,if_pos rfl];rfl
    · have hk:¬bs (BA l)=bs (BA x):=λe=>h (Jz (dF e))
      rw[if_neg hk,if_neg h];exact yD r (i+1) l
theorem DY {h:aq}{O:Nat->Prop}{v:Value}{l:List Nat}(k:aL jy h O v l):aL (.int .i64) h O v (l.map Int.ofNat):=by
  obtain⟨oa,n,c,rfl,hl,J,hc,U⟩:=k;refine⟨oa,n,c,rfl,by simpa using hl,J,hc,λi x I=>?_⟩;rw[List.getElem?_map] at I;cases hs:l[i]? with
  |none=>rw[hs] at I;cases I
  |some s =>
    rw[hs] at I;simp only[Option.map_some,Option.some.injEq] at I;subst I;obtain⟨b,o,cs,h1,h2,Z,Y⟩:=U i s hs;exact⟨b,o,cs,h1,h2,Z,Y⟩
structure jC (h0 h:aq) (C:Nat->Prop) (db mb:Nat) (vl vn vr:Value) (lists:List (List Nat)) (next:List Row) (rule:List Int):Prop where
  ext:aj h0 h
  dblk:aC h db 122 [vn,vr]
  nx:fG 256 cw h h0.size 126 vn next
  ru:bN (Value.int .i64) h h0.size 3 vr rule
  mp:fU Value.string (Value.int .i64) h mb (oM 0 lists)
  ls:cH EY (λb=>¬C b) h h0.size 100 vl lists
  cty:∀b,C b->dI h b 3
  cr:∀b,vr.ownBlock=some b->¬C b
  dge:h0.size<=db
  mge:h0.size<=mb
section
variable {h0 h:aq}{C:Nat->Prop}{db mb:Nat}{vl vn vr:Value}{lists:List (List Nat)}{next:List Row}{rule:List Int}
theorem jC.Jj (k:jC h0 h C db mb vl vn vr lists next rule):∀b,vl.ownBlock=some b->dI h b 100:=λb I=>by
  obtain⟨css,_,J,_⟩:=k.ls;exact J.ty I
theorem jC.GY (k:jC h0 h C db mb vl vn vr lists next rule):∀b,vn.ownBlock=some b->dI h b 126:=λ_ I=>aB.ty k.nx I
theorem jC.FG (k:jC h0 h C db mb vl vn vr lists next rule):∀b,vr.ownBlock=some b->dI h b 3:=λ_ I=>aB.ty k.ru I
theorem jC.Rb (k:jC h0 h C db mb vl vn vr lists next rule):∀b,vl.ownBlock=some b->h0.size<=b:=λb I=>by
  obtain⟨css,_,J,_⟩:=k.ls;exact(J.lt I).1
theorem jC.ah {h':aq}(k:jC h0 h C db mb vl vn vr lists next rule) (e:aj h h'):jC h0 h' C db mb vl vn vr lists next rule :=
  ⟨k.ext.trans e,k.dblk.ah e,fG.ah k.nx e,bN.ah k.ru e,k.mp.ext e (λk=>k),k.ls.ah e,λb I=>(k.cty b I).ext e (λk=>k),k.cr,k.dge,k.mge⟩
theorem jC.put {h':aq}{x:Nat}(k:jC h0 h C db mb vl vn vr lists next rule) (e:Ext (λb=>b=x) h h') (J:dI h x 126) (Z:vn.ownBlock≠some x) (U:h0.size<=x):jC h0 h' C db mb vl vn vr lists next rule:=by
  have hd:¬db=x:=k.dblk.ty.ne J (by decide);have hm:¬mb=x:=k.mp.ne J;have hl:∀b,vl.ownBlock=some b->¬b=x:=λb I=>(k.Jj b I).ne J (by decide)
  have hr:∀b,vr.ownBlock=some b->¬b=x:=λb I=>(k.FG b I).ne J (by decide)
  have hc:∀b,C b->¬b=x:=λb I=>(k.cty b I).ne J (by decide)
  exact⟨aj.only k.ext e U,k.dblk.ext e hd,aB.ext e k.nx (λb I Y=>Z (by subst Y;exact I)),aB.ext e k.ru hr,k.mp.ext e hm,
    k.ls.kU e hl (λb _ I hC=>hc b hC I) (λ_ _ k=>k),λb I=>(k.cty b I).ext e (hc b I),k.cr,k.dge,k.mge⟩
end
section
variable {h0 h:aq}{C:Nat->Prop}{db mb:Nat}{vl vn vr:Value}{lists:List (List Nat)}{next:List Row}{rule:List Int}
theorem jC.Ms {g3 g4:aq}{v3:Value}{r:Row}{n:Nat}(k:jC h0 h C db mb vl vn vr lists next rule) (hn:n=next.length) (ho:aB g3 h0.size 126 256 v3 (n+1) (next.flatMap cw++cw r)) (Z:Ext (bU vn.ownBlock) h g3) (hd:aC g4 db 122 [v3,vr]) (x4:Ext (λb=>b=db) g3 g4) :
    jC h0 g4 C db mb vl v3 vr lists (next++[r]) rule:=by
  have J:∀{b:Nat}{t:TypeId},dI h b t->126≠t->¬bU vn.ownBlock b:=λkt ht e=>(k.GY _ e.symm).ne kt ht rfl
  have d3:=k.dblk.ext Z (J k.dblk.ty (by decide));have U:∀{b:Nat}{t:TypeId},dI g3 b t->122≠t->¬b=db:=λkt ht e=>by subst e;exact d3.ty.ne kt ht rfl
  have ad:¬bU vn.ownBlock mb:=λe=>k.mp.ne (k.GY _ e.symm) rfl
  have ac:=k.mp.ext Z ad;have hdlt:=k.dblk.lt;have aa:=aB.ext Z k.ru (λb I=>J (k.FG b I) (by decide));have ae:cH EY (λb=>¬C b) g3 h0.size 100 vl lists:=k.ls.kU Z (λb I=>J (k.Jj b I) (by decide)) (λb _ I hC=>J (k.cty b hC) (by decide) I) (λ_ _ k=>k);have ab:∀b,vl.ownBlock=some b->dI g3 b 100:=λb I=>(k.Jj b I).ext Z (J (k.Jj b I) (by decide))
  have Y:∀b,C b->dI g3 b 3:=λb I=>(k.cty b I).ext Z (J (k.cty b I) (by decide))
  refine⟨⟨by have:=k.ext.size;have:=Z.size;have:=x4.size;omega,λb I kk=>?_⟩,hd,?_,aB.ext x4 aa (λb I=>U (aB.ty aa I) (by decide)),ac.ext x4 (ac.ne d3.ty),ae.kU x4 (λb I=>U (ab b I) (by decide)) (λb _ I hC=>U (Y b hC) (by decide) I) (λ_ _ k=>k),λb I=>(Y b I).ext x4 (U (Y b I) (by decide)),k.cr,k.dge,k.mge⟩
  · rw[x4.block b (by have:=k.ext.size;have:=Z.size;omega) (by have:=k.dge;omega),Z.block b (by have:=k.ext.size;omega) (λe=>by have:=(aB.lt k.nx e.symm).1;omega)];exact k.ext.block b I kk
  · exact aB.ext x4 (fG.of ho hn rfl) (λb I=>U (aB.ty ho I) (by decide))
theorem jC.Mr {g3 g4:aq}{v3:Value}{x:Int}{n:Nat}(k:jC h0 h C db mb vl vn vr lists next rule) (hn:n=rule.length) (ho:aB g3 h0.size 3 1 v3 (n+1) (rule.map (Value.int .i64)++[.int .i64 x])) (Z:Ext (bU vr.ownBlock) h g3) (hv:∀b,v3.ownBlock=some b->vr.ownBlock=some b\/h.size<=b) (hd:aC g4 db 122 [vn,v3]) (x4:Ext (λb=>b=db) g3 g4) :
    jC h0 g4 C db mb vl vn v3 lists next (rule++[x]):=by
  have Y:∀{b:Nat}{t:TypeId},dI h b t->3≠t->¬bU vr.ownBlock b:=λkt ht e=>(k.FG _ e.symm).ne kt ht rfl
  have ad:∀{b:Nat},C b->¬bU vr.ownBlock b:=λhC e=>k.cr _ e.symm hC
  have d3:=k.dblk.ext Z (Y k.dblk.ty (by decide));have J:∀{b:Nat}{t:TypeId},dI g3 b t->122≠t->¬b=db:=λkt ht e=>by subst e;exact d3.ty.ne kt ht rfl
  have ae:¬bU vr.ownBlock mb:=λe=>k.mp.ne (k.FG _ e.symm) rfl
  have ac:=k.mp.ext Z ae;have aa:=aB.ext Z k.nx (λb I=>Y (k.GY b I) (by decide));have ag:cH EY (λb=>¬C b) g3 h0.size 100 vl lists:=k.ls.kU Z (λb I=>Y (k.Jj b I) (by decide)) (λb _ I hC=>ad hC I) (λ_ _ k=>k);have ab:∀b,vl.ownBlock=some b->dI g3 b 100:=λb I=>(k.Jj b I).ext Z (Y (k.Jj b I) (by decide))
  have U:∀b,C b->dI g3 b 3:=λb I=>(k.cty b I).ext Z (ad I)
  refine⟨⟨by have:=k.ext.size;have:=Z.size;have:=x4.size;omega,λb I kk=>?_⟩,hd,aB.ext x4 aa (λb I=>J (aB.ty aa I) (by decide)),?_,ac.ext x4 (ac.ne d3.ty),ag.kU x4 (λb I=>J (ab b I) (by decide)) (λb _ I hC=>J (U b hC) (by decide) I) (λ_ _ k=>k),λb I=>(U b I).ext x4 (J (U b I) (by decide)),λb I hC=>?_,k.dge,k.mge⟩
  · rw[x4.block b (by have:=k.ext.size;have:=Z.size;omega) (by have:=k.dge;omega),Z.block b (by have:=k.ext.size;omega) (λe=>by have:=(aB.lt k.ru e.symm).1;omega)];exact k.ext.block b I kk
  · exact aB.ext x4 (bN.of (ys:=[x]) ho hn rfl rfl) (λb I=>J (aB.ty ho I) (by decide))
  · rcases hv b I with e|e
    · exact k.cr b e hC
    · have:=(k.cty b hC).lt;omega
end
def B4 (res:Int ⊕ bW) (h':aq) (r:Value):Prop:=match res with
  |.inl e=>r= .tuple #[.pointer none,.int .i64 e]
  |.inr d=>∃db,r= .tuple #[.pointer (some ⟨db,0,none⟩),.int .i64 0]/\qK h' db d
end Go.Proofs.YtnjahnbpnpkmhaaGreatDoor
namespace Go.Proofs.YtnjahnbpnpkmhaaGreatDoor
open Go.Proofs.Tryz
open Go Go.Lw
set_option maxRecDepth 20000 set_option maxHeartbeats 4000000
theorem DJ {h:aq}{O:Nat->Prop}{nb:Nat}{v:Value}{ss:List bL}{st:Nat}(htens:vI h) (hn:cv h O nb v ss st) (hgood:Good ss) (hss:ss.length<=30000) (hst:st<ss.length) (hpot1:1+uJ ss (List.replicate ss.length false)<=1000000)
 (hpot:∀c now,List.Sublist now (List.range ss.length)->(stepG ss c now []).length+uJ ss (List.replicate ss.length false)<=1000000) :
 au prog 25 #[.pointer (some ⟨nb,0,none⟩)] h (bK λr h'=>B4 (gM ss st) h' r/\aj h h'):=by
 generalize hres:gM ss st=res
 have hint:∀l:List Nat,l.Sublist (List.range ss.length)->(l.map Int.ofNat).length<=1000000/\∀n∈l.map Int.ofNat,-9223372036854775808<=n/\n<=9223372036854775807:=λl hl=>by
  have h1:=hl.length_le;rw[List.length_range] at h1;refine⟨by rw[List.length_map];omega,λn hn=>?_⟩;obtain⟨j,hj,rfl⟩:=List.mem_map.1 hn;have:=List.mem_range.1 (hl.subset hj);simp only[Int.ofNat_eq_natCast];omega
 refine bJ ?_;refine af ?_;refine xo rfl (aE rfl (CB hn hgood (by omega) (.inr hst) hpot1)) ?_;rintro w4 h1 ⟨ho1,e1⟩;have hsub0:=Ep ss st;generalize hl0:cB ss st=l0 at *;have hi0:=hint l0 hsub0;obtain⟨wa,wc,rfl,_⟩:=(show aB h1 h.size 3 1 w4 l0.length (l0.map eO) from ho1).open;refine af ?_;refine aN (λhz=>?_) (λhz=>?_)
 · refine af ?_;refine aP ?_;have:res= .inl 1:=by rw[<-hres,gM,hl0,if_pos (by omega)]
   subst this;exact⟨_,rfl,rfl,e1⟩
 · have hres':res=match lR ss 2002 0 [l0] [] [] with|none=>.inl 70|some d=>.inr d:=by rw[<-hres,gM,hl0,if_neg (by omega)]<;>rfl
   refine af ?_;refine xp rfl (av (H.J7 ) rfl) ?_;refine xo rfl (mh) ?_;rintro _ h2 ⟨rfl,k2,e2,z2⟩;refine af ?_;refine xo rfl (pS (ek:=Value.string) (ev:=Value.int .i64)) ?_;rintro _ h3 ⟨rfl,hm3,e3,z3⟩;have k2:aC h2 h1.size 122 [.slice none 0 0,.slice none 0 0]:=k2;have e13:=e2.trans e3;have hz1:=e1.size;refine af ?_;refine xo rfl (aE rfl (tQ ((htens.ah e1).ah e13) (DY (aL.mv (bN.read (O:=λ_=>False) (h1:=λ_=>rfl) ho1 (λ_ _ k=>k)) (Mv.ah e13))) hi0.1 hi0.2)) ?_;rintro _ h4 ⟨rfl,e4⟩;have hm4:=hm3.ext e4 (λk=>k);have z4:=e4.size;refine aO rfl (yQ (v:=(0:Int)) kQ underlying124 underlying9 rfl rfl rfl rfl rfl hm4 (rfl:mY (bs (gV (l0.map Int.ofNat))) []=none)) ?_;rintro _ h5 ⟨rfl,hm5,x5,z5⟩;have hm5:fU Value.string (Value.int .i64) h5 h2.size (oM 0 [l0]):=hm5;have e05:aj h h5:=aj.only ((e1.trans e13).trans e4) x5 (by omega);have ho5:bN eO h5 h.size 3 (.slice wa l0.length wc) l0:=aB.ext x5 (bN.ah (bN.ah ho1 e13) e4) (λb hb (e:b=h2.size)=>by have:=(aB.lt ho1 hb).2;omega);have k5:aC h5 h1.size 122 [.slice none 0 0,.slice none 0 0]:=((k2.ah e3).ah e4).ext x5 (by show ¬_=_;omega);refine af ?_;refine xo rfl (iD [_]) ?_;rintro _ _ ⟨rfl,rfl⟩;refine af ?_;have e56:aj h5 (h5.push (.cells #[.slice wa l0.length wc] 100)):=Ext.push _ _ _
   have ls6:cH EY (λb=>¬bU (Value.slice wa l0.length wc).ownBlock b) (h5.push (.cells #[.slice wa l0.length wc] 100)) h.size 100 (.slice (some ⟨h5.size,0,none⟩) 1 1) [l0] :=
    cH.kC (e:=EY) (cs:=[.slice wa l0.length wc]) ⟨_,rfl,aB.LR (h1:=λ_=>rfl) ho5 (λb hb k=>k hb.symm)⟩ e05.size
   generalize h5.push (.cells #[.slice wa l0.length wc] 100)=h6 at *
   have mk6:jC h h6 (bU (Value.slice wa l0.length wc).ownBlock) h1.size h2.size (.slice (some ⟨h5.size,0,none⟩) 1 1) (.slice none 0 0) (.slice none 0 0) [l0] [] [] :=
    ⟨e05.trans e56,k5.ah e56,fG.nil _ _ _ _ _,bN.nil _ _ _ _,hm5.ext e56 (λk=>k),ls6,λb hb=>dI.ext (aB.ty ho5 hb.symm) e56 (λk=>k),λb hb=>(by cases hb),hz1,by omega⟩
   refine Kt (σ:=Nat×Value) (λq=>[(0,.pointer (some ⟨nb,0,none⟩)),(5,.pointer (some ⟨h1.size,0,none⟩)),(6,.map (some h2.size)),(7,q.2),(8,.int .i64 (q.1:Nat))]) (λq h'=>∃C vn vr lists next rule,jC h h' C h1.size h2.size q.2 vn vr lists next rule/\q.1<=lists.length/\lists.length<=2000/\(next.length=q.1/\rule.length=q.1)/\(∀l∈lists,l.Sublist (List.range ss.length))/\res=(match lR ss (2002-q.1) q.1 lists next rule with|none=>.inl 70|some d=>.inr d)) (λq=>2002-q.1) ((0,.slice (some ⟨h5.size,0,none⟩) 1 1)) ⟨_,_,_,[l0],[],[],mk6,Nat.zero_le _,by simp,⟨rfl,rfl⟩,λl hl=>by simp at hl;subst hl;exact hsub0,hres'⟩ ?_;rintro⟨i,vl⟩ g ⟨C,vn,vr,lists,next,rule,mk,hi,hl2,⟨hnl,hrl⟩,hsl,hcon⟩ ih
   try dsimp only
   dsimp only at mk hi hnl hrl hcon;obtain⟨css,hc1,hc2,hc3⟩:=id mk.ls;obtain⟨la,lc,rfl,_⟩:=hc2.open;have hng:cv g O nb v ss st:=hn.ah mk.ext (λ_ _ k=>k);have mkg:=mk;refine af ?_;refine aN (λhlt=>?_) (λhlt=>?_)
   · have hil:i<lists.length:=by omega
     obtain⟨cur,hcur⟩:∃cur,lists[i]? =some cur:=⟨_,List.getElem?_eq_getElem hil⟩
     have hcsub:=hsl cur (List.mem_of_getElem? hcur);obtain⟨n,hnn⟩:∃n,2002-i=n+1:=⟨2001-i,by omega⟩
     rw[hnn,lR,hcur] at hcon;simp only at hcon;generalize hrow:ny ss cur 256 0 lists []=tgt at hcon;refine af ?_;refine xo rfl (cL) ?_;rintro _ g1 ⟨rfl,kz,ez,zz⟩;have kz:aC g1 g.size 126 (([]:List Int).map (Value.int .i64)++List.replicate (256-0) (Value.int .i64 0)):=kz;have Jh:=mk.ah ez;have hvz:vn.ownBlock≠some g.size:=λe=>by have:=(mk.GY _ e).lt;omega
     refine af ?_;refine Kt (σ:=Nat×Value) (λq=>[(0,.pointer (some ⟨nb,0,none⟩)),(5,.pointer (some ⟨h1.size,0,none⟩)),(6,.map (some h2.size)),(7,q.2),(8,.int .i64 (i:Nat)),(9,.pointer (some ⟨g.size,0,none⟩)),(33,.int .i64 (q.1:Nat))]) (λq h'=>∃C lists' row,jC h h' C h1.size h2.size q.2 vn vr lists' next rule/\(q.1<=256/\row.length=q.1/\lists'.length<=2000+q.1)/\aC h' g.size 126 (row.map (Value.int .i64)++List.replicate (256-q.1) (Value.int .i64 0))/\lists'[i]? =some cur/\(∀l∈lists',l.Sublist (List.range ss.length))/\ny ss cur (256-q.1) q.1 lists' row=tgt) (λq=>256-q.1) ((0,.slice la lists.length lc)) ⟨C,lists,[],Jh,⟨Nat.zero_le _,rfl,by simp;omega⟩,kz,hcur,hsl,hrow⟩ ?_;rintro⟨b,vl⟩ g2 ⟨C,lists,row,mk,⟨hb,hrlen,hlb⟩,kz,hcur,hsl,hrow⟩ ih2
     try dsimp only
     dsimp only at mk hb hrlen hlb kz hrow;have hng:cv g2 O nb v ss st:=hn.ah mk.ext (λ_ _ k=>k);refine af ?_;refine aN (λhb256=>?_) (λhb256=>?_)
     · obtain⟨m,hm⟩:∃m,256-b=m+1:=⟨255-b,by omega⟩
       rw[hm,ny] at hrow;obtain⟨g',c',cs,hv',_,_,hrowv,_,⟨w,rfl,hw⟩,_⟩:=mk.ls.put hcur;subst hv';have hnlt:∀j∈cur,j<ss.length:=λj hj=>List.mem_range.1 (hcsub.subset hj)
       have hcl:=hcsub.length_le;rw[List.length_range] at hcl;have hub:(UInt8.ofNat b).toNat=b:=by simp;omega
       have hwr:aL jy g2 (λ_=>False) w cur:=fq hw (λ_ k=>k.elim);have hstep:=En (UInt8.ofNat b) hng hgood (by omega) hwr hnlt (by omega) (hpot _ _ hcsub);rw[hub] at hstep;have hlsub:=Gy ss (UInt8.ofNat b) cur
       iterate 4 refine aQ ?_
       refine cI ?_
       iterate 2 refine aR ?_
       refine cO ?_;refine aQ ?_;refine cI ?_
       iterate 3 refine aR ?_
       refine xp rfl (bZ rfl rfl i rfl rfl (by have:=(List.getElem?_eq_some_iff.1 hcur).1;omega)) ?_;refine xp rfl (aA rfl (hrowv 0 _ rfl)) ?_;refine aR ?_;refine xp rfl (AA rfl (wrap_u8 ⟨by omega,by omega⟩)) ?_;refine xo rfl (aE rfl hstep) ?_;rintro w11 g3 ⟨ho3,e3⟩;generalize hl:cT ss (UInt8.ofNat b) cur=l at *;have hsN:dR ss cur lists b=if l.length=0 then (lists,-1) else match qF 0 lists l with|some i=>(lists,(i:Int))|none=>(lists++[l],(lists.length:Int)):=by unfold dR;rw[hl]<;>rfl
       have hil:=hint l hlsub;obtain⟨l11a,l11c,rfl,_⟩:=(show aB g3 g2.size 3 1 w11 l.length (l.map eO) from ho3).open;have mk3:=mk.ah e3;have kz3:=kz.ah e3;have hkey:∀{gg:aq},aj g3 gg->au prog 46 #[.slice l11a l.length l11c] gg (bK λr h'=>r= .string (bs (BA l))/\aj gg h'):=λe=>tQ (htens.ah (mk3.ext.trans e)) (DY (aL.mv (bN.read (O:=λ_=>False) (h1:=λ_=>rfl) ho3 (λ_ _ k=>k)) (Mv.ah e))) hil.1 hil.2
       refine af ?_;refine xo rfl (aE rfl (hkey (Ext.refl _ _))) ?_;rintro _ g4 ⟨rfl,e4⟩;have mk4:=mk3.ah e4;have kz4:=kz3.ah e4;refine xp rfl (az.xq (z:=.int .i64 0) kQ underlying124 underlying9 (by kernel_rfl) rfl rfl rfl mk4.mp) ?_;rw[yD];refine af ?_
       have fin:∀(to:Int) (vl2:Value) (h':aq) (ρ':Env),Sub [(0,.pointer (some ⟨nb,0,none⟩)),(5,.pointer (some ⟨h1.size,0,none⟩)),(6,.map (some h2.size)),(7,vl2),(8,.int .i64 (i:Nat)),(9,.pointer (some ⟨g.size,0,none⟩)),(10,.int .i64 (b:Nat)),(12,.int .i64 to),(33,.int .i64 (b:Nat))] ρ'->(∃C2,jC h h' C2 h1.size h2.size vl2 vn vr (dR ss cur lists b).1 next rule)->to=(dR ss cur lists b).2->aC h' g.size 126 (row.map (Value.int .i64)++List.replicate (256-b) (Value.int .i64 0))->G prog 25 f25 [.code [1,1,1,1,0,0,1,1,0,0,1,0,1,0,0,1,0,0,1,0,1,1,1,1,1,1],.blk 3,.code [1,1,1,0,0,1,0,1,0,0,1,0,0,1,0,1,1,1,1,1,1],.loop [0,0,1,0,1,0,0,1,0,0,1,0,1,1,1,1,1,1],.blk 2,.code [1,1,0,0,1,0,0,1,0,1,1,1,1,1,1],.blk 1,.code [1,1,0,0,1,0,1,1,1,1,1,1],.loop [0,0,1,0,1,1,1,1,1,1],.blk 0,.code [1,1,1,1,1,1,1]] ρ' h' (bK λr h'=>B4 res h' r/\aj h h'):=by
        rintro to vl2 g5 ρ' hsub ⟨C2,mk5⟩ hto kz5;refine G.sub (ρ':=[(0,.pointer (some ⟨nb,0,none⟩)),(5,.pointer (some ⟨h1.size,0,none⟩)),(6,.map (some h2.size)),(7,vl2),(8,.int .i64 (i:Nat)),(9,.pointer (some ⟨g.size,0,none⟩)),(10,.int .i64 (b:Nat)),(12,.int .i64 to),(33,.int .i64 (b:Nat))]) hsub ?_
        have hrs:(dR ss cur lists b).1.length<=lists.length+1/\(dR ss cur lists b).1[i]? =some cur/\∀x∈(dR ss cur lists b).1,x.Sublist (List.range ss.length):=by
         rw[hsN];split
         · exact⟨Nat.le_succ _,hcur,hsl⟩
         · split
           · exact⟨Nat.le_succ _,hcur,hsl⟩
           · refine⟨by simp,by rw[List.getElem?_append_left (List.getElem?_eq_some_iff.1 hcur).1];exact hcur,λx hx=>?_⟩
             rcases List.mem_append.1 hx with k|k
             · exact hsl x k
             · have:x=l:=by simpa using k
               rw[this];exact hlsub
        have hcells:(row.map (Value.int .i64)++List.replicate (256-b) (Value.int .i64 0)).length=256:=by simp[hrlen];omega
        have hset:(row.map (Value.int .i64)++List.replicate (256-b) (Value.int .i64 0)).set (0+b*1) (.int .i64 to)=(row++[to]).map (Value.int .i64)++List.replicate (256-(b+1)) (Value.int .i64 0):=by
         rw[Nat.zero_add,Nat.mul_one,List.set_append_right _ _ (by simp;omega),show 256-b=(256-(b+1))+1 by omega,List.replicate_succ];have:b-(row.map (Value.int .i64)).length=0:=by simp;omega
         rw[this,List.set_cons_zero];simp
        have hblt:0+b*1<(row.map (Value.int .i64)++List.replicate (256-b) (Value.int .i64 0)).length:=by rw[hcells];omega
        refine cI ?_
        iterate 2 refine aR ?_
        refine xp rfl (y8 rfl rfl b rfl (by omega)) ?_;refine aO rfl (bf H.mW rfl rfl rfl (kz5.cell (List.getElem?_eq_getElem hblt)) kz5.nf) ?_;rintro _ g6 ⟨rfl,hg6⟩;have k6:=kz5.set (0+b*1) (.int .i64 to);rw[<-hg6,hset] at k6;have x6:Ext (λy=>y=g.size) g5 g6:=by rw[hg6];exact Ext.dx _ _ _ rfl
        have hzge:h.size<=g.size:=mkg.ext.size;have mk6:=mk5.put x6 kz5.ty hvz hzge;refine af ?_;exact ih2 (b+1,vl2) ⟨C2,_,row++[to],mk6,⟨by show b+1<=256;omega,by simp[hrlen],by show _<=2000+(b+1);omega⟩,k6,hrs.2.1,hrs.2.2,by show ny ss cur (256-(b+1)) (b+1) _ _=tgt;rw[show 256-(b+1)=m by omega,hto];exact hrow⟩
       refine aN (λhz11=>?_) (λhz11=>?_)
       · have hl0':l.length=0:=by omega
         refine cI ?_;refine aR ?_;refine cO ?_;refine aQ ?_;exact fin (-1) _ _ _ (by exact sb rfl) (by rw[hsN,if_pos hl0'];exact⟨C,mk4⟩) (by rw[hsN,if_pos hl0']) kz4
       · have hl0':¬l.length=0:=by omega
         rcases hfind:qF 0 lists l with _|j
         · refine af ?_;refine dc rfl (by simp) ?_;refine af ?_;refine xo rfl (aE rfl (hkey e4)) ?_;rintro _ g5 ⟨rfl,e5⟩;have mk5:=mk4.ah e5;have hnone:mY (bs (BA l)) (oM 0 lists)=none:=by rw[yD,hfind];rfl
           refine af ?_;refine aO rfl (lZ (v:=(lists.length:Int)) kQ underlying124 underlying9 rfl rfl rfl rfl rfl mk5.mp hnone) ?_;rintro _ g6 ⟨rfl,hm6,x6,z6⟩;have hm6:fU Value.string (Value.int .i64) g6 h2.size (oM 0 (lists++[l])):=by rw[zO,Nat.zero_add];exact hm6
           have mapne:∀{b:Nat}{t:TypeId},dI g5 b t->¬b=h2.size:=λk e=>mk5.mp.ne k e.symm
           have e35:=e4.trans e5;have ho5w:bN eO g5 g2.size 3 (.slice l11a l.length l11c) l:=bN.ah ho3 e35;have kz5:=kz4.ah e5;have kz6:=kz5.ext x6 (mapne kz5.ty);have d6:=mk5.dblk.ext x6 (mapne mk5.dblk.ty);have nx6:=aB.ext x6 mk5.nx (λb hb=>mapne (mk5.GY b hb));have ru6:=aB.ext x6 mk5.ru (λb hb=>mapne (mk5.FG b hb));have ho6w:bN eO g6 g2.size 3 (.slice l11a l.length l11c) l:=aB.ext x6 ho5w (λb hb=>mapne (aB.ty ho5w hb))
           have ls6:cH EY (λb=>¬(C b\/bU (Value.slice l11a l.length l11c).ownBlock b)) g6 h.size 100 (.slice (some ⟨g',0,none⟩) lists.length c') lists :=
            mk5.ls.kU x6 (λb hb=>mapne (mk5.Jj b hb)) (λb _ hb hC=>mapne (mk5.cty b hC) hb) (λb _ hb hC=>hb (.inl hC))
           have lty6:dI g6 g' 100:=(mk5.Jj g' rfl).ext x6 (mapne (mk5.Jj g' rfl));obtain⟨css,hc1,hc2,hc3⟩:=id ls6;have hz5:=mk5.ext.size;have hz2g:=mk.ext.size;refine af ?_;refine xo rfl (iD [_]) ?_;rintro _ _ ⟨rfl,rfl⟩;refine xo rfl (vL rfl rfl hc2 rfl rfl) ?_;rintro v7 g7 ⟨ho7,hx7,hx7',hv7⟩
           have lne:∀{b:Nat}{t:TypeId},dI g6 b t->100≠t->¬bU (Value.slice (some ⟨g',0,none⟩) lists.length c').ownBlock b:=λk ht e=>by
            simp only[bU,Value.ownBlock,Option.some.injEq] at e;subst e;exact lty6.ne k ht rfl
           have hsz3:=e3.size;have hsz35:=e35.size;have ty6:∀{b:Nat}{t:TypeId},dI g5 b t->dI g6 b t:=λk=>k.ext x6 (mapne k)
           have hls7:cH EY (λb=>¬(C b\/bU (Value.slice l11a l.length l11c).ownBlock b)) g7 h.size 100 v7 (lists++[l]) :=
            cH.eC (h:=g6) (v:=.slice (some ⟨g',0,none⟩) lists.length c') (css:=css) (cs:=[.slice l11a l.length l11c]) hc1 hc3 ho7 hx7 hv7 ⟨_,rfl,aB.LR (h1:=λ_=>rfl) ho6w (λb hb k=>by
             rcases k with k|k
             · exact lne (aB.ty ho6w hb) (by decide) k
             · exact k (.inr hb.symm))⟩
           have hmb6:¬bU (Value.slice (some ⟨g',0,none⟩) lists.length c').ownBlock h2.size:=λe=>by
            simp only[bU,Value.ownBlock,Option.some.injEq] at e;exact hm6.ne (e▸lty6) rfl
           have hext7:aj h g7:=⟨by have:=hx7.size;omega,λb hb k=>by
            rw[hx7.block b (by omega) (λe=>by
             simp only[bU,Value.ownBlock,Option.some.injEq] at e;have:=mk5.Rb g' rfl;omega),x6.block b (by omega) (by have:=mk5.mge;omega)]
            exact mk5.ext.block b hb k⟩
           have mk7:jC h g7 (λb=>C b\/bU (Value.slice l11a l.length l11c).ownBlock b) h1.size h2.size v7 vn vr (lists++[l]) next rule :=
            ⟨hext7,d6.ext hx7 (lne d6.ty (by decide)),aB.ext hx7 nx6 (λb hb=>lne (aB.ty nx6 hb) (by decide)),aB.ext hx7 ru6 (λb hb=>lne (aB.ty ru6 hb) (by decide)),hm6.ext hx7 hmb6,hls7,
             λb hb=>by
              rcases hb with hb|hb
              · exact dI.ext (ty6 (mk5.cty b hb)) hx7 (lne (ty6 (mk5.cty b hb)) (by decide))
              · exact dI.ext (aB.ty ho6w hb.symm) hx7 (lne (aB.ty ho6w hb.symm) (by decide)),
             λb hb hC=>by
              rcases hC with hC|hC
              · exact mk5.cr b hb hC
              · have h1':=(mk.FG b hb).lt;have h2':=(aB.lt ho6w hC.symm).1;omega,mk5.dge,mk5.mge⟩
           obtain⟨v7a,v7c,rfl,_⟩:=ho7.open;refine aR ?_;refine cO ?_;refine aQ ?_;exact fin (lists.length:Int) _ _ _ (by exact sb rfl) (by rw[hsN,if_neg hl0',hfind];exact⟨_,mk7⟩) (by rw[hsN,if_neg hl0',hfind]) (kz6.ext hx7 (lne kz6.ty (by decide)))
         · have hj:=rB lists 0 j l hfind;refine af ?_;refine dB rfl (by simp) ?_
           iterate 2 refine aQ ?_
           exact fin (j:Int) _ _ _ (by exact sb rfl) (by rw[hsN,if_neg hl0',hfind];exact⟨C,mk4⟩) (by rw[hsN,if_neg hl0',hfind]) kz4
     · obtain rfl:b=256:=by omega
       rw[Nat.sub_self,ny] at hrow;subst hrow;simp only at hcon;obtain⟨css2,hd1,hd2,hd3⟩:=id mk.ls;obtain⟨la2,lc2,rfl,_⟩:=hd2.open;have hencr:cw (lF row)=row.map (Value.int .i64):=by rw[cw,vR hrlen]
       rw[Nat.sub_self,List.replicate_zero,List.append_nil,<-hencr] at kz;refine af ?_;refine aN (λhbigl=>?_) (λhbigl=>?_)
       · rw[if_pos (by omega)] at hcon;refine af ?_;refine aP ?_;exact⟨_,rfl,by rw[hcon];rfl,mk.ext⟩
       · rw[if_neg (by omega)] at hcon
         have nne:∀{b:Nat}{t:TypeId},dI g2 b t->126≠t->¬(bU vn.ownBlock b\/Array.size g2<=b):=λkt ht e=>by
          rcases e with e|e
          · exact(mk.GY _ e.symm).ne kt ht rfl
          · have:=kt.lt;omega
         have hzM:¬(bU vn.ownBlock g.size\/Array.size g2<=g.size):=by
          rintro(e|e)
          · exact hvz e.symm
          · have:=kz.lt;omega
         have hdM:=nne mk.dblk.ty (by decide);have hnx:aB g2 h.size 126 256 vn next.length (next.flatMap cw):=mk.nx
         have hone:∀u∈cw (lF row),u.oneCell'=true:=λu hu=>by simp[cw] at hu;obtain⟨_,_,rfl⟩:=hu;rfl
         have hg2:=mk.ext.size;refine af ?_;refine jK 11 (λb=>bU vn.ownBlock b\/Array.size g2<=b) (λi=>Nat.blt i 10) ?_;refine aF 0 ?_;refine aF 1 ?_;refine aF 2 ?_;refine aF 3 ?_;refine bq 4 rfl (λh' e=>aA rfl (e.cell hdM (mk.dblk.cell (i:=0) rfl))) ?_;refine bq 5 rfl (λh' e=>cj rfl (e.rowAt hzM kz.row)) ?_;refine cV 6 rfl (aV.yp (cs:=cw (lF row)) underlying120 H.F3 rfl (nM _) (by decide)) ?_;rintro _ _ ⟨rfl,rfl⟩;refine⟨λ_=>(Ext.push _ _ _),?_⟩;refine cV 7 rfl (aV.Ar underlying120 H.F3 rfl rfl hnx rfl (by simp) hone (by simp only[maxLen];omega) (by omega) hg2) ?_;rintro v3 g3 ⟨ho3,hx3,hx3',hv3⟩;refine⟨λ_=>hx3'.mono (λ_ _ k=>.inl k),?_⟩;obtain⟨a3,c3,rfl,_⟩:=ho3.open;refine H8 8 ?_;refine aF 9 ?_;refine gU 10 rfl (iG rfl rfl ((mk.dblk.ext hx3 (λe=>hdM (.inl e))))) ?_;rintro _ g4 ⟨rfl,k4,x4,z4⟩;refine⟨nofun,?_⟩;have mk4:=mk.Ms (r:=lF row) rfl ho3 hx3 k4 x4;obtain⟨g',c',cs,hv',_,_,hrowv,_,⟨w,rfl,hw⟩,_⟩:=mk4.ls.put hcur;cases hv';have hng4:cv g4 O nb v ss st:=hn.ah mk4.ext (λ_ _ k=>k);have hwr:aL jy g4 (λ_=>False) w cur:=fq hw (λ_ k=>k.elim);have hnlt:∀j∈cur,j<ss.length:=λj hj=>List.mem_range.1 (hcsub.subset hj)
         have hcl:=hcsub.length_le;rw[List.length_range] at hcl
         have rne:∀{b:Nat}{t:TypeId},dI g4 b t->3≠t->¬(bU vr.ownBlock b\/Array.size g4<=b):=λkt ht e=>by
          rcases e with e|e
          · exact(mk4.FG _ e.symm).ne kt ht rfl
          · have:=kt.lt;omega
         have hdM4:=rne mk4.dblk.ty (by decide);have hlM4:=rne (mk4.Jj g' rfl) (by decide);have hru:aB g4 h.size 3 1 vr rule.length (rule.map (Value.int .i64)):=mk4.ru;have hg4s:=mk4.ext.size;have hli:i<lists.length:=(List.getElem?_eq_some_iff.1 hcur).1;refine fV ?_;refine jK 16 (λb=>bU vr.ownBlock b\/Array.size g4<=b) (λi=>Nat.blt i 15) ?_;refine aF 0 ?_;refine aF 1 ?_;refine aF 2 ?_;refine aF 3 ?_;refine bq 4 rfl (λh' e=>aA rfl (e.cell hdM4 (mk4.dblk.cell (i:=1) rfl))) ?_;refine aF 5 ?_;refine aF 6 ?_;refine aF 7 ?_;refine bq 8 rfl (λh' e=>bZ rfl rfl i rfl rfl) ?_;refine bq 9 rfl (λh' e=>aA rfl (e.cell hlM4 (hrowv 0 _ rfl))) ?_;refine cV 10 rfl (aE rfl (zB hng4 (by omega) hwr hnlt (by omega))) ?_;rintro _ g5 ⟨rfl,hg5⟩;refine⟨λ_=>by subst hg5;exact Ext.refl _ _,?_⟩;subst hg5;refine cV 11 rfl (iD [_]) ?_;rintro _ _ ⟨rfl,rfl⟩;refine⟨λ_=>by first|exact Ext.push _ _ _|assumption,?_⟩;refine cV 12 rfl (vL rfl rfl hru rfl rfl) ?_;rintro v6 g6 ⟨ho6,hx6,hx6',hv6⟩;refine⟨λ_=>hx6'.mono (λ_ _ k=>.inl k),?_⟩;obtain⟨a6,c6,rfl,_⟩:=ho6.open;refine H8 13 ?_;refine aF 14 ?_;refine gU 15 rfl (iG rfl rfl ((mk4.dblk.ext hx6 (λe=>hdM4 (.inl e))))) ?_;rintro _ g7 ⟨rfl,k7,x7,z7⟩;refine⟨nofun,?_⟩;have mk7:=mk4.Mr (x:=bu ss cur) rfl ho6 hx6 hv6 k7 x7;refine fV ?_;refine af ?_;exact ih (i+1,_) ⟨C,_,_,lists,next++[lF row],rule++[bu ss cur],mk7,by show i+1<=lists.length;omega,by omega,⟨by simp[hnl],by simp[hrl]⟩,hsl,by rw[hcon,show 2002-(i+1)=n by omega]⟩
   · have hie:i=lists.length:=by omega
     have hnone:lists[i]? =none:=List.getElem?_eq_none (by omega);obtain⟨n,hnn⟩:∃n,2002-i=n+1:=⟨2001-i,by omega⟩
     rw[hnn,lR,hnone] at hcon;simp only at hcon;refine af ?_;refine aP ?_;refine⟨_,rfl,?_,mk.ext⟩;rw[hcon];exact⟨h1.size,rfl,vn,vr,mk.dblk,fG.read mk.nx (λ_ _ k=>k),bN.read (h1:=λ_=>rfl) mk.ru (λ_ _ k=>k)⟩
end Go.Proofs.YtnjahnbpnpkmhaaGreatDoor
namespace Go.Proofs.YtnjahnbpnpkmhaaGreatDoor
open Go
def bW.row (d:bW) (k:Nat):List Int:=match d.next[k]? with|some r=>r.v|none=>[]
def gH (out:List Bool) (t:Int):Bool:=decide (0<=t) && out.getD t.toNat false
def dO (d:bW) (out:List Bool) (k:Nat):Bool:=decide (0<=d.ru k) ||(d.row k).any (gH out)
def cx (d:bW):Nat->Nat->List Bool->Bool->List Bool×Bool
  | 0,_,out,ag=>(out,ag)
  |n+1,k,out,ag=>if out.getD k false=true then cx d n (k+1) out ag else cx d n (k+1) (out.set k (dO d out k)) (ag ||dO d out k)
def gK (out:List Bool):Nat:=(out.filter λb=> !b).length
def sC (d:bW):Nat->List Bool->List Bool
  | 0,out=>out
  |n+1,out=>if (cx d d.next.length 0 out false).2=true then sC d n (cx d d.next.length 0 out false).1 else (cx d d.next.length 0 out false).1
def bA (d:bW):List Bool:=sC d (d.next.length+1) (List.replicate d.next.length false)
theorem ye:∀(out:List Bool) (k:Nat) (b:Bool),out[k]? =some false->gK (out.set k b)+(if b then 1 else 0)=gK out
  | [],k,b,h=>by simp at h
  |x::r,0,b,h=>by simp at h;subst h;cases b<;>simp[gK]
  |x::r,k+1,b,h=>by
    have:=ye r k b (by simpa using h);unfold gK at this ⊢;rw[List.set_cons_succ];cases x<;>simp at this ⊢ <;>omega
theorem ir (d:bW):∀(n k:Nat) (out:List Bool) (I:Bool),(cx d n k out I).1.length=out.length
  | 0,_,_,_=>rfl
  |n+1,k,out,I=>by
    rw[cx];split
    · exact ir d n _ _ _
    · rw[ir d n];simp
theorem jd (d:bW):∀(n k:Nat) (out:List Bool) (I:Bool),k+n<=out.length->gK (cx d n k out I).1<=gK out/\((cx d n k out I).2=true->I=true\/gK (cx d n k out I).1<gK out)
  | 0,_,out,I,_=>⟨Nat.le_refl _,λh=>.inl h⟩
  |n+1,k,out,I,hk=>by
    rw[cx];split
    · exact jd d n (k+1) out I (by omega)
    · rename_i h
      have hf:out[k]? =some false:=by
        rw[List.getD_eq_getElem?_getD,List.getElem?_eq_getElem (by omega)] at h;rw[List.getElem?_eq_getElem (by omega)];simpa using h
      have h1:=ye out k (dO d out k) hf;have Y:=jd d n (k+1) (out.set k (dO d out k)) (I ||dO d out k) (by simp;omega);refine⟨by omega,λZ=>?_⟩
      rcases Y.2 Z with U|U
      · cases J:dO d out k with
        |true=>rw[J,if_pos rfl] at h1;right;rw[J] at Y;omega
        |false=>rw[J,Bool.or_false] at U;exact .inl U
      · right;omega
end Go.Proofs.YtnjahnbpnpkmhaaGreatDoor
namespace Go.Proofs.YtnjahnbpnpkmhaaGreatDoor
open Go.Proofs.Tryz
open Go Go.Lw
set_option maxRecDepth 20000 set_option maxHeartbeats 4000000
theorem CV (r:Row):over (List.replicate 256 (Value.int .i64 0)) 0 (cw r)=cw r:=by
 unfold over;rw[List.take_zero,List.nil_append,nM,List.drop_of_length_le (by simp),List.append_nil]
theorem EG {h:aq}{db:Nat}{d:bW}(k:qK h db d) (hok:d.Ok) :
 au prog 50 #[.pointer (some ⟨db,0,none⟩)] h (bK λr h'=>bN Value.bool h' h.size 4 r (bA d)/\aj h h'):=by
 obtain⟨vn,vr,hk,⟨na,nn,nc,rfl,hnl,hnc,hnm,hgetn⟩,⟨ra,rn,rc,rfl,hrl,hrc,hrm,hgetr⟩⟩:=k;have hlen:=hok.len;have hsize:=hok.size;have hslN:aL F4 h (λ_=>False) (.slice na nn nc) d.next:=⟨_,_,_,rfl,hnl,hnc,hnm,hgetn⟩
 have hslR:aL (.int .i64) h (λ_=>False) (.slice ra rn rc) d.rule:=⟨_,_,_,rfl,hrl,hrc,hrm,hgetr⟩
 subst hnl;generalize htgt:bA d=tgt;refine bJ ?_;refine af ?_;refine xp rfl (aA rfl (hk.cell (i:=0) rfl)) ?_;refine af ?_;refine xo rfl (aV.gk underlying130 H.K7 H.LH rfl rfl rfl (by omega) (by decide)) ?_;rintro _ h1 ⟨rfl,k1,e1⟩;have k1:bN Value.bool h1 h.size 4 (.slice (some ⟨h.size,0,none⟩) d.next.length d.next.length) (List.replicate d.next.length false):=by unfold bN;simpa using k1
 have hf0:gK (List.replicate d.next.length false)<=d.next.length:=by unfold gK;exact Nat.le_trans (List.length_filter_le _ _) (by simp)
 refine af ?_;refine fK (σ:=Nat×Bool×List Bool) (λq=>[(4,.bool q.2.1)]) (λq h'=>aj h h'/\bN Value.bool h' h.size 4 (.slice (some ⟨h.size,0,none⟩) d.next.length d.next.length) q.2.2/\q.2.2.length=d.next.length/\(q.2.1=true->gK q.2.2<q.1/\sC d q.1 q.2.2=tgt)/\(q.2.1=false->q.2.2=tgt)) (λq=>q.1+(if q.2.1 then 1 else 0)) ((d.next.length+1,true,List.replicate d.next.length false)) ⟨e1,k1,by simp,λ_=>⟨Nat.lt_succ_of_le hf0,htgt⟩,λk=>(by cases k)⟩ rfl ?_;rintro⟨n,ag,out⟩ g ⟨eg,ho,hol,hT,hF⟩ ih
 try dsimp only
 dsimp only at ho hol hT hF;refine af ?_;refine jS (λhag=>?_) (λhag=>?_)
 · subst hag;obtain⟨hfn,hcon⟩:=hT rfl;obtain⟨n,rfl⟩:∃m,n=m+1:=⟨n-1,by omega⟩
   rw[sC] at hcon;have hless:=jd d d.next.length 0 out false (by omega)
   generalize hps:cx d d.next.length 0 out false=ps at hcon hless
   refine af ?_;refine xp rfl (aA rfl ((hk.ah eg).cell (i:=0) rfl)) ?_;refine af ?_;refine fK (σ:=Nat×Bool×List Bool) (λq=>[(4,.bool q.2.1),(21,.int .i64 (q.1:Nat))]) (λq h'=>aj h h'/\bN Value.bool h' h.size 4 (.slice (some ⟨h.size,0,none⟩) d.next.length d.next.length) q.2.2/\q.2.2.length=d.next.length/\q.1<=d.next.length/\cx d (d.next.length-q.1) q.1 q.2.2 q.2.1=ps) (λq=>d.next.length-q.1) ((0,false,out)) ⟨eg,ho,hol,Nat.zero_le _,hps⟩ rfl ?_;rintro⟨k,ag,out⟩ g2 ⟨eg2,ho,hol,hkl,hcon2⟩ ih2
   try dsimp only
   dsimp only at ho hol hkl hcon2;refine af ?_;refine aN (λhlt=>?_) (λhlt=>?_)
   · have hkN:k<d.next.length:=by omega
     obtain⟨m,hm⟩:∃m,d.next.length-k=m+1:=⟨d.next.length-k-1,by omega⟩
     rw[hm,cx] at hcon2;obtain⟨r,hr⟩:∃r,d.next[k]? =some r:=⟨_,List.getElem?_eq_getElem hkN⟩
     obtain⟨oa',n',c',hv',_,_,_,hgetn⟩:=id (hslN.mv (Mv.ah eg2));cases hv';obtain⟨b1,o1,cs1,ha1,_,hrow1,rfl⟩:=hgetn k r hr;have hone:∀u∈cw r,u.oneCell'=true:=λu hu=>by simp[cw] at hu;obtain⟨_,_,rfl⟩:=hu;rfl
     obtain⟨bx,hbx⟩:∃bx,out[k]? =some bx:=⟨_,List.getElem?_eq_getElem (by omega)⟩
     have hgd:out.getD k false=bx:=by rw[List.getD_eq_getElem?_getD,hbx];rfl
     rw[hgd] at hcon2
     iterate 4 refine aQ ?_
     refine cI ?_;refine aR ?_;refine xp rfl (bZ rfl rfl k rfl ha1) ?_;refine xp rfl (cj rfl hrow1) ?_;refine xo rfl (cL) ?_;rintro _ g3 ⟨rfl,k6,e3,z3⟩;have k6:aC g3 g2.size 126 (List.replicate 256 (Value.int .i64 0)):=k6;refine af ?_;refine aO rfl (aZ rfl rfl k6 hone) ?_;rintro _ g4 ⟨rfl,k7,x7,z7⟩;have k7:aC g4 g2.size 126 (cw r):=by rw[<-CV r];exact k7
     have e4:aj g2 g4:=aj.only e3 x7 (Nat.le_refl _);have eg4:=eg2.trans e4;have ho4:=bN.ah ho e4;obtain⟨gg,c4,hv4,hgb,hglt,hcell,hfz,hset⟩:=ho4.at hbx;rw[hol] at hv4;cases hv4;refine cO ?_
     iterate 2 refine aQ ?_
     refine cI ?_
     iterate 2 refine aR ?_
     refine xp rfl (bZ rfl rfl k rfl rfl) ?_;refine xp rfl (aA rfl hcell) ?_;refine af ?_;refine jS (λhb=>?_) (λhb=>?_)
     · subst hb;rw[if_pos rfl] at hcon2;refine af ?_;exact ih2 (k+1,ag,out) ⟨eg4,ho4,hol,hkN,by show cx d (d.next.length-(k+1)) _ _ _=ps;rw[show d.next.length-(k+1)=m by omega];exact hcon2⟩
     · subst hb;rw[if_neg (by decide)] at hcon2;obtain⟨x,hx⟩:∃x,d.rule[k]? =some x:=⟨_,List.getElem?_eq_getElem (by omega)⟩
       have hru:d.ru k=x:=by unfold bW.ru;rw[List.getD_eq_getElem?_getD,hx];rfl
       have hrow:d.row k=r.v:=by unfold bW.row;rw[hr]
       obtain⟨oa',n',c',hv',_,_,_,hgetr⟩:=id (hslR.mv (Mv.ah eg4));cases hv';obtain⟨b2,o2,cs2,ha2,_,hrow2,rfl⟩:=hgetr k x hx;refine af ?_;refine xp rfl (aA rfl ((hk.ah eg4).cell (i:=1) rfl)) ?_;refine aR ?_;refine xp rfl (bZ rfl rfl k rfl ha2) ?_;refine xp rfl (aA rfl (hrow2 0 _ rfl)) ?_;refine aR ?_;refine xp rfl (bZ rfl rfl k rfl rfl) ?_;refine aO rfl (bf H.Cv rfl rfl rfl hcell hfz) ?_;rintro _ g5 ⟨rfl,hg5⟩;have hset:=hset (decide (0<=x));rw[<-hg5] at hset;have x5:Ext (λb=>b=h.size) g4 g5:=by rw[hg5];exact Ext.dx _ _ _ rfl
       have e5:aj h g5:=aj.only eg4 x5 (Nat.le_refl _);have hz2:=eg2.size;have hlt2:h.size<g2.size:=(aB.lt ho rfl).2;have k8:=k7.ext x5 (by show ¬_=_;omega);refine af ?_;refine xp rfl (cj rfl k8.row) ?_;refine af ?_;refine fK (σ:=Nat) (λj=>[(42,.int .i64 (j:Nat))]) (λj h'=>aj h h'/\bN Value.bool h' h.size 4 (.slice (some ⟨h.size,0,none⟩) d.next.length d.next.length) (out.set k (decide (0<=x) ||(r.v.take j).any (gH out)))/\j<=256) (λj=>256-j) (0) ⟨e5,by simpa using hset,Nat.zero_le _⟩ rfl ?_;rintro j g6 ⟨eg6,ho6,hj⟩ ih3;refine af ?_;refine aN (λhlt3=>?_) (λhlt3=>?_)
       · have hj2:j<256:=by omega
         obtain⟨t,ht⟩:∃t,r.v[j]? =some t:=⟨_,List.getElem?_eq_getElem (by rw[r.len];exact hj2)⟩
         have htr:(r.v.take (j+1)).any (gH out)=((r.v.take j).any (gH out) ||gH out t):=by rw[List.take_add_one,ht,List.any_append];simp
         have htm:=hok.to r (List.mem_of_getElem? hr) t (List.mem_of_getElem? ht);generalize hc:(decide (0<=x) ||(r.v.take j).any (gH out))=cb at ho6;have hcell6:(out.set k cb)[k]? =some cb:=by rw[List.getElem?_set_self (by rw[hol];exact hkN)]
         obtain⟨gg,c6,hv6,_,_,hcc6,hfz6,hset6⟩:=ho6.at hcell6;rw[List.length_set,hol] at hv6;cases hv6
         have fin:∀y g7,y=(decide (0<=x) ||(r.v.take (j+1)).any (gH out))->g7=dx g6 ⟨h.size,0+k*1,none⟩ (.bool y)->aj h g7/\bN Value.bool g7 h.size 4 (.slice (some ⟨h.size,0,none⟩) d.next.length d.next.length) (out.set k (decide (0<=x) ||(r.v.take (j+1)).any (gH out)))/\j+1<=256:=by
          rintro y g7 rfl rfl;have k9:=hset6 (decide (0<=x) ||(r.v.take (j+1)).any (gH out));rw[List.set_set] at k9;exact⟨aj.only eg6 (Ext.dx (M:=λb=>b=h.size) g6 _ _ rfl) (Nat.le_refl _),k9,hj2⟩
         refine af ?_;refine xp rfl (az.xP underlying126 H.mW H.Nn rfl rfl j rfl hj2 (show (cw r).toArray[j]? =some (Value.int .i64 t) by simp[cw,ht])) ?_;refine aR ?_;refine cO ?_;refine cI ?_
         iterate 4 refine aR ?_
         refine xp rfl (bZ rfl rfl k rfl rfl) ?_;refine xp rfl (aA rfl hcc6) ?_;refine af ?_;refine cX 51 (λhg=>?_) (λhg=>?_)
         · iterate 8 refine Ks ?_
           refine aR ?_;refine xp rfl (bZ rfl rfl k rfl rfl) ?_;refine aO rfl (bf H.Cv rfl rfl rfl hcc6 hfz6) ?_;rintro _ g7 ⟨rfl,hg7⟩;refine af ?_;exact ih3 (j+1) (fin true g7 (by rw[htr,<-Bool.or_assoc,hc,hg];rfl) hg7)
         · refine af ?_;refine cX 54 (λhg2=>?_) (λhg2=>?_)
           · have hg2':=of_decide_eq_true hg2;obtain⟨t2,rfl⟩:=Int.eq_ofNat_of_zero_le hg2';obtain⟨bt,hbt⟩:∃bt,(out.set k cb)[t2]? =some bt:=⟨_,List.getElem?_eq_getElem (by rw[List.length_set,hol];omega)⟩
             obtain⟨gg,c6,hv6,_,_,hct,_,_⟩:=ho6.at hbt;rw[List.length_set,hol] at hv6;cases hv6
             have hlt2:gH out (t2:Nat)=bt:=by
              unfold gH;rw[decide_eq_true (show (0:Int)<=(t2:Nat) by omega),Bool.true_and,Int.toNat_natCast,List.getD_eq_getElem?_getD]
              by_cases e:k=t2
              · subst e;rw[hcell6] at hbt;cases hbt;rw[hbx,hg];rfl
              · rw[List.getElem?_set_ne e] at hbt;rw[hbt];rfl
             iterate 2 refine aR ?_
             refine xp rfl (bZ rfl rfl t2 rfl rfl) ?_;refine xp rfl (aA rfl hct) ?_
             iterate 2 refine aR ?_
             refine xp rfl (bZ rfl rfl k rfl rfl) ?_;refine aO rfl (bf H.Cv rfl rfl rfl hcc6 hfz6) ?_;rintro _ g7 ⟨rfl,hg7⟩;refine af ?_;exact ih3 (j+1) (fin bt g7 (by rw[htr,<-Bool.or_assoc,hc,hg,hlt2,Bool.false_or]) hg7)
           · have hg2':=of_decide_eq_false hg2
             iterate 4 refine Ks ?_
             iterate 2 refine aR ?_
             refine xp rfl (bZ rfl rfl k rfl rfl) ?_;refine aO rfl (bf H.Cv rfl rfl rfl hcc6 hfz6) ?_;rintro _ g7 ⟨rfl,hg7⟩;refine af ?_;exact ih3 (j+1) (fin false g7 (by rw[htr,<-Bool.or_assoc,hc,hg];unfold gH;rw[decide_eq_false hg2'];rfl) hg7)
       · have hje:j=256:=by omega
         have hla:(decide (0<=x) ||(r.v.take j).any (gH out))=dO d out k:=by
          unfold dO;rw[hru,hrow,hje,List.take_of_length_le (by rw[r.len];exact Nat.le_refl _)]
         rw[hla] at ho6;have hcell6:(out.set k (dO d out k))[k]? =some (dO d out k):=by rw[List.getElem?_set_self (by rw[hol];exact hkN)]
         obtain⟨gg,c6,hv6,_,_,hcc6,hfz6,_⟩:=ho6.at hcell6;rw[List.length_set,hol] at hv6;cases hv6;refine aQ ?_;refine dU [(4,.bool (ag ||dO d out k))] rfl ?_ ?_
         · refine af ?_;refine cX 64 (λhg=>?_) (λhg=>?_)
           · refine af ?_;exact aD rfl ⟨ai rfl (by rw[hg];rfl),sb rfl⟩
           · iterate 2 refine aR ?_
             refine xp rfl (bZ rfl rfl k rfl rfl) ?_;refine xp rfl (aA rfl hcc6) ?_;refine af ?_;exact aD rfl ⟨ai rfl (by rw[hg];rfl),sb rfl⟩
         · refine af ?_;exact ih2 (k+1,ag ||dO d out k,out.set k (dO d out k)) ⟨eg6,ho6,by show (out.set k _).length=_;rw[List.length_set];exact hol,hkN,by show cx d (d.next.length-(k+1)) _ _ _=ps;rw[show d.next.length-(k+1)=m by omega];exact hcon2⟩
   · have hke:d.next.length-k=0:=by omega
     rw[hke,cx] at hcon2;subst hcon2;simp only at hcon hless;refine af ?_
     exact ih (n,ag,out) ⟨eg2,ho,hol,λht=>by
      subst ht;rw[if_pos rfl] at hcon
      rcases hless.2 rfl with k|k
      · cases k
      · exact⟨by show gK out<n;omega,hcon⟩,λhf=>by
      subst hf;rw[if_neg (by decide)] at hcon;exact hcon⟩ (by show n+(if ag=true then 1 else 0)<n+1+(if true=true then 1 else 0);rw[if_pos rfl];split<;>omega)
 · subst hag;have hcon:=hF rfl;refine af ?_;refine aP ?_;exact⟨_,rfl,by rw[<-hcon];unfold bN at ho ⊢;rw[hol] at ho ⊢;exact ho,eg⟩
end Go.Proofs.YtnjahnbpnpkmhaaGreatDoor
namespace Go.Proofs.YtnjahnbpnpkmhaaGreatDoor
open Go
def lH:Nat->List (List Int)->List Int->Option Nat
  |_,[],_=>none
  |i,x::r,l=>if l=x then some i else lH (i+1) r l
theorem rC:∀(ls:List (List Int)) (i j:Nat) (l:List Int),lH i ls l=some j->i<=j/\ls[j-i]? =some l
  | [],i,j,l,h=>by cases h
  |x::r,i,j,l,h=>by
    rw[lH] at h;split at h
    · rename_i e;cases h;subst e;exact⟨Nat.le_refl _,by simp⟩
    · have:=rC r (i+1) j l h;refine⟨by omega,?_⟩;rw[show j-i=(j-(i+1))+1 by omega,List.getElem?_cons_succ];exact this.2
def cA (live:List Bool) (cls:List Int) (t:Int):Int:=if t<0\/live.getD t.toNat false=false then -2 else cls.getD t.toNat 0
def fM (d:bW) (live:List Bool) (cls:List Int) (k:Nat):List Int:=cls.getD k 0::(d.row k).map (cA live cls)
def br (d:bW) (live:List Bool) (cls:List Int):Nat->Nat->List (List Int)->List Int->List (List Int)×List Int
  | 0,_,seen,after=>(seen,after)
  |n+1,k,seen,after =>
    match lH 0 seen (fM d live cls k) with
    |some i=>br d live cls n (k+1) seen (after++[(i:Int)])
    |none=>br d live cls n (k+1) (seen++[fM d live cls k]) (after++[(seen.length:Int)])
def lU (d:bW) (live:List Bool):Nat->Nat->List Int->List Int
  | 0,_,cls=>cls
  |n+1,many,cls =>
    if (br d live cls d.next.length 0 [] []).1.length=many then (br d live cls d.next.length 0 [] []).2
    else lU d live n (br d live cls d.next.length 0 [] []).1.length (br d live cls d.next.length 0 [] []).2
def eE (d:bW) (live:List Bool):List Int:=lU d live (d.next.length+1) 0 d.rule
def kT (m:Nat) (l:List Int):Prop:=∀i,i<m->(i:Int)∈l
theorem rE:∀(m:Nat) (l:List Int),kT m l->m<=l.length
  | 0,_,_=>Nat.zero_le _
  |m+1,l,h=>by
    have hm:=h m (Nat.lt_succ_self m);have h1:kT m (l.erase (m:Int)):=λi hi=>(List.mem_erase_of_ne (by omega)).2 (h i (by omega))
    have h2:=rE m _ h1;have h3:=List.length_erase_of_mem hm;have h4:0<l.length:=List.length_pos_of_mem hm;omega
structure Fj (d:bW) (live:List Bool) (cls:List Int) (k:Nat) (seen:List (List Int)) (after:List Int):Prop where
  len:after.length=k
  size:seen.length<=k
  nums:kT seen.length after
  bound:∀x∈after,0<=x/\x<seen.length
  all:∀j,j<k->fM d live cls j∈seen
theorem nQ {d:bW}{live:List Bool}{cls:List Int}:∀(n k:Nat) (seen:List (List Int)) (after:List Int),Fj d live cls k seen after->Fj d live cls (k+n) (br d live cls n k seen after).1 (br d live cls n k seen after).2
  | 0,k,seen,after,h=>h
  |n+1,k,seen,after,h=>by
    rw[br,show k+(n+1)=(k+1)+n by omega];split
    · rename_i i hi;have J:=rC seen 0 i _ hi;have hil:=(List.getElem?_eq_some_iff.1 J.2).1
      exact nQ n (k+1) _ _ ⟨by simp[h.len],by have:=h.size;omega,λj I=>List.mem_append_left _ (h.nums j I),λx U=>by
        rcases List.mem_append.1 U with e|e
        · exact h.bound x e
        · have:x=(i:Int):=by simpa using e
          rw[this];omega,λj I=>by
        by_cases e:j=k
        · subst e;exact List.mem_of_getElem? J.2
        · exact h.all j (by omega)⟩
    · exact nQ n (k+1) _ _ ⟨by simp[h.len],by have:=h.size;simp;omega,λj I=>by
        simp only[List.length_append,List.length_singleton] at I
        by_cases e:j=seen.length
        · subst e;simp
        · exact List.mem_append_left _ (h.nums j (by omega)),λx U=>by
        simp only[List.length_append,List.length_singleton]
        rcases List.mem_append.1 U with e|e
        · have:=h.bound x e;omega
        · have:x=(seen.length:Int):=by simpa using e
          omega,λj I=>by
        by_cases e:j=k
        · subst e;simp
        · exact List.mem_append_left _ (h.all j (by omega))⟩
theorem fA (d:bW) (live:List Bool) (cls:List Int):Fj d live cls d.next.length (br d live cls d.next.length 0 [] []).1 (br d live cls d.next.length 0 [] []).2:=by
  have:=nQ (d:=d) (live:=live) (cls:=cls) d.next.length 0 [] [] ⟨rfl,Nat.le_refl _,λi hi=>absurd hi (Nat.not_lt_zero _),λx I=>(by cases I),λj J=>absurd J (Nat.not_lt_zero _)⟩
  rwa [Nat.zero_add] at this
theorem pI {d:bW}{live:List Bool}{cls:List Int}{many:Nat}(hc:kT many cls) (hl:cls.length=d.next.length):many<=(br d live cls d.next.length 0 [] []).1.length:=by
  have h:=fA d live cls
  have:kT many ((br d live cls d.next.length 0 [] []).1.map λs=>s.getD 0 0):=λi hi=>by
    obtain⟨k,hk⟩:=List.getElem?_of_mem (hc i hi);have hkl:=(List.getElem?_eq_some_iff.1 hk).1;have:=h.all k (by omega);refine List.mem_map.2 ⟨_,this,?_⟩;simp[fM,List.getD_eq_getElem?_getD,hk]
  have:=rE _ _ this;simpa using this
end Go.Proofs.YtnjahnbpnpkmhaaGreatDoor
namespace Go.Proofs.YtnjahnbpnpkmhaaGreatDoor
open Go.Proofs.Tryz
open Go Go.Lw
set_option maxRecDepth 20000 set_option maxHeartbeats 4000000
section
variable {live:List Bool}{cls:List Int}
def iH:Nat->List (List Int)->List (ByteArray×Int)
 |_,[]=>[]
 |i,x::r=>(bs (gV x),(i:Int))::iH (i+1) r
theorem wD:∀(ls:List (List Int)) (i:Nat) (l:List Int),iH i (ls++[l])=iH i ls++[(bs (gV l),((i+ls.length:Nat):Int))]
 | [],i,l=>by simp[iH]
 |x::r,i,l=>by
  simp only[List.cons_append,iH];rw[wD r (i+1) l,List.length_cons,show i+1+r.length=i+(r.length+1) by omega]
theorem tF:∀(ls:List (List Int)) (i:Nat),(iH i ls).length=ls.length
 | [],_=>rfl
 |x::r,i=>by rw[iH,List.length_cons,List.length_cons,tF r (i+1)]
theorem mS:∀(ls:List (List Int)) (i:Nat) (l:List Int),mY (bs (gV l)) (iH i ls)=(lH i ls l).map λj=>(j:Int)
 | [],i,l=>rfl
 |x::r,i,l=>by
  rw[iH,mY,lH]
  by_cases h:l=x
  · subst h;rw[if_pos rfl,if_pos rfl];rfl
  · have hk:¬bs (gV l)=bs (gV x):=λe=>h (key_inj (dF e))
    rw[if_neg hk,if_neg h];exact mS r (i+1) l
theorem yx {t:Int}(h:t<0\/live.getD t.toNat false=false):cA live cls t= -2:=if_pos h
theorem E6 {t:Int}(h:¬(t<0\/live.getD t.toNat false=false)):cA live cls t=cls.getD t.toNat 0:=if_neg h
theorem uT (I:∀x∈cls,-1<=x/\x<=1000000) (k:Nat) : -1<=cls.getD k 0/\cls.getD k 0<=1000000:=by
 rw[List.getD_eq_getElem?_getD];cases hk:cls[k]? with
 |none=>simp
 |some x=>exact I x (List.mem_of_getElem? hk)
theorem A0 {d:bW}(I:∀x∈cls,-1<=x/\x<=1000000) (k:Nat):∀x∈fM d live cls k,-9223372036854775808<=x/\x<=9223372036854775807:=by
 intro x J
 rcases List.mem_cons.1 J with e|e
 · have:=uT I k;omega
 · obtain⟨t,_,rfl⟩:=List.mem_map.1 e;unfold cA;split
   · omega
   · have:=uT I t.toNat;omega
theorem xZ:∀(ls:List (List Int)) (i:Nat) (l:List Int),lH i ls l=none->lH i (ls++[l]) l=some (i+ls.length)
 | [],i,l,_=>by simp[lH]
 |x::r,i,l,h=>by
  rw[lH] at h;split at h
  · cases h
  · rename_i I;rw[List.cons_append,lH,if_neg I,xZ r (i+1) l h,List.length_cons]
    congr 1;omega
theorem zx {h:aq}{db:Nat}{d:bW}{lv:Value}(htens:vI h) (k:qK h db d) (hok:d.Ok) (hlv:aL .bool h (λ_=>False) lv live) (hll:live.length=d.next.length) :
 au prog 51 #[.pointer (some ⟨db,0,none⟩),lv] h (bK λr h'=>bN (Value.int .i64) h' h.size 3 r (eE d live)/\aj h h'):=by
 obtain⟨vn,vr,hk,⟨na,nn,nc,rfl,hnl,hnc,hnm,hgetn⟩,⟨ra,rn,rc,rfl,hrl,hrc,hrm,hgetr⟩⟩:=k;obtain⟨va,vm,vc,rfl,hvl,hvc,hvm,hgetv⟩:=hlv;have hlen:=hok.len;have hsize:=hok.size;have hslN:aL F4 h (λ_=>False) (.slice na nn nc) d.next:=⟨_,_,_,rfl,hnl,hnc,hnm,hgetn⟩
 have hslR:aL (.int .i64) h (λ_=>False) (.slice ra rn rc) d.rule:=⟨_,_,_,rfl,hrl,hrc,hrm,hgetr⟩
 have hslV:aL .bool h (λ_=>False) (.slice va vm vc) live:=⟨_,_,_,rfl,hvl,hvc,hvm,hgetv⟩
 subst hnl;generalize htgt:eE d live=tgt;refine bJ ?_;refine af ?_;refine xp rfl (aA rfl (hk.cell (i:=0) rfl)) ?_;refine af ?_;refine xo rfl (aV.gk underlying100 H.Oi H.Pv rfl rfl rfl (by omega) (by decide)) ?_;rintro _ h1 ⟨rfl,k1,e1⟩;have k1:bN (Value.int .i64) h1 h.size 3 (.slice (some ⟨h.size,0,none⟩) d.next.length d.next.length) (List.replicate d.next.length 0):=by unfold bN;simpa using k1
 refine af ?_;refine fK (σ:=Nat) (λi=>[(26,.int .i64 (i:Nat))]) (λi h'=>aj h h'/\bN (Value.int .i64) h' h.size 3 (.slice (some ⟨h.size,0,none⟩) d.next.length d.next.length) (d.rule.take i++List.replicate (d.next.length-i) 0)/\i<=d.next.length) (λi=>d.next.length-i) (0) ⟨e1,by simpa using k1,Nat.zero_le _⟩ rfl ?_;rintro i g ⟨eg,ho,hi⟩ ih;refine af ?_;refine aN (λhlt=>?_) (λhlt=>?_)
 · have hiN:i<d.next.length:=by omega
   obtain⟨x,hx⟩:∃x,d.rule[i]? =some x:=⟨_,List.getElem?_eq_getElem (by omega)⟩
   have hxe:d.rule[i]'(by omega)=x:=(List.getElem?_eq_some_iff.1 hx).2;obtain⟨oa',n',c',hv',_,_,_,hgetr⟩:=id (hslR.mv (Mv.ah eg));cases hv';obtain⟨b2,o2,cs2,ha2,_,hrow2,rfl⟩:=hgetr i x hx;obtain⟨gg,c4,hv4,hgb,hglt,hcell,hfz,hset⟩:=ho.at (DC (z:=(0:Int)) hlen hiN);rw[DB hlen hi] at hv4;cases hv4;refine af ?_;refine xp rfl (aA rfl ((hk.ah eg).cell (i:=1) rfl)) ?_;refine aR ?_;refine xp rfl (bZ rfl rfl i rfl ha2) ?_;refine xp rfl (aA rfl (hrow2 0 _ rfl)) ?_;refine xp rfl (bZ rfl rfl i rfl rfl) ?_;refine aO rfl (bf H.mW rfl rfl rfl hcell hfz) ?_;rintro _ g2 ⟨rfl,hg2⟩;have hset:=hset x;rw[<-hg2,<-hxe,Dz hlen hiN] at hset;have x2:Ext (λb=>b=h.size) g g2:=by rw[hg2];exact Ext.dx _ _ _ rfl
   have e2:aj h g2:=aj.only eg x2 (Nat.le_refl _);refine af ?_;exact ih (i+1) ⟨e2,hset,hiN⟩
 · obtain rfl:i=d.next.length:=by omega
   rw[Nat.sub_self,List.replicate_zero,List.append_nil,List.take_of_length_le (by omega)] at ho;refine af ?_;refine fK (σ:=Nat×Nat×Value×List Int) (λq=>[(5,q.2.2.1),(7,.int .i64 (q.2.1:Nat))]) (λq h'=>aj h h'/\bN (Value.int .i64) h' h.size 3 q.2.2.1 q.2.2.2/\q.2.2.2.length=d.next.length/\(∀x∈q.2.2.2,-1<=x/\x<=1000000)/\(q.2.1<=d.next.length/\kT q.2.1 q.2.2.2/\d.next.length+1<=q.1+q.2.1)/\lU d live q.1 q.2.1 q.2.2.2=tgt) (λq=>q.1) ((d.next.length+1,0,.slice (some ⟨h.size,0,none⟩) d.next.length d.next.length,d.rule)) ⟨eg,ho,hlen,hok.ru,⟨Nat.zero_le _,λi hi=>absurd hi (Nat.not_lt_zero _),by simp⟩,htgt⟩ rfl ?_;rintro⟨n,many,vcl,cls⟩ g ⟨eg,ho,hcl,hcb,⟨hmN,hcov,hfuel⟩,hcon⟩ ih
   try dsimp only
   dsimp only at ho hcl hcb hmN hcov hfuel hcon;obtain⟨n,rfl⟩:∃m,n=m+1:=⟨n-1,by omega⟩
   rw[lU] at hcon;have hmore:=pI (d:=d) (live:=live) hcov hcl;have hend:=fA d live cls;generalize hps:br d live cls d.next.length 0 [] []=ps at hcon hmore hend
   obtain⟨la,lc,rfl,_⟩:=(show aB g h.size 3 1 vcl cls.length (cls.map (Value.int .i64)) from ho).open;rw[hcl] at ho;have hown:∀b,(Value.slice la d.next.length lc).ownBlock=some b->b<g.size:=λb hb=>(aB.lt ho hb).2
   rw[hcl];refine af ?_;refine xo rfl (pS (ek:=Value.string) (ev:=Value.int .i64)) ?_;rintro _ g1 ⟨rfl,hm1,e1',z1⟩;refine af ?_;refine xo rfl (aV.gk underlying100 H.Oi H.Pv rfl rfl rfl (by omega) (by decide)) ?_;rintro _ g2 ⟨rfl,k2,e2⟩;have k2:bN (Value.int .i64) g2 g1.size 3 (.slice (some ⟨g1.size,0,none⟩) d.next.length d.next.length) (List.replicate d.next.length 0):=by unfold bN;simpa using k2
   have hm2:=hm1.ext e2 (λk=>k);have e12:=e1'.trans e2;refine af ?_;refine xp rfl (aA rfl ((hk.ah (eg.trans e12)).cell (i:=0) rfl)) ?_;refine af ?_;refine fK (σ:=Nat×List (List Int)×List Int) (λq=>[(49,.int .i64 (q.1:Nat))]) (λq h'=>aj g h'/\fU Value.string (Value.int .i64) h' g.size (iH 0 q.2.1)/\bN (Value.int .i64) h' g1.size 3 (.slice (some ⟨g1.size,0,none⟩) d.next.length d.next.length) (q.2.2++List.replicate (d.next.length-q.1) 0)/\(q.1<=d.next.length/\q.2.2.length=q.1/\q.2.1.length<=q.1)/\br d live cls (d.next.length-q.1) q.1 q.2.1 q.2.2=ps) (λq=>d.next.length-q.1) ((0,[],[])) ⟨e12,hm2,k2,⟨Nat.zero_le _,rfl,Nat.le_refl _⟩,hps⟩ rfl ?_;rintro⟨k,seen,after⟩ g3 ⟨e3,hmp,haf,⟨hkN,hal,hsl⟩,hcon2⟩ ih2
   try dsimp only
   dsimp only at hmp haf hkN hal hsl hcon2;have eg3:=eg.trans e3;have ho3:=bN.ah ho e3;refine af ?_;refine aN (λhlt=>?_) (λhlt=>?_)
   · have hkN:k<d.next.length:=by omega
     obtain⟨m,hm⟩:∃m,d.next.length-k=m+1:=⟨d.next.length-k-1,by omega⟩
     rw[hm,br] at hcon2;obtain⟨r,hr⟩:∃r,d.next[k]? =some r:=⟨_,List.getElem?_eq_getElem hkN⟩
     obtain⟨oa',n',c',hv',_,_,_,hgetn⟩:=id (hslN.mv (Mv.ah eg3));cases hv';obtain⟨b1,o1,cs1,ha1,_,hrow1,rfl⟩:=hgetn k r hr;have hone:∀u∈cw r,u.oneCell'=true:=λu hu=>by simp[cw] at hu;obtain⟨_,_,rfl⟩:=hu;rfl
     have hrow:d.row k=r.v:=by unfold bW.row;rw[hr]
     iterate 4 refine aQ ?_
     refine cI ?_;refine aR ?_;refine xp rfl (bZ rfl rfl k rfl ha1) ?_;refine xp rfl (cj rfl hrow1) ?_;refine xo rfl (cL) ?_;rintro _ g4 ⟨rfl,k4,e4,z4⟩;have k4:aC g4 g3.size 126 (List.replicate 256 (Value.int .i64 0)):=k4;refine af ?_;refine aO rfl (aZ rfl rfl k4 hone) ?_;rintro _ g5 ⟨rfl,k5,x5,z5⟩;have k5:aC g5 g3.size 126 (cw r):=by rw[<-CV r];exact k5
     have e5:aj g3 g5:=aj.only e4 x5 (Nat.le_refl _);have ho5:=bN.ah ho3 e5;obtain⟨c,hc⟩:∃c,cls[k]? =some c:=⟨_,List.getElem?_eq_getElem (by omega)⟩
     have hgd:cls.getD k 0=c:=by rw[List.getD_eq_getElem?_getD,hc];rfl
     obtain⟨gg,c4,hv4,hgb,hglt,hcell,hfz,hset⟩:=ho5.at hc;rw[hcl] at hv4;have hla:la=some ⟨gg,0,none⟩:=by cases hv4;rfl
     refine cO ?_;refine aQ ?_;refine cI ?_
     iterate 2 refine aR ?_
     refine xp rfl (bZ rfl rfl k rfl hla) ?_;refine xp rfl (aA rfl hcell) ?_;have e56:aj g5 (g5.push (.cells #[.int .i64 c] 3)):=Ext.push _ _ _;have hl6:bN (Value.int .i64) (g5.push (.cells #[.int .i64 c] 3)) g5.size 3 (.slice (some ⟨g5.size,0,none⟩) 1 1) [c]:=iA (Value.int .i64) g5 3 [c] 1 rfl (by decide) g5.size (Nat.le_refl _) rfl;refine xo rfl (iD [_]) ?_;rintro _ _ ⟨rfl,rfl⟩;refine af ?_;generalize g5.push (.cells #[.int .i64 c] 3)=g6 at *;have k6:=k5.ah e56;have e36:aj g3 g6:=e5.trans e56;have ho6:=bN.ah ho5 e56;have hz5:=e5.size;refine xp rfl (cj rfl k6.row) ?_;refine af ?_;refine fK (σ:=Nat×Value) (λq=>[(12,q.2),(60,.int .i64 (q.1:Nat))]) (λq h'=>aj g3 h'/\bN (Value.int .i64) h' g5.size 3 q.2 (c::(r.v.take q.1).map (cA live cls))/\q.1<=256/\g5.size<=h'.size) (λq=>256-q.1) ((0,.slice (some ⟨g5.size,0,none⟩) 1 1)) ⟨e36,hl6,Nat.zero_le _,e56.size⟩ rfl ?_;rintro⟨j,vl⟩ g7 ⟨e7,hl7,hj,hz7⟩ ih3
     try dsimp only
     dsimp only at hl7 hj;have eg7:=eg3.trans e7;have ho7:=bN.ah ho3 e7;have hlen7:(c::(r.v.take j).map (cA live cls)).length=j+1:=by simp[r.len];omega
     refine af ?_;refine aN (λhlt3=>?_) (λhlt3=>?_)
     · have hj2:j<256:=by omega
       obtain⟨t,ht⟩:∃t,r.v[j]? =some t:=⟨_,List.getElem?_eq_getElem (by rw[r.len];exact hj2)⟩
       have htm:=hok.to r (List.mem_of_getElem? hr) t (List.mem_of_getElem? ht);have htr:c::(r.v.take (j+1)).map (cA live cls)=(c::(r.v.take j).map (cA live cls))++[cA live cls t]:=by rw[List.take_add_one,ht];simp
       have hlo:aB g7 g5.size 3 1 vl (c::(r.v.take j).map (cA live cls)).length ((c::(r.v.take j).map (cA live cls)).map (Value.int .i64)):=hl7;have hlo2:=hlo;rw[hlen7] at hlo2;obtain⟨wa,wc,rfl,_⟩:=hlo2.open;have hl8:bN (Value.int .i64) g7 g5.size 3 (.slice wa (j+1) wc) (c::(r.v.take j).map (cA live cls)):=hl7
       have fin:∀v8 g8 x,aB g8 g5.size 3 1 v8 (j+1+1) ((c::(r.v.take j).map (cA live cls)).map (Value.int .i64)++[.int .i64 x])->Ext (bU (Value.slice wa (j+1) wc).ownBlock) g7 g8->x=cA live cls t->aj g3 g8/\bN (Value.int .i64) g8 g5.size 3 v8 (c::(r.v.take (j+1)).map (cA live cls))/\j+1<=256/\g5.size<=g8.size:=by
        rintro v8 g8 x ho hx rfl;refine⟨bN.grown e7 hl8 hz5 hx,?_,hj2,Nat.le_trans hz7 hx.size⟩;rw[htr];exact bN.of ho hlen7.symm rfl rfl
       refine af ?_;refine xp rfl (az.xP underlying126 H.mW H.Nn rfl rfl j rfl hj2 (show (cw r).toArray[j]? =some (Value.int .i64 t) by simp[cw,ht])) ?_;refine aR ?_;refine cO ?_;refine aQ ?_;refine cI ?_
       iterate 3 refine aR ?_
       refine cX 65 (λhg=>?_) (λhg=>?_)
       · have hg':=of_decide_eq_true hg;refine af ?_;refine dc rfl (by simp) ?_;refine af ?_;refine xo rfl (iD [_]) ?_;rintro _ _ ⟨rfl,rfl⟩;refine xo rfl (vL rfl rfl hlo2 rfl rfl) ?_;rintro v8 g8 ⟨ho8,hx8,hx8',hv8⟩;have ff:=fin v8 g8 (-2) ho8 hx8 (yx (.inl hg')).symm;obtain⟨v8a,v8c,rfl,_⟩:=ho8.open;refine af ?_;exact ih3 (j+1,_) ff
       · have hg':=of_decide_eq_false hg;obtain⟨t2,rfl⟩:=Int.eq_ofNat_of_zero_le (show 0<=t by omega);obtain⟨bt,hbt⟩:∃bt,live[t2]? =some bt:=⟨_,List.getElem?_eq_getElem (by omega)⟩
         have hlt2:live.getD t2 false=bt:=by rw[List.getD_eq_getElem?_getD,hbt];rfl
         obtain⟨oa',n',c',hv',_,_,_,hgetv⟩:=id (hslV.mv (Mv.ah eg7));cases hv';obtain⟨b3,o3,cs3,ha3,_,hrow3,rfl⟩:=hgetv t2 bt hbt
         iterate 2 refine aR ?_
         refine xp rfl (bZ rfl rfl t2 rfl ha3) ?_;refine xp rfl (aA rfl (hrow3 0 _ rfl)) ?_;refine af ?_;refine jS (λhb=>?_) (λhb=>?_)
         · have hb':bt=false:=by simpa using hb
           refine af ?_;refine xo rfl (iD [_]) ?_;rintro _ _ ⟨rfl,rfl⟩;refine xo rfl (vL rfl rfl hlo2 rfl rfl) ?_;rintro v8 g8 ⟨ho8,hx8,hx8',hv8⟩;have ff:=fin v8 g8 (-2) ho8 hx8 (yx (.inr (by show live.getD t2 false=false;rw[hlt2,hb']))).symm;obtain⟨v8a,v8c,rfl,_⟩:=ho8.open;refine af ?_;exact ih3 (j+1,_) ff
         · have hb':bt=true:=by simpa using hb
           obtain⟨c2,hc2⟩:∃c2,cls[t2]? =some c2:=⟨_,List.getElem?_eq_getElem (by omega)⟩
           have hgd2:cls.getD t2 0=c2:=by rw[List.getD_eq_getElem?_getD,hc2];rfl
           obtain⟨gg2,c42,hv42,hgb2,hglt2,hcell2,hfz2,hset2⟩:=ho7.at hc2;rw[hcl] at hv42;have hla2:la=some ⟨gg2,0,none⟩:=by cases hv42;rfl
           refine cI ?_
           iterate 3 refine aR ?_
           refine xp rfl (bZ rfl rfl t2 rfl hla2) ?_;refine xp rfl (aA rfl hcell2) ?_;refine xo rfl (iD [_]) ?_;rintro _ _ ⟨rfl,rfl⟩;refine xo rfl (vL rfl rfl hlo2 rfl rfl) ?_;rintro v8 g8 ⟨ho8,hx8,hx8',hv8⟩
           have ff:=fin v8 g8 c2 ho8 hx8 (by
            rw[E6 (by
             rintro(e|e)
             · exact hg' e
             · rw[Int.toNat_natCast,hlt2,hb'] at e;cases e),Int.toNat_natCast,hgd2])
           obtain⟨v8a,v8c,rfl,_⟩:=ho8.open;refine af ?_;exact ih3 (j+1,_) ff
     · obtain rfl:j=256:=by omega
       have hkey:c::(r.v.take 256).map (cA live cls)=fM d live cls k:=by unfold fM;rw[hgd,hrow,List.take_of_length_le (by rw[r.len];exact Nat.le_refl _)]
       have hkb:=A0 (d:=d) (live:=live) hcb k;have hkl:(fM d live cls k).length<=1000000:=by rw[<-hkey,hlen7];decide
       rw[hkey] at hl7;generalize hkk:fM d live cls k=key at *;refine af ?_;refine xo rfl (aE rfl (tQ (O:=λ_=>False) (htens.ah eg7) (bN.read (h1:=λ_=>rfl) hl7 (λ_ _ k=>k)) hkl hkb)) ?_;rintro _ g8 ⟨rfl,e8⟩;have e38:aj g3 g8:=e7.trans e8;have eg8:aj g g8:=e3.trans e38;have mp8:=hmp.ext e38 (λk=>k);have haf8:=bN.ah haf e38
       have hk0:(after++List.replicate (d.next.length-k) (0:Int))[k]? =some 0:=by
        rw[List.getElem?_append_right (by omega),List.getElem?_replicate,if_pos (by omega)]
       have hl0:(after++List.replicate (d.next.length-k) (0:Int)).length=d.next.length:=by simp;omega
       have hsetA:∀y:Int,(after++List.replicate (d.next.length-k) (0:Int)).set k y=(after++[y])++List.replicate (d.next.length-(k+1)) 0:=λy=>by
        rw[List.set_append_right _ _ (by omega),hal,Nat.sub_self,show d.next.length-k=(d.next.length-(k+1))+1 by omega,List.replicate_succ,List.set_cons_zero];simp
       have hz12:=e1'.size
       have fin2:∀(gA gB:aq) (seen':List (List Int)) (y:Int),aj g gA->fU Value.string (Value.int .i64) gA g.size (iH 0 seen')->bN (Value.int .i64) gB g1.size 3 (.slice (some ⟨g1.size,0,none⟩) d.next.length d.next.length) ((after++List.replicate (d.next.length-k) (0:Int)).set k y)->gB=dx gA ⟨g1.size,0+k*1,none⟩ (.int .i64 y)->br d live cls m (k+1) seen' (after++[y])=ps->seen'.length<=k+1->aj g gB/\fU Value.string (Value.int .i64) gB g.size (iH 0 seen')/\bN (Value.int .i64) gB g1.size 3 (.slice (some ⟨g1.size,0,none⟩) d.next.length d.next.length) ((after++[y])++List.replicate (d.next.length-(k+1)) 0)/\(k+1<=d.next.length/\(after++[y]).length=k+1/\seen'.length<=k+1)/\br d live cls (d.next.length-(k+1)) (k+1) seen' (after++[y])=ps:=by
        rintro gA gB seen' y eA mA hB hgB hcp hsl';have xB:Ext (λb=>b=g1.size) gA gB:=by rw[hgB];exact Ext.dx _ _ _ rfl
        refine⟨aj.only eA xB hz12,mA.ext xB (by show ¬_=_;omega),?_,⟨hkN,by simp[hal],hsl'⟩,?_⟩
        · rw[<-hsetA];exact hB
        · rw[show d.next.length-(k+1)=m by omega];exact hcp
       refine af ?_;refine xp rfl (az.xq (z:=.int .i64 0) kQ underlying124 underlying9 (by kernel_rfl) rfl rfl rfl mp8) ?_;rw[mS]
       rcases hfind:lH 0 seen key with _|i0
       · rw[hfind] at hcon2;simp only at hcon2;have hnone:mY (bs (gV key)) (iH 0 seen)=none:=by rw[mS,hfind];rfl
         refine af ?_;refine dc rfl (by simp) ?_;refine af ?_;refine xp rfl (az.EJ underlying124 rfl (mp8)) ?_;refine aO rfl (lZ (v:=((iH 0 seen).length:Int)) kQ underlying124 underlying9 rfl rfl rfl rfl rfl mp8 hnone) ?_;rintro _ g9 ⟨rfl,mp9,x9,z9⟩;have mp9:fU Value.string (Value.int .i64) g9 g.size (iH 0 (seen++[key])):=by rw[wD,Nat.zero_add,<-tF seen 0];exact mp9
         have hsz8:=eg8.size;have e9:aj g g9:=aj.only eg8 x9 (Nat.le_refl _);have haf9:bN (Value.int .i64) g9 g1.size 3 (.slice (some ⟨g1.size,0,none⟩) d.next.length d.next.length) (after++List.replicate (d.next.length-k) (0:Int)):=aB.ext x9 haf8 (λb hb (e:b=g.size)=>by have:=(aB.lt haf8 hb).1;omega);obtain⟨gg3,c3,hv3,_,_,hcell3,hfz3,hset3⟩:=haf9.at hk0;rw[hl0] at hv3;cases hv3;have hasc:mY (bs (gV key)) (iH 0 (seen++[key]))=some ((seen.length:Nat):Int):=by rw[mS,xZ seen 0 key hfind,Nat.zero_add];rfl
         refine af ?_;refine xp rfl (rK (z:=.int .i64 0) kQ underlying124 underlying9 (by kernel_rfl) rfl rfl rfl mp9) ?_;rw[hasc,Option.map_some,Option.getD_some];refine xp rfl (bZ rfl rfl k rfl rfl) ?_;refine aO rfl (bf H.mW rfl rfl rfl hcell3 hfz3) ?_;rintro _ g10 ⟨rfl,hg10⟩;have hg10:g10=dx g9 ⟨g1.size,0+k*1,none⟩ (.int .i64 ((seen.length:Nat):Int)):=hg10;have hB:=hset3 ((seen.length:Nat):Int);rw[<-hg10] at hB;refine af ?_;exact ih2 (k+1,seen++[key],after++[((seen.length:Nat):Int)]) (fin2 g9 g10 _ _ e9 mp9 hB hg10 hcon2 (by simp;omega))
       · rw[hfind] at hcon2;simp only at hcon2;refine af ?_;refine dB rfl (by simp) ?_;obtain⟨gg3,c3,hv3,_,_,hcell3,hfz3,hset3⟩:=haf8.at hk0;rw[hl0] at hv3;cases hv3;have hasc:mY (bs (gV key)) (iH 0 seen)=some ((i0:Nat):Int):=by rw[mS,hfind];rfl
         refine af ?_;refine xp rfl (rK (z:=.int .i64 0) kQ underlying124 underlying9 (by kernel_rfl) rfl rfl rfl mp8) ?_;rw[hasc,Option.map_some,Option.getD_some];refine xp rfl (bZ rfl rfl k rfl rfl) ?_;refine aO rfl (bf H.mW rfl rfl rfl hcell3 hfz3) ?_;rintro _ g10 ⟨rfl,hg10⟩;have hg10:g10=dx g8 ⟨g1.size,0+k*1,none⟩ (.int .i64 ((i0:Nat):Int)):=hg10;have hB:=hset3 ((i0:Nat):Int);rw[<-hg10] at hB;refine af ?_;exact ih2 (k+1,seen,after++[((i0:Nat):Int)]) (fin2 g8 g10 _ _ eg8 mp8 hB hg10 hcon2 (Nat.le_succ_of_le hsl))
   · obtain rfl:k=d.next.length:=by omega
     rw[Nat.sub_self,List.replicate_zero,List.append_nil] at haf;rw[Nat.sub_self,br] at hcon2;subst hcon2;dsimp only at hcon hmore hend;have hm:=hend.size;have hsl':(iH 0 seen).length=seen.length:=tF seen 0
     have ha':bN (Value.int .i64) g3 h.size 3 (.slice (some ⟨g1.size,0,none⟩) d.next.length d.next.length) after:=yO (show aB g3 g1.size 3 1 _ after.length (after.map (Value.int .i64)) from haf) (λb hb=>by
      cases hb;have:=eg.size;have:=e1'.size
      show h.size<=g1.size
      omega)
     refine af ?_;refine xp rfl (az.EJ underlying124 rfl (hmp)) ?_;rw[hsl'];refine af ?_;refine aN (λheq=>?_) (λheq=>?_)
     · rw[if_pos (by omega)] at hcon;refine af ?_;refine aP ?_;exact⟨_,rfl,by rw[<-hcon];exact ha',eg3⟩
     · rw[if_neg (by omega)] at hcon;refine af ?_;refine xp rfl (az.EJ underlying124 rfl (hmp)) ?_;rw[hsl'];refine af ?_;exact ih (n,seen.length,_,after) ⟨eg3,ha',hal,λx hx=>by have:=hend.bound x hx;omega,⟨by show seen.length<=_;omega,hend.nums,by show _<=n+seen.length;omega⟩,hcon⟩
end
end Go.Proofs.YtnjahnbpnpkmhaaGreatDoor
namespace Go.Proofs.YtnjahnbpnpkmhaaGreatDoor
open Go
section
variable {of:List Nat}
def qG (cls:List Int):Nat->List Nat->Int->Option Nat
  |_,[],_=>none
  |i,x::r,c=>if c=cls.getD x 0 then some i else qG cls (i+1) r c
theorem yd {cls:List Int}:∀(of:List Nat) (i j:Nat) (c:Int),qG cls i of c=some j->i<=j/\∃x,of[j-i]? =some x/\c=cls.getD x 0
  | [],i,j,c,h=>by cases h
  |x::r,i,j,c,h=>by
    rw[qG] at h;split at h
    · rename_i e;cases h;exact⟨Nat.le_refl _,x,by simp,e⟩
    · obtain⟨h1,y,J,I⟩:=yd r (i+1) j c h;refine⟨by omega,y,?_,I⟩;rw[show j-i=(j-(i+1))+1 by omega,List.getElem?_cons_succ];exact J
theorem rD {cls:List Int}:∀(of:List Nat) (i:Nat) (c:Int),qG cls i of c=none->∀x∈of,c≠cls.getD x 0
  | [],i,c,h,x,I=>by cases I
  |y::r,i,c,h,x,I=>by
    rw[qG] at h;split at h
    · cases h
    · rename_i J
      rcases List.mem_cons.1 I with e|e
      · subst e;exact J
      · exact rD r (i+1) c h x e
def dh (live:List Bool) (cls:List Int) (of:List Nat) (t:Int):List Nat×Int :=
  if t<0\/live.getD t.toNat false=false then (of,-1) else
    match qG cls 0 of (cls.getD t.toNat 0) with
    |some i=>(of,(i:Int))
    |none=>(of++[t.toNat],(of.length:Int))
def gj (live:List Bool) (cls:List Int):List Int->List Nat->List Int->List Nat×List Int
  | [],of,row=>(of,row)
  |t::r,of,row=>gj live cls r (dh live cls of t).1 (row++[(dh live cls of t).2])
def Dc (d:bW) (live:List Bool) (cls:List Int):Nat->Nat->List Nat->List Row->List Int->bW
  | 0,_,_,next,rule=>⟨next,rule⟩
  |n+1,i,of,next,rule =>
    match of[i]? with
    |none=>⟨next,rule⟩
    |some k=>Dc d live cls n (i+1) (gj live cls (d.row k) of []).1 (next++[lF (gj live cls (d.row k) of []).2]) (rule++[d.ru k])
def nE (d:bW):bW:=if d.next.length=0 then ⟨[],[]⟩ else Dc d (bA d) (eE d (bA d)) (d.next.length+1) 0 [0] [] []
structure D2 (n:Nat) (of:List Nat):Prop where
  once:of.Nodup
  lt:∀x∈of,x<n
theorem CW:∀(n:Nat) (l:List Nat),l.Nodup->(∀x∈l,x<n)->l.length<=n
  | 0,[],_,_=>Nat.le_refl _
  | 0,x::l,_,h=>absurd (h x (by simp)) (Nat.not_lt_zero _)
  |n+1,l,hl,h=>by
    have h1:=CW n (l.erase n) (hl.erase n) (λx J=>by
      have:=(hl.mem_erase_iff).1 J;have:=h x this.2;omega)
    by_cases I:n∈l
    · have:=List.length_erase_of_mem I;omega
    · rw[List.erase_of_not_mem I] at h1;omega
theorem D2.len {n:Nat}(k:D2 n of):of.length<=n:=CW n of k.once k.lt
theorem xd {live:List Bool}{cls:List Int}{n:Nat}{t:Int}(k:D2 n of) (ht:t<n):D2 n (dh live cls of t).1:=by
  unfold dh;split
  · exact k
  · rename_i hn;split
    · exact k
    · rename_i hf;have hne:=rD of 0 _ hf;refine⟨List.nodup_append.2 ⟨k.once,by simp,λa ha b hb e=>?_⟩,λx hx=>?_⟩
      · have:b=t.toNat:=by simpa using hb
        subst e;subst this;exact hne _ ha rfl
      · rcases List.mem_append.1 hx with e|e
        · exact k.lt x e
        · have:x=t.toNat:=by simpa using e
          omega
theorem ED {live:List Bool}{cls:List Int}{t:Int}:of.length<=(dh live cls of t).1.length/\∀(i x:Nat),of[i]? =some x->(dh live cls of t).1[i]? =some x:=by
  unfold dh;split
  · exact⟨Nat.le_refl _,λ_ _ h=>h⟩
  · split
    · exact⟨Nat.le_refl _,λ_ _ h=>h⟩
    · exact⟨by simp,λi x h=>by rw[List.getElem?_append_left (List.getElem?_eq_some_iff.1 h).1];exact h⟩
end
end Go.Proofs.YtnjahnbpnpkmhaaGreatDoor
namespace Go.Proofs.YtnjahnbpnpkmhaaGreatDoor
open Go Go.Lw
set_option maxRecDepth 20000
section
variable {v3:Value}{n:Nat}
def mw (cls:List Int):Nat->List Nat->List (Int×Int)
  |_,[]=>[]
  |i,x::r=>(cls.getD x 0,(i:Int))::mw cls (i+1) r
theorem wE (cls:List Int):∀(ls:List Nat) (i:Nat) (l:Nat),mw cls i (ls++[l])=mw cls i ls++[(cls.getD l 0,((i+ls.length:Nat):Int))]
  | [],i,l=>by simp[mw]
  |x::r,i,l=>by
    simp only[List.cons_append,mw];rw[wE cls r (i+1) l,List.length_cons,show i+1+r.length=i+(r.length+1) by omega]
theorem uj (cls:List Int):∀(ls:List Nat) (i:Nat) (c:Int),mY c (mw cls i ls)=(qG cls i ls c).map λj=>(j:Int)
  | [],i,c=>rfl
  |x::r,i,c=>by
    rw[mw,mY,qG]
    by_cases h:c=cls.getD x 0
    · rw[if_pos h,if_pos h];rfl
    · rw[if_neg h,if_neg h];exact uj cls r (i+1) c
structure eV (h0 h:aq) (cls:List Int) (db mb:Nat) (vo vn vr:Value) (of:List Nat) (next:List Row) (rule:List Int):Prop where
  ext:aj h0 h
  dblk:aC h db 122 [vn,vr]
  nx:fG 256 cw h h0.size 126 vn next
  ru:bN (Value.int .i64) h h0.size 3 vr rule
  ol:bN eO h h0.size 3 vo of
  mp:fU (Value.int .i64) (Value.int .i64) h mb (mw cls 0 of)
  ne:∀b,vo.ownBlock=some b->vr.ownBlock≠some b
  dge:h0.size<=db
  mge:h0.size<=mb
section
variable {h0 h:aq}{cls:List Int}{db mb:Nat}{vo vn vr:Value}{of:List Nat}{next:List Row}{rule:List Int}
theorem eV.GY (k:eV h0 h cls db mb vo vn vr of next rule):∀b,vn.ownBlock=some b->dI h b 126:=λ_ I=>aB.ty k.nx I
theorem eV.FG (k:eV h0 h cls db mb vo vn vr of next rule):∀b,vr.ownBlock=some b->dI h b 3:=λ_ I=>aB.ty k.ru I
theorem eV.N3 (k:eV h0 h cls db mb vo vn vr of next rule):∀b,vo.ownBlock=some b->dI h b 3:=λ_ I=>aB.ty k.ol I
theorem eV.ah {h':aq}(k:eV h0 h cls db mb vo vn vr of next rule) (e:aj h h'):eV h0 h' cls db mb vo vn vr of next rule :=
  ⟨k.ext.trans e,k.dblk.ah e,fG.ah k.nx e,bN.ah k.ru e,bN.ah k.ol e,k.mp.ext e (λk=>k),k.ne,k.dge,k.mge⟩
theorem eV.put {h':aq}{x:Nat}(k:eV h0 h cls db mb vo vn vr of next rule) (e:Ext (λb=>b=x) h h') (J:dI h x 126) (Z:vn.ownBlock≠some x) (U:h0.size<=x):eV h0 h' cls db mb vo vn vr of next rule:=by
  have hd:¬db=x:=k.dblk.ty.ne J (by decide);have hm:¬mb=x:=k.mp.ne J;exact⟨aj.only k.ext e U,k.dblk.ext e hd,aB.ext e k.nx (λb I Y=>Z (by subst Y;exact I)),aB.ext e k.ru (λb I=>(k.FG b I).ne J (by decide)),aB.ext e k.ol (λb I=>(k.N3 b I).ne J (by decide)),k.mp.ext e hm,k.ne,k.dge,k.mge⟩
theorem eV.Ms {g3 g4:aq}{r:Row}(k:eV h0 h cls db mb vo vn vr of next rule) (hn:n=next.length) (ho:aB g3 h0.size 126 256 v3 (n+1) (next.flatMap cw++cw r)) (U:Ext (bU vn.ownBlock) h g3) (hd:aC g4 db 122 [v3,vr]) (Z:Ext (λb=>b=db) g3 g4) :
    eV h0 g4 cls db mb vo v3 vr of (next++[r]) rule:=by
  have J:∀{b:Nat}{t:TypeId},dI h b t->126≠t->¬bU vn.ownBlock b:=λkt ht e=>(k.GY _ e.symm).ne kt ht rfl
  have d3:=k.dblk.ext U (J k.dblk.ty (by decide));have Y:∀{b:Nat}{t:TypeId},dI g3 b t->122≠t->¬b=db:=λkt ht e=>by subst e;exact d3.ty.ne kt ht rfl
  have ad:¬bU vn.ownBlock mb:=λe=>k.mp.ne (k.GY _ e.symm) rfl
  have ac:=k.mp.ext U ad;have aa:=aB.ext U k.ru (λb I=>J (k.FG b I) (by decide));have ab:=aB.ext U k.ol (λb I=>J (k.N3 b I) (by decide));refine⟨⟨by have:=k.ext.size;have:=U.size;have:=Z.size;omega,λb I kk=>?_⟩,hd,?_,aB.ext Z aa (λb I=>Y (aB.ty aa I) (by decide)),aB.ext Z ab (λb I=>Y (aB.ty ab I) (by decide)),ac.ext Z (ac.ne d3.ty),k.ne,k.dge,k.mge⟩
  · rw[Z.block b (by have:=k.ext.size;have:=U.size;omega) (by have:=k.dge;omega),U.block b (by have:=k.ext.size;omega) (λe=>by have:=(aB.lt k.nx e.symm).1;omega)];exact k.ext.block b I kk
  · exact aB.ext Z (fG.of ho hn rfl) (λb I=>Y (aB.ty ho I) (by decide))
theorem eV.Mr {g3 g4:aq}{x:Int}(k:eV h0 h cls db mb vo vn vr of next rule) (hn:n=rule.length) (ho:aB g3 h0.size 3 1 v3 (n+1) (rule.map (Value.int .i64)++[.int .i64 x])) (J:Ext (bU vr.ownBlock) h g3) (hv:∀b,v3.ownBlock=some b->vr.ownBlock=some b\/h.size<=b) (hd:aC g4 db 122 [vn,v3]) (Y:Ext (λb=>b=db) g3 g4) :
    eV h0 g4 cls db mb vo vn v3 of next (rule++[x]):=by
  have ab:∀{b:Nat}{t:TypeId},dI h b t->3≠t->¬bU vr.ownBlock b:=λkt ht e=>(k.FG _ e.symm).ne kt ht rfl
  have d3:=k.dblk.ext J (ab k.dblk.ty (by decide));have U:∀{b:Nat}{t:TypeId},dI g3 b t->122≠t->¬b=db:=λkt ht e=>by subst e;exact d3.ty.ne kt ht rfl
  have ad:¬bU vr.ownBlock mb:=λe=>k.mp.ne (k.FG _ e.symm) rfl
  have ac:=k.mp.ext J ad;have aa:=aB.ext J k.nx (λb I=>ab (k.GY b I) (by decide));have Z:=aB.ext J k.ol (λb I e=>k.ne b I e.symm);refine⟨⟨by have:=k.ext.size;have:=J.size;have:=Y.size;omega,λb I kk=>?_⟩,hd,aB.ext Y aa (λb I=>U (aB.ty aa I) (by decide)),?_,aB.ext Y Z (λb I=>U (aB.ty Z I) (by decide)),ac.ext Y (ac.ne d3.ty),λb I e=>?_,k.dge,k.mge⟩
  · rw[Y.block b (by have:=k.ext.size;have:=J.size;omega) (by have:=k.dge;omega),J.block b (by have:=k.ext.size;omega) (λe=>by have:=(aB.lt k.ru e.symm).1;omega)];exact k.ext.block b I kk
  · exact aB.ext Y (bN.of (ys:=[x]) ho hn rfl rfl) (λb I=>U (aB.ty ho I) (by decide))
  · rcases hv b e with e|e
    · exact k.ne b I e
    · have:=(k.N3 b I).lt;omega
theorem eV.more {g1 g2:aq}{t:Nat}(k:eV h0 h cls db mb vo vn vr of next rule) (U:Ext (λb=>b=mb) h g1) (hm:fU (Value.int .i64) (Value.int .i64) g1 mb (mw cls 0 (of++[t]))) (hn:n=of.length) (ho:aB g2 h0.size 3 1 v3 (n+1) (of.map eO++[eO t])) (Y:Ext (bU vo.ownBlock) g1 g2) (hv:∀b,v3.ownBlock=some b->vo.ownBlock=some b\/g1.size<=b) :
    eV h0 g2 cls db mb v3 vn vr (of++[t]) next rule:=by
  have J:∀{b:Nat}{t:TypeId},dI h b t->¬b=mb:=λkt e=>k.mp.ne kt e.symm
  have d1:=k.dblk.ext U (J k.dblk.ty);have ab:=aB.ext U k.nx (λb I=>J (k.GY b I));have Z:=aB.ext U k.ru (λb I=>J (k.FG b I));have aa:=aB.ext U k.ol (λb I=>J (k.N3 b I));have one:∀{b:Nat}{t:TypeId},dI g1 b t->3≠t->¬bU vo.ownBlock b:=λkt ht e=>(show dI g1 _ 3 from aB.ty aa e.symm).ne kt ht rfl
  refine⟨⟨by have:=k.ext.size;have:=Y.size;have:=U.size;omega,λb I kk=>?_⟩,d1.ext Y (one d1.ty (by decide)),aB.ext Y ab (λb I=>one (aB.ty ab I) (by decide)),aB.ext Y Z (λb I e=>k.ne b e.symm I),bN.of (ys:=[t]) ho hn rfl rfl,hm.ext Y (λe=>hm.ne (aB.ty aa e.symm) rfl),λb I e=>?_,k.dge,k.mge⟩
  · rw[Y.block b (by have:=k.ext.size;have:=U.size;omega) (λe=>by have:=(aB.lt k.ol e.symm).1;omega),U.block b (by have:=k.ext.size;omega) (by have:=k.mge;omega)];exact k.ext.block b I kk
  · rcases hv b I with e'|e'
    · exact k.ne b e' e
    · have:=(show dI g1 _ 3 from aB.ty Z e).lt;omega
end
end
end Go.Proofs.YtnjahnbpnpkmhaaGreatDoor
namespace Go.Proofs.YtnjahnbpnpkmhaaGreatDoor
open Go.Proofs.Tryz
open Go Go.Lw
set_option maxRecDepth 20000 set_option maxHeartbeats 4000000
theorem Ac (d:bW):∀(n:Nat) (out:List Bool),(sC d n out).length=out.length
 | 0,_=>rfl
 |n+1,out=>by
  rw[sC];split
  · rw[Ac d n,ir]
  · rw[ir]
theorem G7 (d:bW):(bA d).length=d.next.length:=by rw[bA,Ac];simp
theorem yo (d:bW) (live:List Bool):∀(n many:Nat) (cls:List Int),cls.length=d.next.length->(lU d live n many cls).length=d.next.length
 | 0,_,_,h=>h
 |n+1,many,cls,h=>by
  rw[lU];split
  · exact(fA d live cls).len
  · exact yo d live n _ _ (fA d live cls).len
theorem E3 (d:bW) (live:List Bool) (h:d.rule.length=d.next.length):(eE d live).length=d.next.length:=yo d live _ _ _ h
def pQ (h:aq) (O:Nat->Prop) (db:Nat) (d:bW):Prop :=
 ∃vn vr,¬O db/\aC h db 122 [vn,vr]/\aL F4 h O vn d.next/\aL (.int .i64) h O vr d.rule
theorem pQ.mv {h h':aq}{O O':Nat->Prop}{db:Nat}{d:bW}(k:pQ h O db d) (m:Mv O O' h h'):pQ h' O' db d:=by
 obtain⟨vn,vr,I,hk,h1,J⟩:=k;have hm:=m.block db hk.lt I;exact⟨vn,vr,hm.2,hm.1.trans hk,h1.mv m,J.mv m⟩
theorem pQ.rd {h:aq}{O:Nat->Prop}{db:Nat}{d:bW}(k:pQ h O db d):qK h db d:=by
 obtain⟨vn,vr,ho,hk,h1,I⟩:=k;exact⟨vn,vr,hk,fq h1 (λ_ k=>k.elim),fq I (λ_ k=>k.elim)⟩
theorem JT {h:aq}{db:Nat}{d:bW}(htens:vI h) (k:qK h db d) (hok:d.Ok) (hd0:0<d.next.length) :
 au prog 26 #[.pointer (some ⟨db,0,none⟩)] h (bK λr h'=>(∃b,r= .pointer (some ⟨b,0,none⟩)/\pQ h' (λg=>g<h.size) b (nE d))/\aj h h'):=by
 have hlen:=hok.len;have hsize:=hok.size;generalize hres:nE d=res;refine bJ ?_;refine af ?_;refine xo rfl (aE rfl (DI k)) ?_;rintro _ h0 ⟨rfl,hh0⟩;subst hh0;refine af ?_;refine aN (λhz=>?_) (λhz=>?_)
 · refine af ?_;refine aP ?_;exfalso;omega
 · rw[nE,if_neg hz] at hres;have hll:=G7 d;have hcl:=E3 d (bA d) hlen;refine af ?_;refine xo rfl (aE rfl (EG k hok)) ?_;rintro w3 h1 ⟨ho1,e1⟩;generalize bA d=live at *;obtain⟨la,lc,rfl,_⟩:=(show aB h1 h0.size 4 1 w3 live.length (live.map Value.bool) from ho1).open;refine af ?_;refine xo rfl (aE rfl (zx (htens.ah e1) (k.ah e1) hok (bN.read (O:=λ_=>False) (h1:=λ_=>rfl) ho1 (λ_ _ k=>k)) hll)) ?_;rintro w4 h2 ⟨ho2,e2⟩;generalize eE d live=cls at *;obtain⟨ca,cc,rfl,_⟩:=(show aB h2 h1.size 3 1 w4 cls.length (cls.map (Value.int .i64)) from ho2).open;have ho1:=bN.ah ho1 e2;have k2:=(k.ah e1).ah e2;have hsV:aL .bool h2 (λ_=>False) (.slice la live.length lc) live:=bN.read (h1:=λ_=>rfl) ho1 (λ_ _ k=>k);have hsC:aL (.int .i64) h2 (λ_=>False) (.slice ca cls.length cc) cls:=bN.read (h1:=λ_=>rfl) ho2 (λ_ _ k=>k);rw[hll] at hsV;rw[hcl] at hsC;rw[hll,hcl];obtain⟨c0,hc0⟩:∃c0,cls[0]? =some c0:=⟨_,List.getElem?_eq_getElem (by omega)⟩
   have hcd0:cls.getD 0 0=c0:=by rw[List.getD_eq_getElem?_getD,hc0];rfl
   refine af ?_;refine xp rfl (av (H.J7 ) rfl) ?_;refine xo rfl (mh) ?_;rintro _ h3 ⟨rfl,kd3,e3,z3⟩;refine af ?_;refine xo rfl (pS (ek:=Value.int .i64) (ev:=Value.int .i64)) ?_;rintro _ h4 ⟨rfl,hm4,e4,z4⟩;have kd3:aC h3 h2.size 122 [.slice none 0 0,.slice none 0 0]:=kd3;have e34:=e3.trans e4;obtain⟨oa',n',c',hv',_,_,_,hgetc⟩:=id (hsC.mv (Mv.ah e34));cases hv';obtain⟨b3,o3,cs3,ha3,_,hrow3,rfl⟩:=hgetc 0 c0 hc0;refine aR ?_;refine xp rfl (bZ rfl rfl 0 rfl ha3) ?_;refine xp rfl (aA rfl (hrow3 0 _ rfl)) ?_;refine aO rfl (yQ (v:=(0:Int)) (kR.int .i64) underlying133 underlying3 rfl rfl rfl rfl rfl hm4 (rfl:mY c0 []=none)) ?_;rintro _ h5 ⟨rfl,hm5,x5,z5⟩;have hm5:fU (Value.int .i64) (Value.int .i64) h5 h3.size (mw cls 0 [0]):=by rw[mw,hcd0];exact hm5
   have hz3:=e3.size;have e25:aj h2 h5:=aj.only e34 x5 hz3;have kd5:aC h5 h2.size 122 [.slice none 0 0,.slice none 0 0]:=(kd3.ah e4).ext x5 (by show ¬_=_;omega);refine af ?_;refine xo rfl (iD [_]) ?_;rintro _ _ ⟨rfl,rfl⟩;refine af ?_;have e56:aj h5 (h5.push (.cells #[.int .i64 0] 3)):=Ext.push _ _ _;have ol6:bN eO (h5.push (.cells #[.int .i64 0] 3)) h2.size 3 (.slice (some ⟨h5.size,0,none⟩) 1 1) [0]:=iA eO h5 3 [0] 1 rfl (by decide) h2.size e25.size rfl;generalize h5.push (.cells #[.int .i64 0] 3)=h6 at *
   have mk6:eV h2 h6 cls h2.size h3.size (.slice (some ⟨h5.size,0,none⟩) 1 1) (.slice none 0 0) (.slice none 0 0) [0] [] [] :=
    ⟨e25.trans e56,kd5.ah e56,fG.nil _ _ _ _ _,bN.nil _ _ _ _,ol6,hm5.ext e56 (λk=>k),λb _ hb=>(by cases hb),Nat.le_refl _,hz3⟩
   refine fK (σ:=Nat×Value) (λq=>[(7,q.2),(8,.int .i64 (q.1:Nat))]) (λq h'=>∃vn vr of next rule,eV h2 h' cls h2.size h3.size q.2 vn vr of next rule/\q.1<=of.length/\D2 d.next.length of/\(next.length=q.1/\rule.length=q.1)/\Dc d live cls (d.next.length+1-q.1) q.1 of next rule=res) (λq=>d.next.length+1-q.1) ((0,.slice (some ⟨h5.size,0,none⟩) 1 1)) ⟨_,_,[0],[],[],mk6,Nat.zero_le _,⟨by simp,λx hx=>by simp at hx;omega⟩,⟨rfl,rfl⟩,hres⟩ rfl ?_;rintro⟨i,vl⟩ g ⟨vn,vr,of,next,rule,mk,hi,hok2,⟨hnl,hrl⟩,hcon⟩ ih
   try dsimp only
   dsimp only at mk hi hnl hrl hcon;have hofl:=hok2.len;obtain⟨oa,oc,rfl,_⟩:=(show aB g h2.size 3 1 vl of.length (of.map eO) from mk.ol).open;have mkg:=mk;refine af ?_;refine aN (λhlt=>?_) (λhlt=>?_)
   · have hil:i<of.length:=by omega
     obtain⟨kk,hcur⟩:∃kk,of[i]? =some kk:=⟨_,List.getElem?_eq_getElem hil⟩
     have hkN:=hok2.lt kk (List.mem_of_getElem? hcur);obtain⟨n,hnn⟩:∃n,d.next.length+1-i=n+1:=⟨d.next.length-i,by omega⟩
     rw[hnn,Dc,hcur] at hcon;simp only at hcon;obtain⟨r,hr⟩:∃r,d.next[kk]? =some r:=⟨_,List.getElem?_eq_getElem hkN⟩
     have hrow:d.row kk=r.v:=by unfold bW.row;rw[hr]
     rw[hrow] at hcon;generalize htgt:gj live cls r.v of []=tgt at hcon;refine af ?_;refine xo rfl (cL) ?_;rintro _ g1 ⟨rfl,kz,ez,zz⟩;have kz:aC g1 g.size 126 (([]:List Int).map (Value.int .i64)++List.replicate (256-0) (Value.int .i64 0)):=kz;have Jh:=mk.ah ez;have hvz:vn.ownBlock≠some g.size:=λe=>by have:=(mk.GY _ e).lt;omega
     obtain⟨vn0,vr0,kd,⟨na,nn,nc,rfl,hnl0,hnc,hnm,hgetn⟩,hsR⟩:=id (k2.ah Jh.ext);subst hnl0;obtain⟨b1,o1,cs1,ha1,_,hrow1,rfl⟩:=hgetn kk r hr;obtain⟨gg,c4,hv4,_,_,hcell,_,_⟩:=Jh.ol.at hcur;have hoa:oa=some ⟨gg,0,none⟩:=by cases hv4;rfl
     refine af ?_;refine bF rfl (aA rfl (kd.cell (i:=0) rfl)) ?_
     iterate 2 refine jD ?_
     refine bF rfl (bZ rfl rfl i rfl hoa) ?_;refine bF rfl (aA rfl hcell) ?_;refine bF rfl (bZ rfl rfl kk rfl ha1) ?_;refine bF rfl (cj rfl hrow1) ?_;refine af ?_;refine fK (σ:=Nat×Value) (λq=>[(7,q.2),(45,.int .i64 (q.1:Nat))]) (λq h'=>∃of' row,eV h2 h' cls h2.size h3.size q.2 vn vr of' next rule/\(q.1<=256/\row.length=q.1)/\aC h' g.size 126 (row.map (Value.int .i64)++List.replicate (256-q.1) (Value.int .i64 0))/\of'[i]? =some kk/\D2 d.next.length of'/\gj live cls (r.v.drop q.1) of' row=tgt) (λq=>256-q.1) ((0,.slice oa of.length oc)) ⟨of,[],Jh,⟨Nat.zero_le _,rfl⟩,kz,hcur,hok2,htgt⟩ rfl ?_;rintro⟨b,vl⟩ g2 ⟨of,row,mk,⟨hb,hrlen⟩,kz,hcur,hok2,hrow⟩ ih2
     try dsimp only
     dsimp only at mk hb hrlen kz hrow;have hofl:=hok2.len;obtain⟨oa,oc,rfl,_⟩:=(show aB g2 h2.size 3 1 vl of.length (of.map eO) from mk.ol).open;refine af ?_;refine aN (λhb256=>?_) (λhb256=>?_)
     · have hb2:b<256:=by omega
       obtain⟨t,ht⟩:∃t,r.v[b]? =some t:=⟨_,List.getElem?_eq_getElem (by rw[r.len];exact hb2)⟩
       have htm:=hok.to r (List.mem_of_getElem? hr) t (List.mem_of_getElem? ht);have hdrop:r.v.drop b=t::r.v.drop (b+1):=by rw[List.drop_eq_getElem_cons (by rw[r.len];exact hb2),(List.getElem?_eq_some_iff.1 ht).2]
       rw[hdrop,gj] at hrow;have hso:=xd (live:=live) (cls:=cls) (t:=t) hok2 htm.2;have hsg:=(ED (live:=live) (cls:=cls) (of:=of) (t:=t)).2 i kk hcur;have hcells:(row.map (Value.int .i64)++List.replicate (256-b) (Value.int .i64 0)).length=256:=by simp[hrlen];omega
       have hset:∀to:Int,(row.map (Value.int .i64)++List.replicate (256-b) (Value.int .i64 0)).set (0+b*1) (.int .i64 to)=(row++[to]).map (Value.int .i64)++List.replicate (256-(b+1)) (Value.int .i64 0):=λto=>by
        rw[Nat.zero_add,Nat.mul_one,List.set_append_right _ _ (by simp;omega),show 256-b=(256-(b+1))+1 by omega,List.replicate_succ];have:b-(row.map (Value.int .i64)).length=0:=by simp;omega
        rw[this,List.set_cons_zero];simp
       have hblt:0+b*1<(row.map (Value.int .i64)++List.replicate (256-b) (Value.int .i64 0)).length:=by rw[hcells];omega
       have hzge:h2.size<=g.size:=mkg.ext.size
       have fin:∀(gA gB:aq) (vA:Value) (ofA:List Nat) (to:Int),eV h2 gA cls h2.size h3.size vA vn vr ofA next rule->aC gA g.size 126 (row.map (Value.int .i64)++List.replicate (256-b) (Value.int .i64 0))->gB=dx gA ⟨g.size,0+b*1,none⟩ (.int .i64 to)->dh live cls of t=(ofA,to)->∃of' row,eV h2 gB cls h2.size h3.size vA vn vr of' next rule/\(b+1<=256/\row.length=b+1)/\aC gB g.size 126 (row.map (Value.int .i64)++List.replicate (256-(b+1)) (Value.int .i64 0))/\of'[i]? =some kk/\D2 d.next.length of'/\gj live cls (r.v.drop (b+1)) of' row=tgt:=by
        rintro gA gB vA ofA to mA kA hgB hst;have k6:=kA.set (0+b*1) (.int .i64 to);rw[<-hgB,hset] at k6;have x6:Ext (λy=>y=g.size) gA gB:=by rw[hgB];exact Ext.dx _ _ _ rfl
        rw[hst] at hso hsg hrow;exact⟨ofA,row++[to],mA.put x6 kA.ty hvz hzge,⟨hb2,by simp[hrlen]⟩,k6,hsg,hso,hrow⟩
       refine af ?_;refine xp rfl (az.xP underlying126 H.mW H.Nn rfl rfl b rfl hb2 (show (cw r).toArray[b]? =some (Value.int .i64 t) by simp[cw,ht])) ?_
       iterate 2 refine aR ?_
       refine cO ?_
       iterate 2 refine aQ ?_
       refine cI ?_
       iterate 3 refine aR ?_
       refine cX 51 (λhg=>?_) (λhg=>?_)
       · have hg':=of_decide_eq_true hg;refine af ?_;refine dc rfl (by simp) ?_;refine aQ ?_;refine cI ?_;refine aR ?_;refine xp rfl (y8 rfl rfl b rfl (by omega)) ?_;refine aO rfl (bf H.mW rfl rfl rfl (kz.cell (List.getElem?_eq_getElem hblt)) kz.nf) ?_;rintro _ g6 ⟨rfl,hg6⟩;have ff:=fin g2 g6 _ of (-1) mk kz hg6 (by rw[dh,if_pos (.inl hg')]);refine af ?_;exact ih2 (b+1,_) ff
       · have hg':=of_decide_eq_false hg;obtain⟨t2,rfl⟩:=Int.eq_ofNat_of_zero_le (show 0<=t by omega);obtain⟨bt,hbt⟩:∃bt,live[t2]? =some bt:=⟨_,List.getElem?_eq_getElem (by omega)⟩
         have hlt2:live.getD t2 false=bt:=by rw[List.getD_eq_getElem?_getD,hbt];rfl
         obtain⟨oa',n',c',hv',_,_,_,hgetv⟩:=id (hsV.mv (Mv.ah mk.ext));cases hv';obtain⟨b3,o3,cs3,ha3,_,hrow3,rfl⟩:=hgetv t2 bt hbt
         iterate 2 refine aR ?_
         refine xp rfl (bZ rfl rfl t2 rfl ha3) ?_;refine xp rfl (aA rfl (hrow3 0 _ rfl)) ?_;refine af ?_;refine jS (λhb=>?_) (λhb=>?_)
         · have hb':bt=false:=by simpa using hb
           refine aQ ?_;refine cI ?_;refine aR ?_;refine xp rfl (y8 rfl rfl b rfl (by omega)) ?_;refine aO rfl (bf H.mW rfl rfl rfl (kz.cell (List.getElem?_eq_getElem hblt)) kz.nf) ?_;rintro _ g6 ⟨rfl,hg6⟩;have ff:=fin g2 g6 _ of (-1) mk kz hg6 (by rw[dh,if_pos (.inr (by show live.getD t2 false=false;rw[hlt2,hb']))]);refine af ?_;exact ih2 (b+1,_) ff
         · have hb':bt=true:=by simpa using hb
           obtain⟨c2,hc2⟩:∃c2,cls[t2]? =some c2:=⟨_,List.getElem?_eq_getElem (by omega)⟩
           have hgd2:cls.getD t2 0=c2:=by rw[List.getD_eq_getElem?_getD,hc2];rfl
           have hneg:¬(((t2:Nat):Int)<0\/live.getD ((t2:Nat):Int).toNat false=false):=by
            rintro(e|e)
            · exact hg' e
            · rw[Int.toNat_natCast,hlt2,hb'] at e;cases e
           have hstep:dh live cls of ((t2:Nat):Int)=match qG cls 0 of c2 with|some i=>(of,(i:Int))|none=>(of++[t2],(of.length:Int)):=by
            rw[dh,if_neg hneg,Int.toNat_natCast,hgd2]<;>rfl
           obtain⟨oa',n',c',hv',_,_,_,hgetc⟩:=id (hsC.mv (Mv.ah mk.ext));cases hv';obtain⟨b4,o4,cs4,ha4,_,hrow4,rfl⟩:=hgetc t2 c2 hc2
           iterate 2 refine aQ ?_
           refine cI ?_
           iterate 3 refine aR ?_
           refine xp rfl (bZ rfl rfl t2 rfl ha4) ?_;refine xp rfl (aA rfl (hrow4 0 _ rfl)) ?_;refine xp rfl (az.xq (z:=.int .i64 0) (kR.int .i64) underlying133 underlying3 (by kernel_rfl) rfl rfl rfl mk.mp) ?_;rw[uj]
           rcases hfind:qG cls 0 of c2 with _|i0
           · rw[hfind] at hstep;simp only at hstep;have hnone:mY c2 (mw cls 0 of)=none:=by rw[uj,hfind];rfl
             refine af ?_;refine dc rfl (by simp) ?_;refine aQ ?_;refine cI ?_
             iterate 3 refine aR ?_
             refine cO ?_;refine aQ ?_;refine cI ?_
             iterate 3 refine aR ?_
             refine xp rfl (bZ rfl rfl t2 rfl ha4) ?_;refine xp rfl (aA rfl (hrow4 0 _ rfl)) ?_;refine af ?_;refine aO rfl (lZ (v:=((of.length:Nat):Int)) (kR.int .i64) underlying133 underlying3 rfl rfl rfl rfl rfl mk.mp hnone) ?_;rintro _ g3 ⟨rfl,hm3,x3,z3'⟩;have hm3:fU (Value.int .i64) (Value.int .i64) g3 h3.size (mw cls 0 (of++[t2])):=by rw[wE,Nat.zero_add,hgd2];exact hm3
             have mne:∀{b:Nat}{t:TypeId},dI g2 b t->¬b=h3.size:=λkt e=>mk.mp.ne kt e.symm
             have ol3:aB g3 h2.size 3 1 (.slice oa of.length oc) of.length (of.map eO):=aB.ext x3 mk.ol (λb hb=>mne (mk.N3 b hb));have kz3:=kz.ext x3 (mne kz.ty);have hz2g:=mk.ext.size;refine af ?_;refine xo rfl (iD [_]) ?_;rintro _ _ ⟨rfl,rfl⟩;refine xo rfl (vL rfl rfl ol3 rfl rfl) ?_;rintro v7 g4 ⟨ho4,hx4,hx4',hv4⟩;have mk4:=mk.more (t:=t2) x3 hm3 rfl ho4 hx4 hv4;have kz4:=kz3.ext hx4 (λe=>(show dI g3 _ 3 from aB.ty ol3 e.symm).ne kz3.ty (by decide) rfl);obtain⟨v7a,v7c,rfl,_⟩:=ho4.open;refine aR ?_;refine cO ?_;refine cI ?_
             iterate 2 refine aR ?_
             refine xp rfl (y8 rfl rfl b rfl (by omega)) ?_;refine aO rfl (bf H.mW rfl rfl rfl (kz4.cell (List.getElem?_eq_getElem hblt)) kz4.nf) ?_;rintro _ g6 ⟨rfl,hg6⟩;have ff:=fin g4 g6 _ (of++[t2]) (of.length:Nat) mk4 kz4 hg6 hstep;refine af ?_;exact ih2 (b+1,_) ff
           · rw[hfind] at hstep;simp only at hstep;refine af ?_;refine dB rfl (by simp) ?_;refine aQ ?_;refine cI ?_
             iterate 2 refine aR ?_
             refine xp rfl (y8 rfl rfl b rfl (by omega)) ?_;refine aO rfl (bf H.mW rfl rfl rfl (kz.cell (List.getElem?_eq_getElem hblt)) kz.nf) ?_;rintro _ g6 ⟨rfl,hg6⟩;have ff:=fin g2 g6 _ of (i0:Nat) mk kz hg6 hstep;refine af ?_;exact ih2 (b+1,_) ff
     · obtain rfl:b=256:=by omega
       rw[List.drop_of_length_le (by rw[r.len];exact Nat.le_refl _),gj] at hrow;subst hrow;simp only at hcon;have hencr:cw (lF row)=row.map (Value.int .i64):=by rw[cw,vR hrlen]
       rw[Nat.sub_self,List.replicate_zero,List.append_nil,<-hencr] at kz;have hil2:i<of.length:=(List.getElem?_eq_some_iff.1 hcur).1
       have nne:∀{b:Nat}{t:TypeId},dI g2 b t->126≠t->¬(bU vn.ownBlock b\/Array.size g2<=b):=λkt ht e=>by
        rcases e with e|e
        · exact(mk.GY _ e.symm).ne kt ht rfl
        · have:=kt.lt;omega
       have hzM:¬(bU vn.ownBlock g.size\/Array.size g2<=g.size):=by
        rintro(e|e)
        · exact hvz e.symm
        · have:=kz.lt;omega
       have hdM:=nne mk.dblk.ty (by decide);have hnx:aB g2 h2.size 126 256 vn next.length (next.flatMap cw):=mk.nx
       have hone:∀u∈cw (lF row),u.oneCell'=true:=λu hu=>by simp[cw] at hu;obtain⟨_,_,rfl⟩:=hu;rfl
       have hg2:=mk.ext.size;refine af ?_;refine jK 11 (λb=>bU vn.ownBlock b\/Array.size g2<=b) (λi=>Nat.blt i 10) ?_;refine aF 0 ?_;refine aF 1 ?_;refine aF 2 ?_;refine aF 3 ?_;refine bq 4 rfl (λh' e=>aA rfl (e.cell hdM (mk.dblk.cell (i:=0) rfl))) ?_;refine bq 5 rfl (λh' e=>cj rfl (e.rowAt hzM kz.row)) ?_;refine cV 6 rfl (aV.yp (cs:=cw (lF row)) underlying120 H.F3 rfl (nM _) (by decide)) ?_;rintro _ _ ⟨rfl,rfl⟩;refine⟨λ_=>(Ext.push _ _ _),?_⟩;refine cV 7 rfl (aV.Ar underlying120 H.F3 rfl rfl hnx rfl (by simp) hone (by simp only[maxLen];omega) (by omega) hg2) ?_;rintro v3 g3 ⟨ho3,hx3,hx3',hv3⟩;refine⟨λ_=>hx3'.mono (λ_ _ k=>.inl k),?_⟩;obtain⟨a3,c3,rfl,_⟩:=ho3.open;refine H8 8 ?_;refine aF 9 ?_;refine gU 10 rfl (iG rfl rfl ((mk.dblk.ext hx3 (λe=>hdM (.inl e))))) ?_;rintro _ g4 ⟨rfl,k4,x4,z4⟩;refine⟨nofun,?_⟩;have mk4:=mk.Ms (r:=lF row) rfl ho3 hx3 k4 x4;obtain⟨vn0,vr0,kd4,_,⟨ra,rn,rc,rfl,hrl0,hrc,hrm,hgetr⟩⟩:=id k2;obtain⟨x,hx⟩:∃x,d.rule[kk]? =some x:=⟨_,List.getElem?_eq_getElem (by omega)⟩
       have hru0:d.ru kk=x:=by unfold bW.ru;rw[List.getD_eq_getElem?_getD,hx];rfl
       obtain⟨b5,o5,cs5,ha5,hO5,hrow5,rfl⟩:=hgetr kk x hx;obtain⟨gg5,c5,hv5,_,_,hcell5,_,_⟩:=mk4.ol.at hcur;have hoa5:oa=some ⟨gg5,0,none⟩:=by cases hv5;rfl
       have rne:∀{b:Nat}{t:TypeId},dI g4 b t->3≠t->¬(bU vr.ownBlock b\/Array.size g4<=b):=λkt ht e=>by
        rcases e with e|e
        · exact(mk4.FG _ e.symm).ne kt ht rfl
        · have:=kt.lt;omega
       have hdM4:=rne mk4.dblk.ty (by decide);have hru:aB g4 h2.size 3 1 vr rule.length (rule.map (Value.int .i64)):=mk4.ru;have hg4s:=mk4.ext.size
       have olb:∀{b:Nat},b<h2.size->¬(bU vr.ownBlock b\/Array.size g4<=b):=λkb e=>by
        rcases e with e|e
        · have:=(aB.lt mk4.ru e.symm).1;omega
        · omega
       have hc4:=kd4.cell (i:=1) rfl;have hd4:=olb (eu hc4);have hc5:cellAt h2 _=some (Value.int .i64 x):=hrow5 0 _ rfl;have hd5:=olb (eu hc5)
       have hd6:¬(bU vr.ownBlock gg5\/Array.size g4<=gg5):=λe=>by
        rcases e with e|e
        · exact mk4.ne gg5 (by rw[hoa5];rfl) e.symm
        · have:=eu hcell5;simp only at this;omega
       refine fV ?_;refine jK 20 (λb=>bU vr.ownBlock b\/Array.size g4<=b) (λi=>Nat.blt i 19) ?_;refine aF 0 ?_;refine aF 1 ?_;refine aF 2 ?_;refine aF 3 ?_;refine bq 4 rfl (λh' e=>aA rfl (e.cell hdM4 (mk4.dblk.cell (i:=1) rfl))) ?_;refine aF 5 ?_;refine aF 6 ?_;refine aF 7 ?_;refine bq 8 rfl (λh' e=>aA rfl (e.cell hd4 (mk4.ext.cell (λk=>k) hc4))) ?_;refine aF 9 ?_;refine aF 10 ?_;refine bq 11 rfl (λh' e=>bZ rfl rfl i rfl hoa5) ?_;refine bq 12 rfl (λh' e=>aA rfl (e.cell hd6 hcell5)) ?_;refine bq 13 rfl (λh' e=>bZ rfl rfl kk rfl ha5) ?_;refine bq 14 rfl (λh' e=>aA rfl (e.cell hd5 (mk4.ext.cell (λk=>k) hc5))) ?_;refine cV 15 rfl (iD [_]) ?_;rintro _ _ ⟨rfl,rfl⟩;refine⟨λ_=>by first|exact Ext.push _ _ _|assumption,?_⟩;refine cV 16 rfl (vL rfl rfl hru rfl rfl) ?_;rintro v6 g6 ⟨ho6,hx6,hx6',hv6⟩;refine⟨λ_=>hx6'.mono (λ_ _ k=>.inl k),?_⟩;obtain⟨a6,c6,rfl,_⟩:=ho6.open;refine H8 17 ?_;refine aF 18 ?_;refine gU 19 rfl (iG rfl rfl ((mk4.dblk.ext hx6 (λe=>hdM4 (.inl e))))) ?_;rintro _ g7 ⟨rfl,k7,x7,z7⟩;refine⟨nofun,?_⟩;have mk7:=mk4.Mr (x:=x) rfl ho6 hx6 hv6 k7 x7;refine fV ?_;refine af ?_;exact ih (i+1,_) ⟨_,_,of,next++[lF row],rule++[x],mk7,hil2,hok2,⟨by simp[hnl],by simp[hrl]⟩,by rw[<-hru0,show d.next.length+1-(i+1)=n by omega];exact hcon⟩
   · obtain rfl:i=of.length:=by omega
     obtain⟨n,hnn⟩:∃n,d.next.length+1-of.length=n+1:=⟨d.next.length-of.length,by omega⟩
     rw[hnn,Dc,List.getElem?_eq_none (Nat.le_refl _)] at hcon;simp only at hcon;refine af ?_;refine aP ?_;have hz02:=(e1.trans e2).size;refine⟨_,rfl,⟨h2.size,rfl,?_⟩,(e1.trans e2).trans mk.ext⟩;rw[<-hcon];exact⟨vn,vr,by omega,mk.dblk,fG.read mk.nx (λb hb k=>by omega),bN.read (h1:=λ_=>rfl) mk.ru (λb hb k=>by omega)⟩
end Go.Proofs.YtnjahnbpnpkmhaaGreatDoor
namespace Go.Proofs.YtnjahnbpnpkmhaaGreatDoor
open Go
section
variable {ss:List bL}{st s k t:Nat}{cls:List Int}
def yS (L:List (List Nat)) (l:List Nat) (to:Int):Prop:=(l.length=0/\to= -1)\/(l.length≠0/\∃i:Nat,to=(i:Int)/\L[i]? =some l)
theorem yS.mono {L L':List (List Nat)}{l:List Nat}{to:Int}(k:yS L l to) (h:L <+: L'):yS L' l to:=by
  rcases k with k|⟨k,i,e,hi⟩
  · exact .inl k
  · obtain⟨t,rfl⟩:=h;exact .inr ⟨k,i,e,by rw[List.getElem?_append_left (List.getElem?_eq_some_iff.1 hi).1];exact hi⟩
theorem A8 (ss:List bL) (cur:List Nat) (lists:List (List Nat)) (b:Nat) (hn:lists.Nodup) :
    lists <+: (dR ss cur lists b).1/\(dR ss cur lists b).1.Nodup/\yS (dR ss cur lists b).1 (cT ss (UInt8.ofNat b) cur) (dR ss cur lists b).2:=by
  unfold dR;split
  · rename_i h;exact⟨List.prefix_refl _,hn,.inl ⟨h,rfl⟩⟩
  · rename_i h;split
    · rename_i i hi;exact⟨List.prefix_refl _,hn,.inr ⟨h,i,rfl,(rB lists 0 i _ hi).2⟩⟩
    · rename_i hi;refine⟨List.prefix_append _ _,List.nodup_append.2 ⟨hn,by simp,λx hx y hy e=>?_⟩,.inr ⟨h,lists.length,rfl,by simp⟩⟩;have:y=cT ss (UInt8.ofNat b) cur:=by simpa using hy
      exact xY lists 0 _ hi (by rw[<-this,<-e];exact hx)
theorem tI (ss:List bL) (cur:List Nat):∀(n b:Nat) (lists:List (List Nat)) (row:List Int),lists.Nodup ->
    lists <+: (ny ss cur n b lists row).1/\(ny ss cur n b lists row).1.Nodup/\∃ys,(ny ss cur n b lists row).2=row++ys/\ys.length=n/\∀(j:Nat) (y:Int),ys[j]? =some y->yS (ny ss cur n b lists row).1 (cT ss (UInt8.ofNat (b+j)) cur) y
  | 0,b,lists,row,J=>⟨List.prefix_refl _,J,[],by simp[ny],rfl,λj y h=>by simp at h⟩
  |n+1,b,lists,row,J=>by
    obtain⟨h1,h2,h3⟩:=A8 ss cur lists b J;obtain⟨U,k2,ys,Z,k4,Y⟩:=tI ss cur n (b+1) (dR ss cur lists b).1 (row++[(dR ss cur lists b).2]) h2;rw[ny];refine⟨h1.trans U,k2,(dR ss cur lists b).2::ys,by rw[Z];simp,by simp[k4],λj y I=>?_⟩;cases j with
    |zero =>
      simp only[List.getElem?_cons_zero,Option.some.injEq] at I;subst I;exact h3.mono U
    |succ j =>
      rw[List.getElem?_cons_succ] at I;have:=Y j y I
      rwa [show b+(j+1)=b+1+j by omega]
structure pU (ss:List bL) (st:Nat) (lists:List (List Nat)) (d:bW):Prop where
  first:lists[0]? =some (cB ss st)
  once:lists.Nodup
  size:lists.length<=2000
  rlen:d.rule.length=d.next.length
  row:∀(k:Nat) (r:Row) (l:List Nat),d.next[k]? =some r->lists[k]? =some l->∀(b:Nat) (y:Int),r.v[b]? =some y->yS lists (cT ss (UInt8.ofNat b) l) y
  rule:∀(k:Nat) (x:Int) (l:List Nat),d.rule[k]? =some x->lists[k]? =some l->x=bu ss l
theorem uZ {ss:List bL}{st:Nat}:∀(n k:Nat) (lists:List (List Nat)) (next:List Row) (rule:List Int) (d:bW),pU ss st lists ⟨next,rule⟩->next.length=k->k<=lists.length->lR ss n k lists next rule=some d->∃L,lists <+: L/\pU ss st L d/\L.length=d.next.length
  | 0,k,lists,next,rule,d,h,hk,hkl,hd=>by cases hd
  |n+1,k,lists,next,rule,d,h,hk,hkl,hd=>by
    rw[lR] at hd;split at hd
    · rename_i hn;cases hd;have:=List.getElem?_eq_none_iff.1 hn;exact⟨lists,List.prefix_refl _,h,by show lists.length=next.length;omega⟩
    · rename_i cur hcur;obtain⟨h1,h2,ys,h3,h4,h5⟩:=tI ss cur 256 0 lists [] h.once;split at hd
      · cases hd
      · rename_i hsz;have hkl2:=(List.getElem?_eq_some_iff.1 hcur).1
        have hpre:∀(i:Nat) (l:List Nat),i<lists.length->(ny ss cur 256 0 lists []).1[i]? =some l->lists[i]? =some l:=λi l hi hl=>by
          obtain⟨t,ht⟩:=h1;rw[<-ht,List.getElem?_append_left hi] at hl;exact hl
        have hpre2:∀(i:Nat) (l:List Nat),lists[i]? =some l->(ny ss cur 256 0 lists []).1[i]? =some l:=λi l hl=>by
          obtain⟨t,ht⟩:=h1;rw[<-ht,List.getElem?_append_left (List.getElem?_eq_some_iff.1 hl).1];exact hl
        have hlen:=h1.length_le;have hrl:rule.length=next.length:=h.rlen
        obtain⟨L,g1,g2,g3⟩:=uZ (st:=st) n (k+1) _ _ _ d ⟨hpre2 _ _ h.first,h2,by omega,by simp[hrl],λi r l hr hl b y hy=>by
          rcases Nat.lt_or_ge i next.length with hi|hi
          · rw[List.getElem?_append_left hi] at hr;exact(h.row i r l hr (hpre i l (by omega) hl) b y hy).mono h1
          · have hik:i=next.length:=by
              have:=(List.getElem?_eq_some_iff.1 hr).1;simp at this;omega
            subst hik;simp only[List.getElem?_concat_length,Option.some.injEq] at hr;subst hr;have hlc:=hpre _ l (by omega) hl;rw[hk] at hlc;rw[hcur] at hlc;cases hlc;rw[h3,List.nil_append,vR h4] at hy;have:=h5 b y hy
            rwa [Nat.zero_add] at this,λi x l hx hl=>by
          rcases Nat.lt_or_ge i rule.length with hi|hi
          · rw[List.getElem?_append_left hi] at hx;exact h.rule i x l hx (hpre i l (by omega) hl)
          · have hik:i=rule.length:=by
              have:=(List.getElem?_eq_some_iff.1 hx).1;simp at this;omega
            subst hik;simp only[List.getElem?_concat_length,Option.some.injEq] at hx;subst hx;have hlc:=hpre _ l (by omega) hl;rw[hrl,hk,hcur] at hlc;cases hlc;rfl⟩ (by simp[hk]) (by omega) hd
        exact⟨L,h1.trans g1,g2,g3⟩
theorem yJ {ss:List bL}(hr:∀x∈ss,x.rule<=1000000):∀(l:List Nat) (b:Int),-1<=b/\b<=1000000-> -1<=tg ss l b/\tg ss l b<=1000000
  | [],b,h=>h
  |j::r,b,h=>by
    rw[tg];refine yJ hr r _ ?_;split
    · rename_i x I;split
      · have:=hr x (List.mem_of_getElem? I);omega
      · exact h
    · exact h
theorem yH (hr:∀x∈ss,x.rule<=1000000) (l:List Nat) : -1<=bu ss l/\bu ss l<=1000000:=by
  unfold bu;split
  · omega
  · exact yJ hr l (-1) (by omega)
theorem pU.ok {L:List (List Nat)}{d:bW}(k:pU ss st L d) (Y:L.length=d.next.length) (hr:∀x∈ss,x.rule<=1000000):d.Ok:=by
  refine⟨k.rlen,by rw[<-Y];exact k.size,λr U x J=>?_,λx J=>?_⟩
  · obtain⟨i,hi⟩:=List.getElem?_of_mem U;obtain⟨j,Z⟩:=List.getElem?_of_mem J;have I:=(List.getElem?_eq_some_iff.1 hi).1;have hl:L[i]? =some (L[i]'(by omega)):=List.getElem?_eq_getElem _
    rcases k.row i r _ hi hl j x Z with ⟨_,rfl⟩|⟨_,i2,rfl,h2⟩
    · omega
    · have:=(List.getElem?_eq_some_iff.1 h2).1;omega
  · obtain⟨i,hi⟩:=List.getElem?_of_mem J;have I:=(List.getElem?_eq_some_iff.1 hi).1;have hl:L[i]? =some (L[i]'(by rw[Y,<-k.rlen];exact I)):=List.getElem?_eq_getElem _;rw[k.rule i x _ hi hl];exact yH hr _
theorem jO {d:bW}(h:gM ss st= .inr d):(cB ss st).length≠0/\∃L,pU ss st L d/\L.length=d.next.length/\0<L.length:=by
  unfold gM at h;split at h
  · cases h
  · rename_i hs;refine⟨hs,?_⟩;split at h
    · cases h
    · rename_i d' hd;cases h;obtain⟨L,h1,h2,h3⟩:=uZ (st:=st) 2002 0 [cB ss st] [] [] d ⟨rfl,by simp,by simp,rfl,λk r l hr=>by simp at hr,λk x l hx=>by simp at hx⟩ rfl (by simp) hd;exact⟨L,h2,h3,by have:=(List.getElem?_eq_some_iff.1 h2.first).1;omega⟩
theorem HC {d:bW}(h:gM ss st= .inr d) (hr:∀x∈ss,x.rule<=1000000):d.Ok:=by
  obtain⟨_,L,h1,I,_⟩:=jO h;exact h1.ok I hr
theorem pU.to {ss:List bL}{I:Nat}{L:List (List Nat)}{d:bW}(k:pU ss I L d) (hL:L.length=d.next.length){st:Nat}{now:List Nat}(J:L[st]? =some now) (c:UInt8):yS L (cT ss c now) (d.to st c):=by
  have hl:=(List.getElem?_eq_some_iff.1 J).1;have hr:d.next[st]? =some (d.next[st]'(by omega)):=List.getElem?_eq_getElem _
  obtain⟨x,U,he,hm⟩:=(d.next[st]'(by omega)).at c;unfold bW.to;rw[hr];simp only;rw[he];have:=k.row st _ now hr J c.toNat x U
  rwa [UInt8.ofNat_toNat] at this
theorem pU.ru {ss:List bL}{I:Nat}{L:List (List Nat)}{d:bW}(k:pU ss I L d) (hL:L.length=d.next.length){st:Nat}{now:List Nat}(U:L[st]? =some now):d.ru st=bu ss now:=by
  have hl:=(List.getElem?_eq_some_iff.1 U).1;have J:st<d.rule.length:=by rw[k.rlen];omega
  have hr:d.rule[st]? =some (d.rule[st]'J):=List.getElem?_eq_getElem _;have:=k.rule st _ now hr U;unfold bW.ru;rw[List.getD_eq_getElem?_getD,hr];exact this
theorem uY {ss:List bL}{U:Nat}{L:List (List Nat)}{d:bW}(k:pU ss U L d) (J:L.length=d.next.length):∀(l:By) (st j:Nat) (now:List Nat) (b:Int×Int),L[st]? =some now->now.length≠0 ->
    ((aT d l st j b).1,(aT d l st j b).2.1)=ku ss l now j b
  | [],st,j,now,b,I,h0=>by
    rw[aT,ku,if_neg h0,k.ru J I];split<;>rfl
  |c::l,st,j,now,b,I,h0=>by
    rw[aT,ku,if_neg h0,k.ru J I]
    rcases k.to J I c with ⟨e,h⟩|⟨e,i,h,hi⟩
    · rw[h,if_neg (by decide),xh e];split<;>rfl
    · rw[h,if_pos (by omega),Int.toNat_natCast];exact uY k J l i (j+1) _ _ hi e
theorem sS {d:bW}(h:gM ss st= .inr d) (hs:ss.length≠0) (l:By):((aT d l 0 0 (0,-1)).1,(aT d l 0 0 (0,-1)).2.1)=dN ss st l:=by
  obtain⟨h0,L,h1,I,_⟩:=jO h;rw[dN,if_neg hs];exact uY h1 I l 0 0 _ _ h1.first h0
def bW.go (d:bW):By->Int->Int
  | [],s=>s
  |c::l,s=>bW.go d l (if s<0 then -1 else d.to s.toNat c)
def bW.fZ (d:bW) (s:Int) (w:By):Int:=if d.go w s<0 then -1 else d.ru (d.go w s).toNat
theorem go_neg (d:bW):∀(w:By) (s:Int),s<0->d.go w s<0
  | [],s,h=>h
  |c::l,s,h=>by
    rw[bW.go,if_pos h];exact go_neg d l (-1) (by decide)
theorem mz (d:bW) (w:By){s:Int}(h:s<0):d.fZ s w= -1:=by rw[bW.fZ,if_pos (go_neg d w s h)]
theorem ef (d:bW) (k:Nat):d.fZ (k:Int) []=d.ru k:=by
  rw[bW.fZ,bW.go,if_neg (by omega),Int.toNat_natCast]
theorem eK (d:bW) (k:Nat) (c:UInt8) (w:By):d.fZ (k:Int) (c::w)=d.fZ (d.to k c) w:=by
  have h:¬((k:Int)<0):=by omega
  rw[bW.fZ,bW.fZ,bW.go,if_neg h,Int.toNat_natCast]
def Kr (d:bW) (k:Nat):Prop:=∃w,0<=d.fZ (k:Int) w
def iY (d:bW) (out:List Bool):Prop:=∀k:Nat,out.getD k false=true->Kr d k
theorem IN {d:bW}{t:Int}(h:t∈d.row k):∃c:UInt8,d.to k c=t:=by
  unfold bW.row at h;split at h
  · rename_i r hr;obtain⟨i,hi⟩:=List.getElem?_of_mem h;have hl:=(List.getElem?_eq_some_iff.1 hi).1;rw[r.len] at hl;refine⟨UInt8.ofNat i,?_⟩;have hc:(UInt8.ofNat i).toNat=i:=by simp;omega
    unfold bW.to;rw[hr];simp only;rw[hc,List.getD_eq_getElem?_getD,hi];rfl
  · cases h
theorem Mp {d:bW}(c:UInt8) (h:k<d.next.length):d.to k c∈d.row k:=by
  have hr:d.next[k]? =some (d.next[k]'h):=List.getElem?_eq_getElem _
  obtain⟨x,hx,he,hm⟩:=(d.next[k]'h).at c;unfold bW.to bW.row;rw[hr];simp only;rw[he];exact hm
theorem Bt {d:bW}{out:List Bool}(h:iY d out) (k:Nat) (I:dO d out k=true):Kr d k:=by
  unfold dO at I
  rcases Bool.or_eq_true _ _▸I with e|e
  · exact⟨[],by rw[ef];exact of_decide_eq_true e⟩
  · obtain⟨t,J,hl⟩:=List.any_eq_true.1 e;unfold gH at hl;rw[Bool.and_eq_true] at hl;have h0:=of_decide_eq_true hl.1;obtain⟨c,hc⟩:=IN J;obtain⟨w,hw⟩:=h t.toNat hl.2;refine⟨c::w,?_⟩;rw[eK,hc]
    rwa [Int.toNat_of_nonneg h0] at hw
theorem GH {d:bW}{out:List Bool}(h:iY d out) (k:Nat):iY d (out.set k (dO d out k)):=by
  intro j I
  by_cases e:k=j
  · subst e;rw[List.getD_eq_getElem?_getD] at I
    by_cases hk:k<out.length
    · rw[List.getElem?_set_self hk] at I;exact Bt h k I
    · rw[List.getElem?_eq_none (by simp;omega)] at I;cases I
  · rw[List.getD_eq_getElem?_getD,List.getElem?_set_ne e,<-List.getD_eq_getElem?_getD] at I;exact h j I
theorem kF {d:bW}:∀(n k:Nat) (out:List Bool) (I:Bool),iY d out->iY d (cx d n k out I).1
  | 0,_,_,_,h=>h
  |n+1,k,out,I,h=>by
    rw[cx];split
    · exact kF n (k+1) out I h
    · exact kF n (k+1) _ _ (GH h k)
theorem kE {d:bW}:∀(n k:Nat) (out:List Bool) (ag:Bool),k+n<=out.length->(cx d n k out ag).2=false->(cx d n k out ag).1=out/\∀j,k<=j->j<k+n->out.getD j false=false->dO d out j=false
  | 0,_,_,_,_,_=>⟨rfl,λj h1 h2=>by omega⟩
  |n+1,k,out,ag,hk,h=>by
    rw[cx] at h ⊢;split at h
    · rename_i hg;rw[if_pos hg];obtain⟨h1,h2⟩:=kE n (k+1) out ag (by omega) h
      exact⟨h1,λj hj1 hj2 hj3=>by
        by_cases e:j=k
        · subst e;rw[hg] at hj3;cases hj3
        · exact h2 j (by omega) (by omega) hj3⟩
    · rename_i hg;rw[if_neg hg]
      have hf:out[k]? =some false:=by
        rw[List.getD_eq_getElem?_getD,List.getElem?_eq_getElem (by omega)] at hg;rw[List.getElem?_eq_getElem (by omega)];simpa using hg
      obtain⟨h1,h2⟩:=kE n (k+1) _ _ (by simp;omega) h
      have hb:dO d out k=false:=by
        cases hb:dO d out k with
        |false=>rfl
        |true =>
          exfalso;rw[hb,Bool.or_true] at h
          have hmono:∀(n k:Nat) (out:List Bool),(cx d n k out true).2=true:=λn=>by
            induction n with
            |zero=>intro k out;rfl
            |succ n ih=>intro k out;rw[cx];split<;>simp[ih]
          rw[hmono] at h;cases h
      have hset:out.set k (dO d out k)=out:=by
        rw[hb]
        apply List.ext_getElem?
        intro j
        by_cases e:k=j
        · subst e;rw[List.getElem?_set_self (by omega),hf]
        · rw[List.getElem?_set_ne e]
      rw[hset] at h1 h2;rw[hset]
      exact⟨h1,λj hj1 hj2 hj3=>by
        by_cases e:j=k
        · subst e;exact hb
        · exact h2 j (by omega) (by omega) hj3⟩
def yR (d:bW) (out:List Bool):Prop:=∀k,k<d.next.length->out.getD k false=false->dO d out k=false
theorem xw {d:bW}:∀(n:Nat) (out:List Bool),out.length=d.next.length->gK out<n->iY d out->iY d (sC d n out)/\yR d (sC d n out)
  | 0,_,_,h,_=>absurd h (Nat.not_lt_zero _)
  |n+1,out,hl,hf,hs=>by
    have hless:=jd d d.next.length 0 out false (by omega)
    have hsp:=kF d.next.length 0 out false hs
    rw[sC];split
    · rename_i ht
      rcases hless.2 ht with e|e
      · cases e
      · exact xw n _ (by rw[ir];exact hl) (by omega) hsp
    · rename_i ht;have hst:=kE d.next.length 0 out false (by omega) (by simpa using ht)
      rw[hst.1];exact⟨hs,λk hk hko=>hst.2 k (Nat.zero_le _) (by omega) hko⟩
theorem sV {d:bW}{out:List Bool}(J:d.Ok) (h:yR d out):∀(w:By) (k:Nat),k<d.next.length->0<=d.fZ (k:Int) w->out.getD k false=true
  | [],k,hk,hw=>by
    rw[ef] at hw;cases U:out.getD k false with
    |true=>rfl
    |false =>
      have:=h k hk U;unfold dO at this;rw[decide_eq_true hw] at this;cases this
  |c::w,k,hk,hw=>by
    rw[eK] at hw;have ht:=bW.rX J (s:=k) c
    have h0:0<=d.to k c:=by
      by_cases e:d.to k c<0
      · rw[mz d w e] at hw;omega
      · omega
    obtain⟨t,I⟩:=Int.eq_ofNat_of_zero_le h0;rw[I] at hw;have Z:=sV J h w t (by omega) hw;cases U:out.getD k false with
    |true=>rfl
    |false =>
      have:=h k hk U;unfold dO at this;rw[Bool.or_eq_false_iff] at this;have Y:=List.any_eq_false.1 this.2 _ (Mp c hk);unfold gH at Y;rw[I,Int.toNat_natCast,Z] at Y;simp at Y
theorem xu {d:bW}(I:d.Ok) (hk:k<d.next.length):(bA d).getD k false=true↔Kr d k:=by
  have h:=xw (d:=d) (d.next.length+1) (List.replicate d.next.length false) (by simp) (by
    have:gK (List.replicate d.next.length false)<=d.next.length:=by unfold gK;exact Nat.le_trans (List.length_filter_le _ _) (by simp)
    omega) (λk hk=>by
      rw[List.getD_eq_getElem?_getD,List.getElem?_replicate] at hk;split at hk<;>cases hk)
  exact⟨h.1 k,fun⟨w,hw⟩=>sV I h.2 w k hk hw⟩
structure Gg (d:bW) (live:List Bool) (cls:List Int) (k:Nat) (seen:List (List Int)) (after:List Int):Prop where
  len:after.length=k
  once:seen.Nodup
  at_:∀j,j<k->∃i:Nat,after[j]? =some (i:Int)/\seen[i]? =some (fM d live cls j)
theorem yb:∀(ls:List (List Int)) (i:Nat) (l:List Int),lH i ls l=none->l∉ls
  | [],i,l,_=>List.not_mem_nil
  |x::r,i,l,h=>by
    rw[lH] at h;split at h
    · cases h
    · rename_i e;have:=yb r (i+1) l h;simp only[List.mem_cons,not_or];exact⟨e,this⟩
theorem lS {d:bW}{live:List Bool}{cls:List Int}:∀(n k:Nat) (seen:List (List Int)) (after:List Int),Gg d live cls k seen after->Gg d live cls (k+n) (br d live cls n k seen after).1 (br d live cls n k seen after).2
  | 0,k,seen,after,h=>h
  |n+1,k,seen,after,h=>by
    rw[br,show k+(n+1)=(k+1)+n by omega];split
    · rename_i i hi;have hi':=rC seen 0 i _ hi;refine lS n (k+1) _ _ ⟨by simp[h.len],h.once,λj hj=>?_⟩
      by_cases e:j=k
      · subst e;refine⟨i,?_,hi'.2⟩;rw[<-h.len,List.getElem?_concat_length]
      · obtain⟨i',h1,h2⟩:=h.at_ j (by omega);exact⟨i',by rw[List.getElem?_append_left (by rw[h.len];omega)];exact h1,h2⟩
    · rename_i hi;have hno:=yb seen 0 _ hi;refine lS n (k+1) _ _ ⟨by simp[h.len],List.nodup_append.2 ⟨h.once,by simp,λa ha b hb e=>?_⟩,λj hj=>?_⟩
      · have:b=fM d live cls k:=by simpa using hb
        rw[e,this] at ha;exact hno ha
      · by_cases e:j=k
        · subst e;refine⟨seen.length,?_,by rw[List.getElem?_concat_length]⟩;rw[<-h.len,List.getElem?_concat_length]
        · obtain⟨i',h1,h2⟩:=h.at_ j (by omega);exact⟨i',by rw[List.getElem?_append_left (by rw[h.len];omega)];exact h1,by rw[List.getElem?_append_left (List.getElem?_eq_some_iff.1 h2).1];exact h2⟩
theorem lT {d:bW}{live:List Bool}(hs:s<d.next.length) (ht:t<d.next.length) :
    (br d live cls d.next.length 0 [] []).2.getD s 0=(br d live cls d.next.length 0 [] []).2.getD t 0↔fM d live cls s=fM d live cls t:=by
  have h:=lS (d:=d) (live:=live) (cls:=cls) d.next.length 0 [] [] ⟨rfl,by simp,λj hj=>absurd hj (Nat.not_lt_zero _)⟩
  rw[Nat.zero_add] at h;obtain⟨i,h1,h2⟩:=h.at_ s hs;obtain⟨j,h3,Z⟩:=h.at_ t ht;rw[List.getD_eq_getElem?_getD,List.getD_eq_getElem?_getD,h1,h3];constructor
  · intro e
    have:i=j:=by
      have e':(i:Int)=(j:Int):=e;omega
    subst this;rw[h2] at Z;exact Option.some.inj Z
  · intro e;rw[<-e] at Z;have hi:=(List.getElem?_eq_some_iff.1 h2)
    have hj:=(List.getElem?_eq_some_iff.1 Z)
    obtain⟨Y,U⟩:=hi;obtain⟨J,I⟩:=hj
    have:i=j:=by
      rcases Nat.lt_trichotomy i j with e|e|e
      · exact absurd (U.trans I.symm) (List.pairwise_iff_getElem.1 h.once i j Y J e)
      · exact e
      · exact absurd (I.trans U.symm) (List.pairwise_iff_getElem.1 h.once j i J Y e)
    subst this;rfl
theorem u7:∀(m:Nat) (l:List Int),kT m l->l.length=m->l.Nodup
  | 0,l,_,hl=>by rw[List.length_eq_zero_iff.1 hl];exact List.Pairwise.nil
  |m+1,l,h,hl=>by
    have hm:=h m (Nat.lt_succ_self m);have h1:kT m (l.erase (m:Int)):=λi hi=>(List.mem_erase_of_ne (by omega)).2 (h i (by omega))
    have h3:=List.length_erase_of_mem hm;have Y:=u7 m _ h1 (by omega)
    have J:(m:Int)∉l.erase (m:Int):=λI=>by
      have U:kT m ((l.erase (m:Int)).erase (m:Int)):=λi hi=>(List.mem_erase_of_ne (by omega)).2 (h1 i hi)
      have h5:=rE _ _ U;have h6:=List.length_erase_of_mem I;have h7:=List.length_pos_of_mem I;omega
    exact(List.perm_cons_erase hm).nodup_iff.2 (List.nodup_cons.2 ⟨J,Y⟩)
theorem so {d:bW}(hs:s<d.next.length) (c:UInt8):(d.row s)[c.toNat]? =some (d.to s c):=by
  have hr:d.next[s]? =some (d.next[s]'hs):=List.getElem?_eq_getElem _
  obtain⟨x,I,he,_⟩:=(d.next[s]'hs).at c;unfold bW.row bW.to;rw[hr];simp only;rw[he];exact I
theorem A6 {d:bW}(hs:s<d.next.length):(d.row s).length=256:=by
  have hr:d.next[s]? =some (d.next[s]'hs):=List.getElem?_eq_getElem _
  unfold bW.row;rw[hr];exact(d.next[s]'hs).len
theorem FI {d:bW}(hs:s<d.next.length) (I:t<d.next.length) (f:Int->Int):(d.row s).map f=(d.row t).map f↔∀c:UInt8,f (d.to s c)=f (d.to t c):=by
  constructor
  · intro e c;have:=congrArg (λl=>l[c.toNat]?) e;simp only[List.getElem?_map,so hs c,so I c,Option.map_some,Option.some.injEq] at this;exact this
  · intro h
    apply List.ext_getElem?
    intro i
    by_cases hi:i<256
    · have hc:(UInt8.ofNat i).toNat=i:=by simp;omega
      have h1:=so hs (UInt8.ofNat i);have J:=so I (UInt8.ofNat i);rw[hc] at h1 J;rw[List.getElem?_map,List.getElem?_map,h1,J,Option.map_some,Option.map_some,h]
    · rw[List.getElem?_eq_none (by rw[List.length_map,A6 hs];omega),List.getElem?_eq_none (by rw[List.length_map,A6 I];omega)]
def Alike (d:bW) (a b:Int):Prop:=∀w,d.fZ a w=d.fZ b w
theorem FD {d:bW}(I:d.Ok) (a:Int) (w:By) : -1<=d.fZ a w:=by
  unfold bW.fZ;split
  · omega
  · unfold bW.ru;rw[List.getD_eq_getElem?_getD];cases h:d.rule[(d.go w a).toNat]? with
    |none=>decide
    |some x=>exact(I.ru x (List.mem_of_getElem? h)).1
theorem kL {d:bW}(I:d.Ok){a:Int}(ha:a<d.next.length):(a<0\/(bA d).getD a.toNat false=false)↔∀w,d.fZ a w= -1:=by
  constructor
  · intro h w
    rcases h with h|h
    · exact mz d w h
    · by_cases J:a<0
      · exact mz d w J
      · obtain⟨k,rfl⟩:=Int.eq_ofNat_of_zero_le (show 0<=a by omega);have hl:=xu I (k:=k) (by omega);have hg:=FD I (k:Int) w
        by_cases hw:0<=d.fZ (k:Int) w
        · rw[Int.toNat_natCast,hl.2 ⟨w,hw⟩] at h;cases h
        · omega
  · intro h
    by_cases J:a<0
    · exact .inl J
    · right
      obtain⟨k,rfl⟩:=Int.eq_ofNat_of_zero_le (show 0<=a by omega);have hl:=xu I (k:=k) (by omega);rw[Int.toNat_natCast];cases U:(bA d).getD k false with
      |false=>rfl
      |true =>
        obtain⟨w,hw⟩:=hl.1 U;have:=h w;omega
structure vp (d:bW) (cls:List Int):Prop where
  len:cls.length=d.next.length
  ge:∀k,-1<=cls.getD k 0
  alike:∀s t:Nat,s<d.next.length->t<d.next.length->Alike d s t->cls.getD s 0=cls.getD t 0
  rule:∀s t:Nat,s<d.next.length->t<d.next.length->cls.getD s 0=cls.getD t 0->d.ru s=d.ru t
theorem BS {d:bW}(I:d.Ok) (k:vp d cls){a b:Int}(ha:a<d.next.length) (hb:b<d.next.length) (h:Alike d a b):cA (bA d) cls a=cA (bA d) cls b:=by
  by_cases U:a<0\/(bA d).getD a.toNat false=false
  · have J:b<0\/(bA d).getD b.toNat false=false:=(kL I hb).2 λw=>by rw[<-h w];exact(kL I ha).1 U w
    rw[cA,if_pos U,cA,if_pos J]
  · have J:¬(b<0\/(bA d).getD b.toNat false=false):=λe=>U ((kL I ha).2 λw=>by rw[h w];exact(kL I hb).1 e w)
    rw[cA,if_neg U,cA,if_neg J]
    have Z:0<=a:=by
      by_cases e:a<0
      · exact absurd (.inl e) U
      · omega
    have Y:0<=b:=by
      by_cases e:b<0
      · exact absurd (.inl e) J
      · omega
    exact k.alike a.toNat b.toNat (by omega) (by omega) (by rw[Int.toNat_of_nonneg Z,Int.toNat_of_nonneg Y];exact h)
theorem Hj {d:bW}(I:d.Ok) (k:vp d cls) (hs:s<d.next.length) (J:t<d.next.length) (h:Alike d s t):fM d (bA d) cls s=fM d (bA d) cls t:=by
  unfold fM;rw[k.alike s t hs J h,(FI hs J _).2 λc=>BS I k (bW.rX I c).2 (bW.rX I c).2 λw=>by rw[<-eK,<-eK];exact h (c::w)]
theorem Ds {d:bW}{live:List Bool}(h:fM d live cls s=fM d live cls t):cls.getD s 0=cls.getD t 0:=by
  unfold fM at h;exact(List.cons.inj h).1
theorem IV {d:bW}(U:d.Ok) (k:vp d cls):vp d (br d (bA d) cls d.next.length 0 [] []).2:=by
  have I:=fA d (bA d) cls;refine⟨I.len,λj=>?_,λs t hs J h=>(lT hs J).2 (Hj U k hs J h),λs t hs J h=>k.rule s t hs J (Ds ((lT hs J).1 h))⟩;rw[List.getD_eq_getElem?_getD];cases Y:(br d (bA d) cls d.next.length 0 [] []).2[j]? with
  |none=>decide
  |some x=>have:=I.bound x (List.mem_of_getElem? Y);show -1<=x;omega
theorem vQ {d:bW}(hok:d.Ok) (hs:s<d.next.length):d.rule.getD s 0=d.ru s:=by
  have hl:=hok.len;unfold bW.ru;rw[List.getD_eq_getElem?_getD,List.getD_eq_getElem?_getD,List.getElem?_eq_getElem (by omega)];rfl
theorem IM {d:bW}(hok:d.Ok):vp d d.rule:=by
  refine⟨hok.len,λk=>?_,λs t hs ht h=>?_,λs t hs ht h=>?_⟩
  · rw[List.getD_eq_getElem?_getD];cases hx:d.rule[k]? with
    |none=>decide
    |some x=>exact(hok.ru x (List.mem_of_getElem? hx)).1
  · rw[vQ hok hs,vQ hok ht];have:=h []
    rwa [ef,ef] at this
  · rwa [vQ hok hs,vQ hok ht] at h
theorem rY {d:bW}(I:d.Ok){cls:List Int}(k:vp d cls) (U:∀s t,s<d.next.length->t<d.next.length->cls.getD s 0=cls.getD t 0->fM d (bA d) cls s=fM d (bA d) cls t):∀(w:By) (s t:Nat),s<d.next.length->t<d.next.length->cls.getD s 0=cls.getD t 0->d.fZ (s:Int) w=d.fZ (t:Int) w
  | [],s,t,hs,Z,h=>by rw[ef,ef];exact k.rule s t hs Z h
  |c::w,s,t,hs,Z,h=>by
    rw[eK,eK];have hk:=U s t hs Z h;unfold fM at hk;have hb:=(FI hs Z _).1 (List.cons.inj hk).2 c;have ha:=(bW.rX I (s:=s) c).2;have aa:=(bW.rX I (s:=t) c).2;generalize d.to s c=a at *;generalize d.to t c=b at *
    by_cases Y:a<0\/(bA d).getD a.toNat false=false
    · have J:b<0\/(bA d).getD b.toNat false=false:=by
        by_cases e:b<0\/(bA d).getD b.toNat false=false
        · exact e
        · rw[cA,if_pos Y,cA,if_neg e] at hb;have:=k.ge b.toNat;omega
      rw[(kL I ha).1 Y w,(kL I aa).1 J w]
    · by_cases J:b<0\/(bA d).getD b.toNat false=false
      · rw[cA,if_neg Y,cA,if_pos J] at hb;have:=k.ge a.toNat;omega
      · rw[cA,if_neg Y,cA,if_neg J] at hb
        have ac:0<=a:=by
          by_cases e:a<0
          · exact absurd (.inl e) Y
          · omega
        have ab:0<=b:=by
          by_cases e:b<0
          · exact absurd (.inl e) J
          · omega
        have ih:=rY I k U w a.toNat b.toNat (by omega) (by omega) hb
        rwa [Int.toNat_of_nonneg ac,Int.toNat_of_nonneg ab] at ih
theorem vf {d:bW}(hok:d.Ok):∀(n many:Nat) (cls:List Int),vp d cls->kT many cls->many<=d.next.length->d.next.length+1<=n+many->vp d (lU d (bA d) n many cls)/\∀s t:Nat,s<d.next.length->t<d.next.length->(lU d (bA d) n many cls).getD s 0=(lU d (bA d) n many cls).getD t 0->Alike d s t
  | 0,many,cls,k,hc,hm,hf=>by omega
  |n+1,many,cls,k,hc,hm,hf=>by
    have hend:=fA d (bA d) cls;have hmore:=pI (live:=bA d) hc k.len;have hp:=IV hok k;rw[lU];split
    · rename_i he;refine⟨hp,λs t hs ht h w=>?_⟩;have hkey:=(lT hs ht).1 h;refine rY hok k (λs t hs ht h=>?_) w s t hs ht (Ds hkey)
      have hcov:kT many ((br d (bA d) cls d.next.length 0 [] []).1.map λs=>s.getD 0 0):=λi hi=>by
        obtain⟨k',hk'⟩:=List.getElem?_of_mem (hc i hi);have hkl:=(List.getElem?_eq_some_iff.1 hk').1;have:=hend.all k' (by have:=k.len;omega);refine List.mem_map.2 ⟨_,this,?_⟩;simp[fM,List.getD_eq_getElem?_getD,hk']
      have hon:=u7 many _ hcov (by simpa using he);obtain⟨i,hi⟩:=List.getElem?_of_mem (hend.all s hs);obtain⟨j,hj⟩:=List.getElem?_of_mem (hend.all t ht);have h1:((br d (bA d) cls d.next.length 0 [] []).1.map λs=>s.getD 0 0)[i]? =some (cls.getD s 0):=by rw[List.getElem?_map,hi];rfl
      have h2:((br d (bA d) cls d.next.length 0 [] []).1.map λs=>s.getD 0 0)[j]? =some (cls.getD s 0):=by rw[List.getElem?_map,hj,h];rfl
      obtain⟨hi1,hi2⟩:=List.getElem?_eq_some_iff.1 h1;obtain⟨hj1,hj2⟩:=List.getElem?_eq_some_iff.1 h2
      have hij:i=j:=by
        rcases Nat.lt_trichotomy i j with e|e|e
        · exact absurd (hi2.trans hj2.symm) (List.pairwise_iff_getElem.1 hon i j hi1 hj1 e)
        · exact e
        · exact absurd (hj2.trans hi2.symm) (List.pairwise_iff_getElem.1 hon j i hj1 hi1 e)
      subst hij;rw[hi] at hj;exact Option.some.inj hj
    · rename_i hne;have hsz:=hend.size;exact vf hok n _ _ hp hend.nums hsz (by omega)
theorem pJ {d:bW}(I:d.Ok) (hs:s<d.next.length) (J:t<d.next.length):(eE d (bA d)).getD s 0=(eE d (bA d)).getD t 0↔Alike d s t:=by
  have h:=vf I (d.next.length+1) 0 d.rule (IM I) (λi hi=>absurd hi (Nat.not_lt_zero _)) (Nat.zero_le _) (by omega);exact⟨h.2 s t hs J,h.1.alike s t hs J⟩
def jJ (B:Nat) (ss:List bL):Prop:=∀x∈ss,x.rule<=B
theorem jJ.snoc {B:Nat}(k:jJ B ss){x:bL}(h:x.rule<=B):jJ B (ss++[x]):=λy I=>by
  rcases List.mem_append.1 I with e|e
  · exact k y e
  · have:y=x:=by simpa using e
    rw[this];exact h
theorem jJ.set {B:Nat}{ss:List bL}(k:jJ B ss){x:bL}(h:x.rule<=B) (i:Nat):jJ B (ss.set i x):=λy I=>by
  rcases List.mem_or_eq_of_mem_set I with e|e
  · exact k y e
  · rw[e];exact h
end
mutual
theorem Bx (B:Nat):∀(x:Nd) (ss:List bL) (to:Nat),jJ B ss->jJ B (lay x ss to).1
  |.mk k s kids,ss,to,h=>by
    rw[lay];split
    · exact h.snoc (Nat.zero_le _)
    · split
      · exact Af B kids ss to h
      · split
        · exact(Ag B kids ss to h).snoc (Nat.zero_le _)
        · split
          · exact(Ae B kids ss to h).snoc (Nat.zero_le _)
          · split
            · exact(Ae B kids _ _ (h.snoc (Nat.zero_le _))).set (Nat.zero_le _) _
            · exact h
theorem Af (B:Nat):∀(l:List Nd) (ss:List bL) (to:Nat),jJ B ss->jJ B (bC l ss to).1
  | [],ss,to,h=>by rw[bC];exact h
  |x::r,ss,to,h=>by rw[bC];exact Bx B x _ _ (Af B r ss to h)
theorem Ag (B:Nat):∀(l:List Nd) (ss:List bL) (to:Nat),jJ B ss->jJ B (aY l ss to).1
  | [],ss,to,h=>by rw[aY];exact h
  |x::r,ss,to,h=>by rw[aY];exact Ag B r _ to (Bx B x ss to h)
theorem Ae (B:Nat):∀(l:List Nd) (ss:List bL) (to:Nat),jJ B ss->jJ B (cy l ss to).1
  | [],ss,to,h=>by rw[cy];exact h
  |x::r,ss,to,h=>by rw[cy];exact Bx B x ss to h
end
section
variable {ss:List bL}{st s k t:Nat}{cls:List Int}
theorem Df (B:Nat):∀(i:Nat) (rules:List By) (ss:List bL) (t:List Nat) (ss':List bL) (t':List Nat),i+rules.length<=B->jJ B ss->jG i rules ss t= .inr (ss',t')->jJ B ss'
  |i,[],ss,t,ss',t',_,h,hm=>by
    rw[jG] at hm;cases hm;exact h
  |i,s::r,ss,t,ss',t',I,h,hm=>by
    rw[List.length_cons] at I;rw[jG] at hm;split at hm
    · cases hm
    · exact Df B (i+1) r _ _ ss' t' (by omega) (Bx B _ _ _ (h.snoc (by show i<=B;omega))) hm
theorem Ji {rules:List By}(h:eo rules= .inr (ss,st)):∀x∈ss,x.rule<=1000000:=by
  unfold eo at h;split at h
  · cases h
  · rename_i hn;split at h
    · cases h
    · rename_i ss1 t1 hg;split at h
      · cases h
      · cases h;have:=Df 64 0 rules [] [] ss1 t1 (by omega) (λx hx=>(by cases hx)) hg;intro x hx;have:=(this.snoc (x:=⟨0,0,t1,0⟩) (Nat.zero_le _)) x hx;omega
end
end Go.Proofs.YtnjahnbpnpkmhaaGreatDoor
namespace Go.Proofs.YtnjahnbpnpkmhaaGreatDoor
open Go Go.Lw
set_option maxRecDepth 20000
def nN (rules:List By):Int ⊕ bW:=match eo rules with
  |.inl e=>.inl e
  |.inr (ss,st)=>gM ss st
theorem qg {rules:List By}{d:bW}(h:nN rules= .inr d):d.Ok/\0<d.next.length:=by
  unfold nN at h;split at h
  · cases h
  · rename_i ss st hm;refine⟨HC h (Ji hm),?_⟩;obtain⟨_,L,_,h2,h3⟩:=jO h;omega
theorem Cu {rules:List By}{d:bW}(h:nN rules= .inr d) (s:By) (a:Int):((dH d s a).1,(dH d s a).2.1)=oW rules s a:=by
  have hd:=(qg h).2;unfold nN at h;split at h
  · cases h
  · rename_i ss st hm;have hst:=(eZ hm).stl;unfold oW xj dH;rw[hm];simp only
    by_cases I:a<0\/(s.length:Int)<a
    · rw[if_pos (.inr I),if_pos (.inr I)]
    · rw[if_neg (by omega),if_neg (by omega)];exact sS h (by omega) _
end Go.Proofs.YtnjahnbpnpkmhaaGreatDoor

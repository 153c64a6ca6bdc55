/- What the proof of the statement leans on (part 21). -/
import Derived.Lib.ItoaLen
import Derived.Test.YtmehdcdbeafljaaGreatDoorQt

namespace Go.Proofs.YtmehdcdbeafljaaGreatDoor
open Go
def gu (l:List Int):By:=l.flatMap fun n=>Lib.itoa n++[32]
theorem qy (u:Nat):∀c∈Lib.decDigits u,48<=c.toNat/\c.toNat<=57:=by
 induction u using Nat.strongRecOn with
 |_ u ih =>
  intro c hc;rw[Lib.decDigits] at hc;split at hc
  · rename_i h;simp at hc;subst hc;simp;omega
  · rename_i h
    rcases List.mem_append.1 hc with k|k
    · exact ih (u / 10) (by omega) c k
    · simp at k;subst k;have:u%10<10:=Nat.mod_lt _ (by decide);simp;omega
def FX (l:By):Nat:=l.foldl (fun a c=>a*10+(c.toNat-48)) 0
theorem sj (u:Nat):FX (Lib.decDigits u)=u:=by
 induction u using Nat.strongRecOn with
 |_ u ih =>
  rw[Lib.decDigits];split
  · rename_i h;simp[FX];omega
  · rename_i h;have h1:=ih (u / 10) (by omega);unfold FX at h1 ⊢;rw[List.foldl_append,h1];have:u%10<10:=Nat.mod_lt _ (by decide);simp;omega
theorem tK (n:Int):∀c∈Lib.itoa n,c≠32:=by
 intro c hc e;subst e;unfold Lib.itoa at hc;split at hc
 · rcases List.mem_cons.1 hc with k|k
   · cases k
   · have:=(qy _ _ k).1;simp at this
 · have:=(qy _ _ hc).1;simp at this
theorem FB {m n:Int}(h:Lib.itoa m=Lib.itoa n):m=n:=by
 have neg:∀a b:Nat,45::Lib.decDigits a≠Lib.decDigits b:=fun a b e=>by
  have:(45:UInt8)∈Lib.decDigits b:=by rw[<-e];exact List.mem_cons_self
  have:=(qy _ _ this).1;simp at this
 unfold Lib.itoa at h;split at h<;>split at h
 · have h:=congrArg FX (List.cons.inj h).2;rw[sj,sj] at h;omega
 · exact absurd h (neg _ _)
 · exact absurd h.symm (neg _ _)
 · have h:=congrArg FX h;rw[sj,sj] at h;omega
theorem rH:∀(a b r s:By),(∀c∈a,c≠32)->(∀c∈b,c≠32)->a++32::r=b++32::s->a=b/\r=s
 | [],[],r,s,_,_,h=>by simpa using h
 | [],d::b,r,s,_,hb,h=>by
  simp only[List.nil_append,List.cons_append,List.cons.injEq] at h;exact absurd h.1.symm (hb d List.mem_cons_self)
 |c::a,[],r,s,ha,_,h=>by
  simp only[List.nil_append,List.cons_append,List.cons.injEq] at h;exact absurd h.1 (ha c List.mem_cons_self)
 |c::a,d::b,r,s,ha,hb,h=>by
  simp only[List.cons_append,List.cons.injEq] at h;have:=rH a b r s (fun x hx=>ha x (List.mem_cons_of_mem _ hx)) (fun x hx=>hb x (List.mem_cons_of_mem _ hx)) h.2;exact⟨by rw[h.1,this.1],this.2⟩
theorem key_inj:∀{l m:List Int},gu l=gu m->l=m
 | [],[],_=>rfl
 | [],n::m,h=>by
  have:=congrArg List.length h;simp[gu] at this
 |n::l,[],h=>by
  have:=congrArg List.length h;simp[gu] at this
 |n::l,k::m,h=>by
  have h':Lib.itoa n++32::gu l=Lib.itoa k++32::gu m:=by simpa [gu] using h
  obtain⟨h1,h2⟩:=rH _ _ _ _ (tK n) (tK k) h';rw[FB h1,key_inj h2]
theorem xL:∀(l:List Int),(∀n∈l,-9223372036854775808<=n/\n<=9223372036854775807)->(gu l).length<=22*l.length
 | [],_=>by simp[gu]
 |n::l,h=>by
  have h1:=xL l (fun x hx=>h x (List.mem_cons_of_mem _ hx));have hn:=h n List.mem_cons_self;have h2:=Lib.itoa_length_le n hn.1 hn.2;have e:gu (n::l)=Lib.itoa n++[32]++gu l:=rfl;have h3:(gu (n::l)).length=(Lib.itoa n).length+1+(gu l).length:=by rw[e,List.length_append,List.length_append];rfl
  rw[h3,List.length_cons];omega
theorem Fz (l:List Int) (n:Int):gu (l++[n])=gu l++Lib.itoa n++[32]:=by simp[gu]
end Go.Proofs.YtmehdcdbeafljaaGreatDoor
namespace Go.Proofs.YtmehdcdbeafljaaGreatDoor
open Go.Proofs.Tryz
open Go Go.Lw
set_option maxRecDepth 20000
section
variable {h:aA}{b:Nat}{v:Value}{l:List UInt8}
theorem bInfo:∃j,Tryz.prog.info? 205=some j/\j.size≠0:=⟨_,rfl,by decide⟩
theorem IY:∃i,Tryz.prog.info? 5=some i/\i.zero=some (.int .u8 0)/\i.size=1/\i.bytes=1:=⟨_,rfl,rfl,rfl,rfl⟩
theorem Lz:liesAt Tryz.prog Tryz.prog.depth 205 (2 / Tryz.prog.cellsOf 205) 0 205 1=true:=by kernel_rfl
theorem GH:Tryz.prog.cellsOf 5=1:=by kernel_rfl
theorem rP (hb:bh h b 205 [.pointer none,v]) :
 ah Tryz.prog 141 #[.pointer (some ⟨b,0,none⟩)] h (cM fun _ h'=>bh h' b 205 [.pointer (some ⟨b,0,none⟩),v]/\Ext (fun i=>i=b) h h'/\h'.size=h.size):=by
 obtain⟨j,hj,hj0⟩:=bInfo;refine ah.of func141 rfl rfl ?_;refine bl func141 2 rfl ?_;refine xp rfl (af (off:=0) underlying205 rfl rfl H.zl rfl) ?_;refine xp rfl (ai H.Gk rfl (hb.cell (i:=0) rfl)) ?_;refine xp rfl (aj.qw underlying203 rfl rfl) ?_;refine xd [0,6] rfl ?_;refine aJ rfl rfl (fun _=>?_) (fun hc=>absurd hc (by decide));refine G.cz func141 rfl ?_;refine cI 2 rfl rfl (aj.Ep underlying203 underlying269 hj hj0 hb (by simp) rfl) ?_;refine xp rfl (aj.E9 func170 (by decide +kernel) (by kernel_rfl) (by kernel_rfl) (by kernel_rfl) rfl) ?_;refine xp rfl (aj.BG underlying269 underlying203 hj hb Lz rfl) ?_;refine cI 1 rfl rfl (af (off:=0) underlying205 rfl rfl H.zl rfl) ?_;refine RW.bB rfl rfl rfl (az.bA H.zl rfl rfl hb (by first|decide|exact of_decide_eq_true rfl|(simp;done)|(simp;omega)) rfl) ?_;rintro _ h1 ⟨rfl,hb1,hx1,hs1⟩;refine xd [0,6] rfl ?_;refine G.xV func141 rfl ?_;exact⟨_,rfl,hb1,hx1,hs1⟩
theorem uq (hb:bh h b 205 [.pointer (some ⟨b,0,none⟩),v]) :
 ah Tryz.prog 141 #[.pointer (some ⟨b,0,none⟩)] h (cM fun _ h'=>bh h' b 205 [.pointer (some ⟨b,0,none⟩),v]/\Ext (fun i=>i=b) h h'/\h'.size=h.size):=by
 obtain⟨j,hj,hj0⟩:=bInfo;refine ah.of func141 rfl rfl ?_;refine bl func141 2 rfl ?_;refine xp rfl (af (off:=0) underlying205 rfl rfl H.zl rfl) ?_;refine xp rfl (ai H.Gk rfl (hb.cell (i:=0) rfl)) ?_;refine xp rfl (aj.qw underlying203 rfl rfl) ?_;refine xd [0,6] rfl ?_;refine aJ rfl rfl (fun hc=>absurd hc Bool.false_ne_true) (fun _=>?_);refine bl func141 2 rfl ?_;refine xp rfl (af (off:=0) underlying205 rfl rfl H.zl rfl) ?_;refine xp rfl (ai H.Gk rfl (hb.cell (i:=0) rfl)) ?_;refine cI 1 rfl rfl (aj.Bp underlying203 hj rfl rfl) ?_;refine xd [0,6,19] rfl ?_;refine aJ rfl rfl (fun hc=>absurd hc Bool.false_ne_true) (fun _=>?_);refine aB rfl ?_;refine G.xV func141 rfl ?_;exact⟨_,rfl,hb,Ext.refl _ _,rfl⟩
theorem lM {p:Value}(hb:bh h b 205 [p,v]) (hp:p= .pointer none\/p= .pointer (some ⟨b,0,none⟩)) :
 ah Tryz.prog 141 #[.pointer (some ⟨b,0,none⟩)] h (cM fun _ h'=>bh h' b 205 [.pointer (some ⟨b,0,none⟩),v]/\Ext (fun i=>i=b) h h'/\h'.size=h.size):=by
 rcases hp with rfl|rfl
 · exact rP hb
 · exact uq hb
theorem oM (s:ByteArray) (hb:qc h b 205 5 l) (hl:l.length+s.size<=140737488355328) :
 ah Tryz.prog 99 #[.pointer (some ⟨b,0,none⟩),.string s] h (cM fun r h'=>r= .tuple #[.int .i64 s.size,.nilIface]/\qc h' b 205 5 (l++s.data.toList)/\Ext (fun i=>b<=i) h h'):=by
 obtain⟨i,hi,hi0,hi1,hi2⟩:=IY;obtain⟨p,v,hk,hp,hv⟩:=hb;have hlt:=hk.lt;refine ah.of func99 rfl rfl ?_;refine bf func99 2 [0,1,4,5] rfl ?_;refine bl func99 1 rfl ?_;refine xo rfl (aq (vs:=[_]) func141 rfl H.Il rfl (ah.bq (lM hk hp))) ?_;rintro _ h1 ⟨hk1,hx1,hs1⟩;refine xd [0,1,4,5] rfl ?_;refine bl func99 3 rfl ?_;refine xp rfl (af (off:=1) underlying205 rfl rfl H.zj rfl) ?_;have hv1:Ea h1 (b+1) 5 v l:=aT.ext hx1 hv (fun g hg=>by have:=lY hv g hg.symm;omega);refine xp rfl (ai H.HE rfl (hk1.cell (i:=1) rfl)) ?_;refine aV 1 rfl ?_;refine xo rfl (az.DZ underlying38 underlying9 hi hi0 hi1 hi2 rfl rfl hv1 hl (by omega)) ?_;rintro v2 h2 ⟨ho2,hx2⟩;refine cI 1 rfl rfl (af (off:=1) underlying205 rfl rfl H.zj rfl) ?_;have hk2:=hk1.ext hx2 (fun hm=>by have:=lY hv1 b hm;omega);obtain⟨oa2,c2,rfl,-⟩:=aT.open ho2;refine RW.bB rfl rfl rfl (az.bA H.zj rfl rfl hk2 (by first|decide|exact of_decide_eq_true rfl|(simp;done)|(simp;omega)) rfl) ?_;rintro _ h3 ⟨rfl,hk3,hx3,hs3⟩;refine xd [0,1,4,5] rfl ?_;refine bl func99 1 rfl ?_;refine xp rfl (aj.cw underlying9 rfl) ?_;refine aN 2 [0,1,4,5] rfl ?_;refine G.ret func99 rfl rfl ?_;have ho3:Ea h3 (b+1) 5 _ (l++s.data.toList):=aT.ext hx3 ho2 (fun g hg=>by have:=lY ho2 g hg.symm;omega);exact⟨_,rfl,rfl,⟨_,_,hk3,.inr rfl,ho3⟩,((hx1.mono (fun _ _ k=>by show b<=_;omega)).trans (hx2.mono (fun g _ k=>by have:=lY hv1 g k;show b<=g;omega))).trans (hx3.mono (fun _ _ k=>by show b<=_;omega))⟩
theorem qc.ax {h h':aA}{b:Nat}{l:List UInt8}(k:qc h b 205 5 l) (e:aC h h'):qc h' b 205 5 l:=by
 obtain⟨p,v,hk,hp,hv⟩:=k;exact⟨p,v,hk.ax e,hp,cR.ax hv e⟩
theorem vE (hb:qc h b 205 5 l) (hl:l.length<=140737488355328) :
 ah Tryz.prog 102 #[.pointer (some ⟨b,0,none⟩)] h (cM fun r h'=>r= .string ⟨l.toArray⟩/\Ext (fun i=>b<=i) h h'):=by
 obtain⟨p,v,hk,hp,hv⟩:=hb;obtain⟨oa,c,rfl,hw⟩:=aT.open hv;have hc1:=hk.cell (i:=1) rfl;refine ah.of func102 rfl rfl ?_;refine bf func102 1 [0,2] rfl ?_;refine av rfl ?_;refine bQ (fun i=>b+1<=i) (fun i=>Nat.blt i 12) (sz:=12) (listed:= #[false,false,false,false,false,false,false,false,false,false,false,false]) func102 H.mixed rfl rfl rfl ?_;refine cu 0 1 (by kernel_rfl) rfl ?_;refine cu 1 3 (by kernel_rfl) rfl ?_;refine bP 2 7 (by kernel_rfl) rfl (fun h' e=>af (off:=1) underlying205 rfl rfl H.zj rfl) ?_;refine bP 3 15 (by kernel_rfl) rfl (fun h' e=>ai H.HE rfl (e.cell (by show ¬b+1<=b;omega) hc1)) ?_;refine cu 5 47 (by kernel_rfl) rfl ?_;refine cu 6 111 (by kernel_rfl) rfl ?_;refine bP 7 239 (by kernel_rfl) rfl (fun h' e=>af (off:=1) underlying205 rfl rfl H.zj rfl) ?_;refine bP 8 495 (by kernel_rfl) rfl (fun h' e=>ai H.HE rfl (e.cell (by show ¬b+1<=b;omega) hc1)) ?_;refine bP 9 1007 (by kernel_rfl) rfl (fun h' e=>aj.aS underlying38 rfl) ?_;refine dZ 4 1023 (by kernel_rfl) rfl (az.C7 underlying248 rfl hv) ?_;rintro u h1 ⟨⟨q,rfl,hs⟩,he⟩;refine⟨fun _=>he.of,?_⟩;refine dZ 10 2047 (by kernel_rfl) rfl (qI underlying248 GH rfl rfl hs hl) ?_;rintro _ h2 ⟨rfl,hx2⟩;refine⟨fun _=>hx2,?_⟩;refine cu 11 4095 (by kernel_rfl) rfl ?_;refine bu (by kernel_rfl) ?_;refine xu [0,2] rfl ?_;refine G.ret func102 rfl rfl ?_;exact⟨_,rfl,rfl,(aC.of he).trans (hx2.mono (fun g _ k=>by have:b+1<=g:=k;show b<=g;omega))⟩
def qG (h:aA):Prop:=yU Tryz.prog h "internal/strconv.uint64pow10" =some (Lib.pow10Tab.map fun z=>Value.int .u64 z).toArray
theorem qG.ax {h':aA}(k:qG h) (e:aC h h'):qG h':=A4 e k
theorem BF (hg:qG h) (n:Int) (hn : -9223372036854775808<=n/\n<=9223372036854775807) :
 ah Tryz.prog 100 #[.int .i64 n] h (cM fun r h'=>r= .string (bs (Lib.itoa n))/\aC h h'):=by
 refine ah.oZ fun w hw=>?_
 subst hw;refine(Tryz.strconv_Itoa n hn.1 hn.2 w hg).mono ?_;rintro e w' ⟨rfl,k,os,rfl⟩;refine⟨_,rfl,⟨rfl,?_⟩,rfl,rfl,rfl⟩;refine⟨by simp[Go.Sort.grow],fun b hb _=>?_⟩;simp[Go.Sort.grow,Array.getElem?_append_left hb]
theorem rL (c:UInt8) (hb:qc h b 205 5 l) (hl:l.length<=900000000) :
 ah Tryz.prog 101 #[.pointer (some ⟨b,0,none⟩),.int .u8 (c.toNat:Nat)] h (cM fun _ h'=>qc h' b 205 5 (l++[c])/\Ext (fun g=>b<=g) h h'):=by
 obtain⟨p,v,hk,hp,hv⟩:=hb;have hlt:=hk.lt;refine ah.of func101 rfl rfl ?_;refine bf func101 1 [0,1,4] rfl ?_;refine bl func101 1 rfl ?_;refine xo rfl (aq (vs:=[_]) func141 rfl H.Il rfl (ah.bq (lM hk hp))) ?_;rintro _ h1 ⟨hk1,hx1,hs1⟩;refine xd [0,1,4] rfl ?_;refine bl func101 3 rfl ?_;refine xp rfl (af (off:=1) underlying205 rfl rfl H.zj rfl) ?_;have hv1:Ea h1 (b+1) 5 v l:=aT.ext hx1 hv (fun g hg=>by have:=lY hv g hg.symm;omega);refine xp rfl (ai H.HE rfl (hk1.cell (i:=1) rfl)) ?_;refine aV 1 rfl ?_;refine xo rfl (az.bg (us:=[_]) underlying38 H.M5 rfl rfl (by decide) (by simp[Value.oneCell'])) ?_;rintro _ _ ⟨rfl,rfl⟩;refine xo rfl (az.bU underlying38 H.M5 rfl rfl (hv1) rfl rfl (by first|decide|simp[Value.oneCell']) (by omega) (by decide) (by omega)) ?_;rintro v2 h2 ⟨ho2,hx2,hx2',hv2⟩;have hk2:=hk1.ext hx2 (fun hm=>by have:=lY hv1 b hm;omega);have ho2':Ea h2 (b+1) 5 v2 (l++[c]):=cR.of (ys:=[c]) ho2 rfl rfl rfl;obtain⟨oa2,c2,rfl,-⟩:=ho2.open;refine cI 1 rfl rfl (af (off:=1) underlying205 rfl rfl H.zj rfl) ?_;refine RW.bB rfl rfl rfl (az.bA H.zj rfl rfl hk2 (by first|decide|exact of_decide_eq_true rfl|(simp;done)|(simp;omega)) rfl) ?_;rintro _ h3 ⟨rfl,hk3,hx3,hs3⟩;refine xd [0,1,4] rfl ?_;refine bf func101 1 [0,1,4] rfl ?_;refine G.ret func101 rfl rfl ?_;exact⟨_,rfl,⟨_,_,hk3,.inr rfl,aT.ext hx3 ho2' (fun g hg=>by have:=lY ho2' g hg.symm;omega)⟩,((hx1.mono (fun _ _ k=>by show b<=_;omega)).trans (hx2.mono (fun g _ k=>by have:=lY hv1 g k;show b<=g;omega))).trans (hx3.mono (fun _ _ k=>by show b<=_;omega))⟩
theorem qq {O:Nat->Prop}(hg:qG h){l:List Int}(hv:bX (.int .i64) h O v l) (hl:l.length<=1000000) (hb:∀n∈l,-9223372036854775808<=n/\n<=9223372036854775807) :
 ah Tryz.prog 52 #[v] h (cM fun r h'=>r= .string (bs (gu l))/\aC h h'):=by
 obtain⟨oa,n,c,rfl,hsl⟩:=hv.open;have hn:=hsl.len;refine ah.of func52 rfl rfl ?_;refine bf func52 1 [0,2] rfl ?_;refine xr func52 rfl ?_;refine xo rfl (az.aQ H.JT) ?_;rintro _ h0 ⟨rfl,hk0,he0,hs0⟩;refine xd [0,2,3] rfl ?_;refine av rfl ?_;refine bl func52 1 rfl ?_;refine xp rfl (aj.aS underlying127 rfl) ?_;refine aN 1 [0,2,3,6,7,8] rfl ?_;refine G.block rfl rfl ?_;have hb0:qc h0 h.size 205 5 []:=B5 hk0;refine bO (σ:=Nat) (fun i=>[(3,.pointer (some ⟨h.size,0,none⟩)),(6,.slice oa n c),(7,.int .i64 (n:Nat)),(8,.int .i64 (i:Nat))]) (fun i h'=>i<=n/\aC h h'/\qc h' h.size 205 5 (gu (l.take i))/\h0.size<=h'.size) (fun i=>n-i) (0) rfl ⟨rfl,rfl,rfl,rfl,trivial⟩ ⟨Nat.zero_le _,he0,hb0,Nat.le_refl _⟩ ?_;rintro i g ⟨hi,eg,hbg,hgz⟩ ih;have hlen:=xL (l.take i) (fun x hx=>hb x (List.mem_of_mem_take hx));rw[List.length_take] at hlen;refine bf func52 1 [3,6,7,8,9] rfl ?_;refine av rfl ?_;refine aM rfl rfl (fun hlt=>?_) (fun hlt=>?_)
 · obtain⟨b1,o1,x,hoa,_,hx,hcx⟩:=(hsl.mv (Mv.ax eg)).at (show i<n by omega);have hbx:=hb x (List.mem_of_getElem? hx);have hil:=Lib.itoa_length_le x hbx.1 hbx.2;have hbsz:=bY (Lib.itoa x);have hbl:(bs (Lib.itoa x)).data.toList=Lib.itoa x:=by simp[bs]
   have hnx:gu (l.take (i+1))=gu (l.take i)++(bs (Lib.itoa x)).data.toList++[32]:=by rw[List.take_add_one,hx,Option.toList_some,Fz,hbl]
   refine aB rfl ?_;refine av rfl ?_;refine G.block rfl rfl ?_;refine xr func52 rfl ?_;refine xp rfl (aj.aH underlying127 H.bV rfl rfl i rfl hoa (by omega)) ?_;refine xp rfl (ai H.cK rfl hcx) ?_;refine aN 1 [3,5,6,7,8,9] rfl ?_;refine bl func52 1 rfl ?_;refine xo rfl (aq (vs:=[_]) func100 rfl H.K4 rfl (ah.bq (BF (hg.ax eg) x hbx))) ?_;rintro _ g1 ⟨rfl,e1⟩;refine xo rfl (aq (vs:=[_,_]) func99 rfl H.Mw rfl (ah.bq (oM (bs (Lib.itoa x)) (qc.ax hbg e1) (by omega)))) ?_;rintro _ g2 ⟨rfl,hb2,hx2⟩;refine xd [3,5,6,7,8,9] rfl ?_;refine G.cz func52 rfl ?_;refine xo rfl (aq (vs:=[_,_]) func101 rfl H.K3 rfl (ah.bq (rL 32 hb2 (by rw[List.length_append,hbl];omega)))) ?_;rintro _ g3 ⟨hb3,hx3⟩;refine xd [3,5,6,7,8,9] rfl ?_;refine G.aR ?_;refine G.cz func52 rfl ?_;refine xp rfl (aj.bJ rfl rfl ⟨by omega,by omega⟩) ?_;refine aN 1 [3,5,6,7,8,9] rfl ?_;have z1:=e1.size;have z2:=hx2.size;have z3:=hx3.size;rw[<-hnx] at hb3
   have e3:aC h g3:=⟨by have:=eg.size;omega,fun b hb k=>by
    rw[hx3.block b (by have:=eg.size;omega) (by show ¬_<=_;omega),hx2.block b (by have:=eg.size;omega) (by show ¬_<=_;omega),e1.block b (by have:=eg.size;omega) (fun k=>k)];exact eg.block b hb k⟩
   exact ih (i+1) _ _ ⟨rfl,rfl,rfl,rfl,trivial⟩ ⟨by omega,e3,hb3,by omega⟩ (by omega)
 · have hie:l.take i=l:=List.take_of_length_le (by omega);rw[hie] at hbg;have hkl:=xL l hb;refine bD rfl rfl ?_;refine xr func52 rfl ?_;refine xo rfl (aq (vs:=[_]) func102 rfl H.K2 rfl (ah.bq (vE hbg (by omega)))) ?_;rintro _ g1 ⟨rfl,hx1⟩;refine aN 1 [2,3,6,7,8,9] rfl ?_;refine G.ret func52 rfl rfl ?_;exact⟨_,rfl,rfl,⟨by have:=hx1.size;have:=eg.size;omega,fun b hb k=>by rw[hx1.block b (by have:=eg.size;omega) (by show ¬_<=_;omega)];exact eg.block b hb k⟩⟩
end
end Go.Proofs.YtmehdcdbeafljaaGreatDoor
namespace Go.Proofs.YtmehdcdbeafljaaGreatDoor
open Go
structure Row where
 v:List Int
 len:v.length=256
structure cn where
 next:List Row
 rule:List Int
def cn.to (d:cn) (s:Nat) (c:UInt8):Int:=match d.next[s]? with|some r=>r.v.getD c.toNat (-1)|none=> -1
def cn.ru (d:cn) (s:Nat):Int:=d.rule.getD s (-1)
structure cn.Ok (d:cn):Prop where
 len:d.rule.length=d.next.length
 size:d.next.length<=2000
 to:∀r∈d.next,∀x∈r.v,-1<=x/\x<d.next.length
 ru:∀x∈d.rule,-1<=x/\x<=1000000
theorem Row.at {r:Row}(c:UInt8):∃x,r.v[c.toNat]? =some x/\r.v.getD c.toNat (-1)=x/\x∈r.v:=by
 have h:=r.len;have hc:=c.toNat_lt;have hx:r.v[c.toNat]? =some (r.v[c.toNat]'(by omega)):=List.getElem?_eq_getElem (by omega);exact⟨_,hx,by rw[List.getD_eq_getElem?_getD,hx];rfl,List.getElem_mem _⟩
theorem cn.oQ {d:cn}(k:d.Ok){s:Nat}(c:UInt8) : -1<=d.to s c/\d.to s c<d.next.length:=by
 unfold cn.to;cases h:d.next[s]? with
 |none=>simp only;omega
 |some r =>
  obtain⟨x,hx,he,hm⟩:=r.at c;simp only;rw[he];exact k.to r (List.mem_of_getElem? h) x hm
def bz (d:cn):By->Nat->Nat->Int×Int->Int×Int×Int
 | [],st,k,b=>if 0<=d.ru st then (k,d.ru st,k) else (b.1,b.2,k)
 |c::l,st,k,b =>
  if 0<=d.to st c then bz d l (d.to st c).toNat (k+1) (if 0<=d.ru st then (k,d.ru st) else b)
  else if 0<=d.ru st then (k,d.ru st,k) else (b.1,b.2,k)
def dD (d:cn) (s:By) (a:Int):Int×Int×Int:=if d.next.length=0\/a<0\/(s.length:Int)<a then (0,-1,0) else bz d (s.drop a.toNat) 0 0 (0,-1)
end Go.Proofs.YtmehdcdbeafljaaGreatDoor
namespace Go.Proofs.YtmehdcdbeafljaaGreatDoor
open Go.Proofs.Tryz
open Go Go.Lw
set_option maxRecDepth 20000
section
variable {h:aA}
def cq (r:Row):List Value:=r.v.map (.int .i64)
@[simp] theorem kY (r:Row):(cq r).length=256:=by simp[cq,r.len]
def CC:gM Row:=.record 256 (by decide) cq kY (fun r v hv=>by simp[cq] at hv;obtain⟨_,_,rfl⟩:=hv;rfl)
def nR (h:aA) (db:Nat) (d:cn):Prop :=
 ∃vn vr,bh h db 149 [vn,vr]/\bX CC h (fun _=>False) vn d.next/\bX (.int .i64) h (fun _=>False) vr d.rule
theorem nR.ax {h h':aA}{db:Nat}{d:cn}(k:nR h db d) (e:aC h h'):nR h' db d:=by
 obtain⟨vn,vr,h1,h2,h3⟩:=k;exact⟨vn,vr,h1.ax e,h2.mv (Mv.ax e),h3.mv (Mv.ax e)⟩
def IS (h:aA) (p:Value) (d:cn):Prop:=(p= .pointer none/\d=⟨[],[]⟩)\/∃db,p= .pointer (some ⟨db,0,none⟩)/\nR h db d
theorem DQ:ah Tryz.prog 55 #[.pointer none] h (cM fun r h'=>r= .bool true/\h'=h):=by
 refine ah.of func55 rfl rfl ?_;refine bf func55 1 [0,2] rfl ?_;refine av rfl ?_;refine G.bw [(2,.bool true)] [(0,_)] ⟨rfl,trivial⟩ func55 rfl ?_ ?_
 · refine cI 1 rfl rfl (aj.qw underlying89 rfl rfl) ?_;refine aV 1 rfl ?_;refine RW.cS (d:=5) (b':=true) rfl (rfl) ?_;refine aV 8 rfl ?_;refine aD rfl ?_;exact⟨rfl,aF rfl (rfl),rfl,trivial⟩
 · refine G.ret func55 rfl rfl ?_;exact⟨_,rfl,rfl,rfl⟩
theorem Ax {db:Nat}{d:cn}(k:nR h db d):ah Tryz.prog 55 #[.pointer (some ⟨db,0,none⟩)] h (cM fun r h'=>r= .bool (decide (d.next.length=0))/\h'=h):=by
 obtain⟨vn,vr,hk,⟨na,nn,nc,rfl,hnl,_⟩,h2⟩:=k;refine ah.of func55 rfl rfl ?_;refine bf func55 1 [0,2] rfl ?_;refine av rfl ?_;refine G.bw [(2,.bool (decide (d.next.length=0)))] [(0,_)] ⟨rfl,trivial⟩ func55 rfl ?_ ?_
 · refine cI 1 rfl rfl (aj.qw underlying89 rfl rfl) ?_;refine aV 1 rfl ?_;refine RW.cS (d:=5) (b':=false) rfl (rfl) ?_;refine cI 2 rfl rfl (af (off:=0) underlying149 rfl rfl H.jZ rfl) ?_;refine xp rfl (ai H.pW rfl (hk.cell (i:=0) rfl)) ?_;refine xp rfl (aj.aS underlying147 rfl) ?_;refine aV 3 rfl ?_;refine aD rfl ?_;exact⟨rfl,aF rfl (by simp only[decide_eq_decide];omega),rfl,trivial⟩
 · refine G.ret func55 rfl rfl ?_;exact⟨_,rfl,rfl,rfl⟩
theorem Aw {p:Value}{d:cn}(k:IS h p d):ah Tryz.prog 55 #[p] h (cM fun r h'=>r= .bool (decide (d.next.length=0))/\h'=h):=by
 rcases k with ⟨rfl,rfl⟩|⟨db,rfl,k⟩
 · exact DQ
 · exact Ax k
theorem yd {p:Value}{d:cn}{s:By}{a:Int}(k:IS h p d) (hok:d.Ok) (hs:s.length<=1000000) :
 ah Tryz.prog 110 #[p,.string (bs s),.int .i64 a] h (cM fun r h'=>r= .tuple #[.int .i64 (dD d s a).1,.int .i64 (dD d s a).2.1,.int .i64 (dD d s a).2.2]/\h'=h):=by
 have hbs:=bY s;refine ah.of func110 rfl rfl ?_;refine bf func110 3 [0,1,2,6,7,8] rfl ?_;refine bf func110 1 [0,1,2,6,7,8] rfl ?_;refine av rfl ?_;refine av rfl ?_;refine G.bw [(22,.bool (decide (d.next.length=0\/a<0\/(s.length:Int)<a)))] [(0,_),(1,_),(2,_),(6,_),(7,_),(8,_)] ⟨rfl,rfl,rfl,rfl,rfl,rfl,trivial⟩ func110 rfl ?_ ?_
 · refine aV 1 rfl ?_;refine xo rfl (aq (vs:=[_]) func55 rfl H.Ku rfl (ah.bq (Aw k))) ?_;rintro _ h0 ⟨rfl,hh0⟩;subst hh0;refine aV 1 rfl ?_;refine aL (d:=13) rfl (fun hg=>?_) (fun hg=>?_)
   · have hg':=of_decide_eq_true hg;refine aV 9 rfl ?_;refine aD rfl ?_;exact⟨rfl,aF rfl (by simp[hg']),rfl,rfl,rfl,rfl,rfl,rfl,trivial⟩
   · have hg':=of_decide_eq_false hg;refine aV 4 rfl ?_;refine aL (d:=17) rfl (fun hg2=>?_) (fun hg2=>?_)
     · have hg2':=of_decide_eq_true hg2;refine aV 5 rfl ?_;refine aD rfl ?_;exact⟨rfl,aF rfl (by simp[hg2']),rfl,rfl,rfl,rfl,rfl,rfl,trivial⟩
     · have hg2':=of_decide_eq_false hg2;refine cI 2 rfl rfl (aj.cw underlying9 rfl) ?_;refine aV 2 rfl ?_;refine aD rfl ?_;exact⟨rfl,aF rfl (by simp only[decide_eq_decide];omega),rfl,rfl,rfl,rfl,rfl,rfl,trivial⟩
 · refine aM rfl rfl (fun hz=>?_) (fun hz=>?_)
   · refine bf func110 4 [0,1,2,6,7,8,22] rfl ?_;refine G.ret func110 rfl rfl ?_;rw[dD,if_pos hz];exact⟨_,rfl,rfl,rfl⟩
   · obtain⟨k0,rfl⟩:=Int.eq_ofNat_of_zero_le (show 0<=a by omega);have hk0:k0<=s.length:=by omega
     have hma:dD d s (k0:Nat)=bz d (s.drop k0) 0 0 (0,-1):=by rw[dD,if_neg hz];rfl
     rw[hma];generalize htgt:bz d (s.drop k0) 0 0 (0,-1)=tgt
     rcases k with ⟨_,rfl⟩|⟨db,rfl,vn,vr,hk,⟨na,nn,nc,rfl,hnl,_,_,hgetn⟩,⟨ra,rn,rc,rfl,hrl,_,_,hgetr⟩⟩
     exact absurd (.inl rfl) hz;have hlen:=hok.len;have hsize:=hok.size;refine aB rfl ?_;refine av rfl ?_;refine bf func110 1 [0,1,2,6,7,8,9,22] rfl ?_;refine G.block rfl rfl ?_;refine bO (σ:=Int×Nat×Int×Int) (fun q=>[(0,.pointer (some ⟨db,0,none⟩)),(1,.string (bs s)),(2,.int .i64 (k0:Nat)),(6,.int .i64 q.2.2.1),(7,.int .i64 q.2.2.2),(8,.int .i64 (q.2.1:Nat)),(9,.int .i64 q.1)]) (fun q h'=>h'=h/\k0+q.2.1<=s.length/\(0<=q.1->q.1<d.next.length/\bz d (s.drop (k0+q.2.1)) q.1.toNat q.2.1 q.2.2=tgt)/\(q.1<0->(q.2.2.1,q.2.2.2,(q.2.1:Int))=tgt)) (fun q=>2*(s.length-(k0+q.2.1))+(if 0<=q.1 then 1 else 0)) ((0,0,0,-1)) rfl ⟨rfl,rfl,rfl,rfl,rfl,rfl,rfl,trivial⟩ ⟨rfl,by simpa using hk0,fun _=>⟨by show (0:Int)<_;omega,by simpa using htgt⟩,fun k=>absurd k (by decide)⟩ ?_;rintro⟨st,i,b1,b2⟩ g ⟨rfl,hki,hpos,hneg⟩ ih
     try dsimp only
     dsimp only at hki hpos hneg;refine av rfl ?_;refine bf func110 2 [0,1,2,6,7,8,9,25] rfl ?_;refine aM rfl rfl (fun hst=>?_) (fun hst=>?_)
     · obtain⟨hlt,hcon⟩:=hpos hst;obtain⟨j,rfl⟩:=Int.eq_ofNat_of_zero_le hst;have hcon:bz d (s.drop (k0+i)) j i (b1,b2)=tgt:=hcon;obtain⟨x,hx⟩:∃x,d.rule[j]? =some x:=⟨_,List.getElem?_eq_getElem (by omega)⟩
       have hru:d.ru j=x:=by unfold cn.ru;rw[List.getD_eq_getElem?_getD,hx];rfl
       obtain⟨b,o,cs,ha,_,hrow,rfl⟩:=hgetr j x hx;refine aB rfl ?_;refine G.block rfl rfl ?_;refine av rfl ?_;refine bl func110 2 rfl ?_;refine xp rfl (af (off:=1) underlying149 rfl rfl H.gK rfl) ?_;refine xp rfl (ai H.nQ rfl (hk.cell (i:=1) rfl)) ?_;refine cI 1 rfl rfl (aj.aH underlying127 H.bV rfl rfl j rfl ha (by omega)) ?_;refine xp rfl (ai H.cK rfl (hrow 0 _ rfl)) ?_;refine aN 1 [0,1,2,6,7,8,9,10,25] rfl ?_;refine bf func110 2 [0,1,2,6,7,8,9,10,25,34] rfl ?_
       have fin:∀(c1 c2:Int) (h':aA) (ρ':Env),Sub [(0,.pointer (some ⟨db,0,none⟩)),(1,.string (bs s)),(2,.int .i64 (k0:Nat)),(6,.int .i64 c1),(7,.int .i64 c2),(8,.int .i64 (i:Nat)),(9,.int .i64 (j:Nat))] ρ'->h'=g->(c1,c2)=(if 0<=d.ru j then ((i:Int),d.ru j) else (b1,b2))->G Tryz.prog 110 f110 [.code [1,0,1,0,0,1,0,1,1,1],.blk 1,.loop [0,0,1,0,1,1,1],.blk 0,.code [1,1,1,1]] ρ' h' (cM fun r h'=>r= .tuple #[.int .i64 tgt.1,.int .i64 tgt.2.1,.int .i64 tgt.2.2]/\h'=g):=by
        rintro c1 c2 g1 ρ' hsub rfl hc;refine G.sub (ρ':=[(0,.pointer (some ⟨db,0,none⟩)),(1,.string (bs s)),(2,.int .i64 (k0:Nat)),(6,.int .i64 c1),(7,.int .i64 c2),(8,.int .i64 (i:Nat)),(9,.int .i64 (j:Nat))]) hsub ?_;refine av rfl ?_;refine bl func110 2 rfl ?_;refine xp rfl (aj.bJ rfl rfl ⟨by omega,by omega⟩) ?_;refine cI 1 rfl rfl (aj.cw underlying9 rfl) ?_;refine aN 1 [0,1,2,6,7,8,9,42] rfl ?_;refine aM rfl rfl (fun hend=>?_) (fun hend=>?_)
        · have hd:s.drop (k0+i)=[]:=List.drop_of_length_le (by omega);rw[hd,bz] at hcon
          have hcon:(c1,c2,(i:Int))=tgt:=by
           rw[<-hcon]
           by_cases h0:0<=d.ru j
           · rw[if_pos h0] at hc ⊢;cases hc;rfl
           · rw[if_neg h0] at hc ⊢;cases hc;rfl
          refine bD rfl rfl ?_;refine bf func110 6 [0,1,2,6,7,8,9,42] rfl ?_;refine G.ret func110 rfl rfl ?_;exact⟨_,rfl,by rw[<-hcon];rfl,rfl⟩
        · have hki2:k0+i<s.length:=by omega
          have hd:s.drop (k0+i)=s[k0+i]::s.drop (k0+i+1):=List.drop_eq_getElem_cons hki2;rw[hd,bz,<-hc] at hcon;obtain⟨r,hr⟩:∃r,d.next[j]? =some r:=⟨_,List.getElem?_eq_getElem (by omega)⟩
          obtain⟨b3,o3,cs3,ha3,_,hrow3,rfl⟩:=hgetn j r hr;obtain⟨y,hy,he,_⟩:=r.at s[k0+i];have hc8:=s[k0+i].toNat_lt;have hto:d.to j s[k0+i]=y:=by unfold cn.to;rw[hr];exact he
          have hb:=cn.oQ hok (s:=j) s[k0+i];rw[hto] at hcon hb;have hcell:cellAt g1 ⟨b3,o3+j*256+s[k0+i].toNat*1,none⟩=some (.int .i64 y):=by rw[Nat.mul_one];exact hrow3 _ _ (by simp[cq,hy])
          refine aB rfl ?_;refine av rfl ?_;refine G.gF func110 H.mixed rfl (by kernel_rfl) ?_;refine RQ.ay rfl rfl rfl rfl (aP rfl) ?_;refine RQ.ay rfl rfl rfl rfl (aO rfl) ?_;refine RQ.ay rfl rfl rfl rfl (af (off:=0) underlying149 rfl rfl H.jZ rfl) ?_;refine RQ.ay rfl rfl rfl rfl (ai H.pW rfl (hk.cell (i:=0) rfl)) ?_;refine RQ.ay rfl rfl rfl rfl (aP rfl) ?_;refine RQ.ay rfl rfl rfl rfl (aP rfl) ?_;refine RQ.ay rfl rfl rfl rfl (aP rfl) ?_;refine RQ.ay rfl rfl rfl rfl (aP rfl) ?_;refine RQ.ay rfl rfl rfl rfl (aj.bJ rfl rfl ⟨by omega,by omega⟩) ?_;refine RQ.ay rfl rfl rfl rfl (aj.dy underlying9 rfl rfl (k0+i) (by omega) (iD (List.getElem?_eq_getElem hki2))) ?_;refine RQ.ay rfl rfl rfl rfl (aj.aH underlying147 H.jY rfl rfl j rfl ha3 (by omega)) ?_;refine RQ.ay rfl rfl rfl rfl (aj.cQ underlying153 H.bV rfl rfl s[k0+i].toNat rfl (by omega)) ?_;refine RQ.ay rfl rfl rfl rfl (ai H.cK rfl hcell) ?_;refine RQ.ay rfl rfl rfl rfl (aj.assign rfl) ?_;refine dw rfl ?_;refine xu [0,1,2,6,7,8,9,42] rfl ?_;refine bf func110 2 [0,1,2,6,7,8,9,42,57] rfl ?_;refine aM rfl rfl (fun hy0=>?_) (fun hy0=>?_)
          · rw[if_pos hy0] at hcon;obtain⟨j2,rfl⟩:=Int.eq_ofNat_of_zero_le hy0;refine G.cz func110 rfl ?_;refine cI 1 rfl rfl (aj.bJ rfl rfl ⟨by omega,by omega⟩) ?_;refine aN 1 [0,1,2,6,7,8,9,42,57] rfl ?_;refine G.aR ?_;exact ih ((j2:Int),i+1,c1,c2) _ _ ⟨rfl,rfl,rfl,rfl,rfl,rfl,rfl,trivial⟩ ⟨rfl,by show k0+(i+1)<=s.length;omega,fun _=>⟨hb.2,by show bz d (s.drop (k0+(i+1))) _ _ _=tgt;rw[show k0+(i+1)=k0+i+1 by omega];exact hcon⟩,fun k=>absurd k (by show ¬(j2:Int)<0;omega)⟩ (by show 2*(s.length-(k0+(i+1)))+(if (0:Int)<=(j2:Nat) then 1 else 0)<2*(s.length-(k0+i))+(if (0:Int)<=(j:Nat) then 1 else 0);rw[if_pos (by omega),if_pos (by omega)];omega)
          · rw[if_neg hy0] at hcon;refine aB rfl ?_;refine G.aR ?_;exact ih (y,i,c1,c2) _ _ ⟨rfl,rfl,rfl,rfl,rfl,rfl,rfl,trivial⟩ ⟨rfl,hki,fun k=>absurd k hy0,fun _=>by show (c1,c2,(i:Int))=tgt;rw[<-hcon];by_cases h0:0<=d.ru j;(rw[if_pos h0] at hc ⊢;cases hc;rfl);(rw[if_neg h0] at hc ⊢;cases hc;rfl)⟩ (by show 2*(s.length-(k0+i))+(if (0:Int)<=y then 1 else 0)<2*(s.length-(k0+i))+(if (0:Int)<=(j:Nat) then 1 else 0);rw[if_neg hy0,if_pos (by omega)];omega)
       refine aM rfl rfl (fun hr=>?_) (fun hr=>?_)
       · refine G.cz func110 rfl ?_;refine aN 4 [0,1,2,6,7,8,9,10,25,34] rfl ?_;exact fin _ _ _ _ ⟨rfl,rfl,rfl,rfl,rfl,rfl,rfl,trivial⟩ rfl (by rw[hru,if_pos hr])
       · refine aB rfl ?_;exact fin _ _ _ _ ⟨rfl,rfl,rfl,rfl,rfl,rfl,rfl,trivial⟩ rfl (by rw[hru,if_neg hr])
     · have hcon:=hneg (by omega);refine bD rfl rfl ?_;refine bf func110 6 [0,1,2,6,7,8,9,25] rfl ?_;refine G.ret func110 rfl rfl ?_;exact⟨_,rfl,by rw[<-hcon];rfl,rfl⟩
end
end Go.Proofs.YtmehdcdbeafljaaGreatDoor
namespace Go.Proofs.YtmehdcdbeafljaaGreatDoor
open Go
def xM (l:List Nat):By:=gu (l.map Int.ofNat)
theorem FA {l m:List Nat}(h:xM l=xM m):l=m:=by
 have:=key_inj h
 have hi:∀a b:List Nat,a.map Int.ofNat=b.map Int.ofNat->a=b:=by
  intro a
  induction a with
  |nil=>intro b h;cases b with
   |nil=>rfl
   |cons y b=>simp at h
  |cons x a ih=>intro b h;cases b with
   |nil=>simp at h
   |cons y b =>
    simp only[List.map_cons,List.cons.injEq] at h;rw[ih b h.2];have:=h.1;simp only[Int.ofNat_eq_natCast] at this;rw[show x=y by omega]
 exact hi _ _ this
def nL:Nat->List (List Nat)->List Nat->Option Nat
 |_,[],_=>none
 |i,x::r,l=>if l=x then some i else nL (i+1) r l
theorem ox:∀(ls:List (List Nat)) (i j:Nat) (l:List Nat),nL i ls l=some j->i<=j/\ls[j-i]? =some l
 | [],i,j,l,h=>by cases h
 |x::r,i,j,l,h=>by
  rw[nL] at h;split at h
  · rename_i e;cases h;subst e;exact⟨Nat.le_refl _,by simp⟩
  · have:=ox r (i+1) j l h;refine⟨by omega,?_⟩;rw[show j-i=(j-(i+1))+1 by omega,List.getElem?_cons_succ];exact this.2
theorem tY:∀(ls:List (List Nat)) (i:Nat) (l:List Nat),nL i ls l=none->l∉ls
 | [],i,l,_=>List.not_mem_nil
 |x::r,i,l,h=>by
  rw[nL] at h;split at h
  · cases h
  · rename_i e;have:=tY r (i+1) l h;simp only[List.mem_cons,not_or];exact⟨e,this⟩
def dN (ss:List bT) (cur:List Nat) (lists:List (List Nat)) (b:Nat):List (List Nat)×Int :=
 if (cT ss (UInt8.ofNat b) cur).length=0 then (lists,-1)
 else match nL 0 lists (cT ss (UInt8.ofNat b) cur) with
  |some i=>(lists,(i:Int))
  |none=>(lists++[cT ss (UInt8.ofNat b) cur],(lists.length:Int))
def kQ (ss:List bT) (cur:List Nat):Nat->Nat->List (List Nat)->List Int->List (List Nat)×List Int
 | 0,_,lists,row=>(lists,row)
 |n+1,b,lists,row=>kQ ss cur n (b+1) (dN ss cur lists b).1 (row++[(dN ss cur lists b).2])
def jB (l:List Int):Row:=⟨(l++List.replicate 256 (-1)).take 256,by rw[List.length_take,List.length_append,List.length_replicate];omega⟩
theorem sd {l:List Int}(h:l.length=256):(jB l).v=l:=by
 unfold jB;simp only;rw[List.take_append_of_le_length (by omega),List.take_of_length_le (by omega)]
def jP (ss:List bT):Nat->Nat->List (List Nat)->List Row->List Int->Option cn
 | 0,_,_,_,_=>none
 |n+1,k,lists,next,rule =>
  match lists[k]? with
  |none=>some ⟨next,rule⟩
  |some cur =>
   if 2000<(kQ ss cur 256 0 lists []).1.length then none
   else jP ss n (k+1) (kQ ss cur 256 0 lists []).1 (next++[jB (kQ ss cur 256 0 lists []).2]) (rule++[bG ss cur])
def gj (ss:List bT) (st:Nat):Int ⊕ cn :=
 if (cL ss st).length=0 then .inl 1
 else match jP ss 2002 0 [cL ss st] [] [] with
  |none=>.inl 70
  |some d=>.inr d
end Go.Proofs.YtmehdcdbeafljaaGreatDoor
namespace Go.Proofs.YtmehdcdbeafljaaGreatDoor
open Go.Proofs.Tryz
open Go Go.Lw
set_option maxRecDepth 20000
def LI (h:aA) (O:Nat->Prop) (cs:List Value) (x:List Nat):Prop:=∃v,cs=[v]/\bX iw h O v x
def BJ:gM (List Nat):=⟨1,by decide,LI,fun h=>by obtain⟨v,rfl,_⟩:=h;rfl,fun h=>by
 obtain⟨v,rfl,hv⟩:=h;intro u hu;simp at hu;subst hu;exact bX.IC hv,fun h m=>by
 obtain⟨v,hc,hv⟩:=h;exact⟨v,hc,hv.mv m⟩⟩
def lS:Nat->List (List Nat)->List (ByteArray×Int)
 |_,[]=>[]
 |i,x::r=>(bs (xM x),(i:Int))::lS (i+1) r
theorem vO:∀(ls:List (List Nat)) (i:Nat) (l:List Nat),lS i (ls++[l])=lS i ls++[(bs (xM l),((i+ls.length:Nat):Int))]
 | [],i,l=>by simp[lS]
 |x::r,i,l=>by
  simp only[List.cons_append,lS];rw[vO r (i+1) l,List.length_cons,show i+1+r.length=i+(r.length+1) by omega]
theorem uG:∀(ls:List (List Nat)) (i:Nat) (l:List Nat),kJ (bs (xM l)) (lS i ls)=(nL i ls l).map fun j=>(j:Int)
 | [],i,l=>rfl
 |x::r,i,l=>by
  rw[lS,kJ,nL]
  by_cases h:l=x
  · subst h;rw[if_pos rfl,if_pos rfl];rfl
  · have hk:¬bs (xM l)=bs (xM x):=fun e=>h (FA (bZ e))
    rw[if_neg hk,if_neg h];exact uG r (i+1) l
theorem AN {h:aA}{O:Nat->Prop}{v:Value}{l:List Nat}(k:bX iw h O v l):bX (.int .i64) h O v (l.map Int.ofNat):=by
 obtain⟨oa,n,c,rfl,hl,hnc,hc,hg⟩:=k;refine⟨oa,n,c,rfl,by simpa using hl,hnc,hc,fun i x hx=>?_⟩;rw[List.getElem?_map] at hx;cases hs:l[i]? with
 |none=>rw[hs] at hx;cases hx
 |some s =>
  rw[hs] at hx;simp only[Option.map_some,Option.some.injEq] at hx;subst hx;obtain⟨b,o,cs,h1,h2,h3,h4⟩:=hg i s hs;exact⟨b,o,cs,h1,h2,h3,h4⟩
structure iz (h0 h:aA) (C:Nat->Prop) (db mb:Nat) (vl vn vr:Value) (lists:List (List Nat)) (next:List Row) (rule:List Int):Prop where
 ext:aC h0 h
 dblk:bh h db 149 [vn,vr]
 nx:kK 256 cq h h0.size 153 vn next
 ru:cR (Value.int .i64) h h0.size 3 vr rule
 mp:fJ Value.string (Value.int .i64) h mb (lS 0 lists)
 ls:dx BJ (fun b=>¬C b) h h0.size 127 vl lists
 cty:∀b,C b->dF h b 3
 cr:∀b,vr.ownBlock=some b->¬C b
 dge:h0.size<=db
 mge:h0.size<=mb
section
variable {h0 h:aA}{C:Nat->Prop}{db mb:Nat}{vl vn vr:Value}{lists:List (List Nat)}{next:List Row}{rule:List Int}
theorem iz.Fm (k:iz h0 h C db mb vl vn vr lists next rule):∀b,vl.ownBlock=some b->dF h b 127:=fun b hb=>by
 obtain⟨css,_,h2,_⟩:=k.ls;exact h2.ty hb
theorem iz.Dl (k:iz h0 h C db mb vl vn vr lists next rule):∀b,vn.ownBlock=some b->dF h b 153:=fun _ hb=>aT.ty k.nx hb
theorem iz.Ch (k:iz h0 h C db mb vl vn vr lists next rule):∀b,vr.ownBlock=some b->dF h b 3:=fun _ hb=>aT.ty k.ru hb
theorem iz.NG (k:iz h0 h C db mb vl vn vr lists next rule):∀b,vl.ownBlock=some b->h0.size<=b:=fun b hb=>by
 obtain⟨css,_,h2,_⟩:=k.ls;exact(h2.lt hb).1
theorem iz.ax {h':aA}(k:iz h0 h C db mb vl vn vr lists next rule) (e:aC h h'):iz h0 h' C db mb vl vn vr lists next rule :=
 ⟨k.ext.trans e,k.dblk.ax e,kK.ax k.nx e,cR.ax k.ru e,k.mp.ext e (fun k=>k),k.ls.ax e,fun b hb=>(k.cty b hb).ext e (fun k=>k),k.cr,k.dge,k.mge⟩
theorem iz.put {h':aA}{x:Nat}(k:iz h0 h C db mb vl vn vr lists next rule) (e:Ext (fun b=>b=x) h h') (hx:dF h x 153) (hn:vn.ownBlock≠some x) (hge:h0.size<=x):iz h0 h' C db mb vl vn vr lists next rule:=by
 have hd:¬db=x:=k.dblk.ty.ne hx (by decide);have hm:¬mb=x:=k.mp.ne hx;have hl:∀b,vl.ownBlock=some b->¬b=x:=fun b hb=>(k.Fm b hb).ne hx (by decide)
 have hr:∀b,vr.ownBlock=some b->¬b=x:=fun b hb=>(k.Ch b hb).ne hx (by decide)
 have hc:∀b,C b->¬b=x:=fun b hb=>(k.cty b hb).ne hx (by decide)
 exact⟨aC.only k.ext e hge,k.dblk.ext e hd,aT.ext e k.nx (fun b hb hbx=>hn (by subst hbx;exact hb)),aT.ext e k.ru hr,k.mp.ext e hm,
  k.ls.qd e hl (fun b _ hb hC=>hc b hC hb) (fun _ _ k=>k),fun b hb=>(k.cty b hb).ext e (hc b hb),k.cr,k.dge,k.mge⟩
end
section
variable {h0 h:aA}{C:Nat->Prop}{db mb:Nat}{vl vn vr:Value}{lists:List (List Nat)}{next:List Row}{rule:List Int}
theorem iz.Jb {g3 g4:aA}{v3:Value}{r:Row}{n:Nat}(k:iz h0 h C db mb vl vn vr lists next rule) (hn:n=next.length) (ho:aT g3 h0.size 153 256 v3 (n+1) (next.flatMap cq++cq r)) (hx:Ext (cV vn.ownBlock) h g3) (hd:bh g4 db 149 [v3,vr]) (x4:Ext (fun b=>b=db) g3 g4) :
 iz h0 g4 C db mb vl v3 vr lists (next++[r]) rule:=by
 have nne:∀{b:Nat}{t:TypeId},dF h b t->153≠t->¬cV vn.ownBlock b:=fun kt ht e=>(k.Dl _ e.symm).ne kt ht rfl
 have d3:=k.dblk.ext hx (nne k.dblk.ty (by decide));have dne:∀{b:Nat}{t:TypeId},dF g3 b t->149≠t->¬b=db:=fun kt ht e=>by subst e;exact d3.ty.ne kt ht rfl
 have mne:¬cV vn.ownBlock mb:=fun e=>k.mp.ne (k.Dl _ e.symm) rfl
 have hm3:=k.mp.ext hx mne;have hdlt:=k.dblk.lt;have ru3:=aT.ext hx k.ru (fun b hb=>nne (k.Ch b hb) (by decide));have ls3:dx BJ (fun b=>¬C b) g3 h0.size 127 vl lists:=k.ls.qd hx (fun b hb=>nne (k.Fm b hb) (by decide)) (fun b _ hb hC=>nne (k.cty b hC) (by decide) hb) (fun _ _ k=>k);have lty3:∀b,vl.ownBlock=some b->dF g3 b 127:=fun b hb=>(k.Fm b hb).ext hx (nne (k.Fm b hb) (by decide))
 have cty3:∀b,C b->dF g3 b 3:=fun b hb=>(k.cty b hb).ext hx (nne (k.cty b hb) (by decide))
 refine⟨⟨by have:=k.ext.size;have:=hx.size;have:=x4.size;omega,fun b hb kk=>?_⟩,hd,?_,aT.ext x4 ru3 (fun b hb=>dne (aT.ty ru3 hb) (by decide)),hm3.ext x4 (hm3.ne d3.ty),ls3.qd x4 (fun b hb=>dne (lty3 b hb) (by decide)) (fun b _ hb hC=>dne (cty3 b hC) (by decide) hb) (fun _ _ k=>k),fun b hb=>(cty3 b hb).ext x4 (dne (cty3 b hb) (by decide)),k.cr,k.dge,k.mge⟩
 · rw[x4.block b (by have:=k.ext.size;have:=hx.size;omega) (by have:=k.dge;omega),hx.block b (by have:=k.ext.size;omega) (fun e=>by have:=(aT.lt k.nx e.symm).1;omega)];exact k.ext.block b hb kk
 · exact aT.ext x4 (kK.of ho hn rfl) (fun b hb=>dne (aT.ty ho hb) (by decide))
theorem iz.Ja {g3 g4:aA}{v3:Value}{x:Int}{n:Nat}(k:iz h0 h C db mb vl vn vr lists next rule) (hn:n=rule.length) (ho:aT g3 h0.size 3 1 v3 (n+1) (rule.map (Value.int .i64)++[.int .i64 x])) (hx:Ext (cV vr.ownBlock) h g3) (hv:∀b,v3.ownBlock=some b->vr.ownBlock=some b\/h.size<=b) (hd:bh g4 db 149 [vn,v3]) (x4:Ext (fun b=>b=db) g3 g4) :
 iz h0 g4 C db mb vl vn v3 lists next (rule++[x]):=by
 have nne:∀{b:Nat}{t:TypeId},dF h b t->3≠t->¬cV vr.ownBlock b:=fun kt ht e=>(k.Ch _ e.symm).ne kt ht rfl
 have cne:∀{b:Nat},C b->¬cV vr.ownBlock b:=fun hC e=>k.cr _ e.symm hC
 have d3:=k.dblk.ext hx (nne k.dblk.ty (by decide));have dne:∀{b:Nat}{t:TypeId},dF g3 b t->149≠t->¬b=db:=fun kt ht e=>by subst e;exact d3.ty.ne kt ht rfl
 have mne:¬cV vr.ownBlock mb:=fun e=>k.mp.ne (k.Ch _ e.symm) rfl
 have hm3:=k.mp.ext hx mne;have nx3:=aT.ext hx k.nx (fun b hb=>nne (k.Dl b hb) (by decide));have ls3:dx BJ (fun b=>¬C b) g3 h0.size 127 vl lists:=k.ls.qd hx (fun b hb=>nne (k.Fm b hb) (by decide)) (fun b _ hb hC=>cne hC hb) (fun _ _ k=>k);have lty3:∀b,vl.ownBlock=some b->dF g3 b 127:=fun b hb=>(k.Fm b hb).ext hx (nne (k.Fm b hb) (by decide))
 have cty3:∀b,C b->dF g3 b 3:=fun b hb=>(k.cty b hb).ext hx (cne hb)
 refine⟨⟨by have:=k.ext.size;have:=hx.size;have:=x4.size;omega,fun b hb kk=>?_⟩,hd,aT.ext x4 nx3 (fun b hb=>dne (aT.ty nx3 hb) (by decide)),?_,hm3.ext x4 (hm3.ne d3.ty),ls3.qd x4 (fun b hb=>dne (lty3 b hb) (by decide)) (fun b _ hb hC=>dne (cty3 b hC) (by decide) hb) (fun _ _ k=>k),fun b hb=>(cty3 b hb).ext x4 (dne (cty3 b hb) (by decide)),fun b hb hC=>?_,k.dge,k.mge⟩
 · rw[x4.block b (by have:=k.ext.size;have:=hx.size;omega) (by have:=k.dge;omega),hx.block b (by have:=k.ext.size;omega) (fun e=>by have:=(aT.lt k.ru e.symm).1;omega)];exact k.ext.block b hb kk
 · exact aT.ext x4 (cR.of (ys:=[x]) ho hn rfl rfl) (fun b hb=>dne (aT.ty ho hb) (by decide))
 · rcases hv b hb with e|e
   · exact k.cr b e hC
   · have:=(k.cty b hC).lt;omega
end
def yG (res:Int ⊕ cn) (h':aA) (r:Value):Prop:=match res with
 |.inl e=>r= .tuple #[.pointer none,.int .i64 e]
 |.inr d=>∃db,r= .tuple #[.pointer (some ⟨db,0,none⟩),.int .i64 0]/\nR h' db d
theorem Ay {h:aA}{O:Nat->Prop}{nb:Nat}{v:Value}{ss:List bT}{st:Nat}(htens:qG h) (hn:cB h O nb v ss st) (hgood:Good ss) (hss:ss.length<=30000) (hst:st<ss.length) (hpot1:1+qT ss (List.replicate ss.length false)<=1000000)
 (hpot:∀c now,List.Sublist now (List.range ss.length)->(stepG ss c now []).length+qT ss (List.replicate ss.length false)<=1000000) :
 ah Tryz.prog 29 #[.pointer (some ⟨nb,0,none⟩)] h (cM fun r h'=>yG (gj ss st) h' r/\aC h h'):=by
 generalize hres:gj ss st=res
 have hint:∀l:List Nat,l.Sublist (List.range ss.length)->(l.map Int.ofNat).length<=1000000/\∀n∈l.map Int.ofNat,-9223372036854775808<=n/\n<=9223372036854775807:=fun l hl=>by
  have h1:=hl.length_le;rw[List.length_range] at h1;refine⟨by rw[List.length_map];omega,fun n hn=>?_⟩;obtain⟨j,hj,rfl⟩:=List.mem_map.1 hn;have:=List.mem_range.1 (hl.subset hj);simp only[Int.ofNat_eq_natCast];omega
 refine ah.of func29 rfl rfl ?_;refine bf func29 2 [0,2,3] rfl ?_;refine bl func29 1 rfl ?_;refine xo rfl (aq (vs:=[_]) func51 rfl H.MR rfl (ah.bq (zq hn hgood (by omega) (.inr hst) hpot1))) ?_;rintro w4 h1 ⟨ho1,e1⟩;have hsub0:=Be ss st;generalize hl0:cL ss st=l0 at *;have hi0:=hint l0 hsub0;obtain⟨wa,wc,rfl,_⟩:=(show aT h1 h.size 3 1 w4 l0.length (l0.map eE) from ho1).open;refine aN 1 [0,2,3,4] rfl ?_;refine av rfl ?_;refine bl func29 1 rfl ?_;refine xp rfl (aj.aS underlying127 rfl) ?_;refine aN 1 [0,2,3,4,18] rfl ?_;refine aM rfl rfl (fun hz=>?_) (fun hz=>?_)
 · refine bf func29 2 [0,2,3,4,18] rfl ?_;refine G.ret func29 rfl rfl ?_;have:res= .inl 1:=by rw[<-hres,gj,hl0,if_pos (by omega)]
   subst this;exact⟨_,rfl,rfl,e1⟩
 · have hres':res=match jP ss 2002 0 [l0] [] [] with|none=>.inl 70|some d=>.inr d:=by rw[<-hres,gj,hl0,if_neg (by omega)]<;>rfl
   refine aB rfl ?_;refine xr func29 rfl ?_;refine xp rfl (aG (H.Ge ) rfl) ?_;refine xo rfl (az.eR rfl) ?_;rintro _ h2 ⟨rfl,k2,e2,z2⟩;refine aN 1 [0,2,3,4,5,18] rfl ?_;refine xr func29 rfl ?_;refine xo rfl (mQ (ek:=Value.string) (ev:=Value.int .i64)) ?_;rintro _ h3 ⟨rfl,hm3,e3,z3⟩;have k2:bh h2 h1.size 149 [.slice none 0 0,.slice none 0 0]:=k2;have e13:=e2.trans e3;have hz1:=e1.size;refine aV 1 rfl ?_;refine xo rfl (aq (vs:=[_]) func52 rfl H.GS rfl (ah.bq (qq ((htens.ax e1).ax e13) (AN (bX.mv (cR.read (O:=fun _=>False) (h1:=fun _=>rfl) ho1 (fun _ _ k=>k)) (Mv.ax e13))) hi0.1 hi0.2))) ?_;rintro _ h4 ⟨rfl,e4⟩;have hm4:=hm3.ext e4 (fun k=>k);have z4:=e4.size;refine RW.bB rfl rfl rfl (uT (v:=(0:Int)) jr underlying151 underlying9 rfl rfl rfl rfl rfl hm4 (rfl:kJ (bs (gu (l0.map Int.ofNat))) []=none)) ?_;rintro _ h5 ⟨rfl,hm5,x5,z5⟩;have hm5:fJ Value.string (Value.int .i64) h5 h2.size (lS 0 [l0]):=hm5;have e05:aC h h5:=aC.only ((e1.trans e13).trans e4) x5 (by omega);have ho5:cR eE h5 h.size 3 (.slice wa l0.length wc) l0:=aT.ext x5 (cR.ax (cR.ax ho1 e13) e4) (fun b hb (e:b=h2.size)=>by have:=(aT.lt ho1 hb).2;omega);have k5:bh h5 h1.size 149 [.slice none 0 0,.slice none 0 0]:=((k2.ax e3).ax e4).ext x5 (by show ¬_=_;omega);refine aN 2 [0,2,3,4,5,6,18] rfl ?_;refine bl func29 1 rfl ?_;refine xo rfl (az.bg (us:=[_]) underlying152 H.FV rfl rfl (by decide) (by simp[Value.oneCell'])) ?_;rintro _ _ ⟨rfl,rfl⟩;refine aN 1 [0,2,3,4,5,6,7,18] rfl ?_;refine av rfl ?_;refine bf func29 1 [0,2,3,4,5,6,7,8,18] rfl ?_;refine G.block rfl rfl ?_;have e56:aC h5 (h5.push (.cells #[.slice wa l0.length wc] 127)):=Ext.push _ _ _
   have ls6:dx BJ (fun b=>¬cV (Value.slice wa l0.length wc).ownBlock b) (h5.push (.cells #[.slice wa l0.length wc] 127)) h.size 127 (.slice (some ⟨h5.size,0,none⟩) 1 1) [l0] :=
    dx.nH (e:=BJ) (cs:=[.slice wa l0.length wc]) ⟨_,rfl,aT.H6 (h1:=fun _=>rfl) ho5 (fun b hb k=>k hb.symm)⟩ e05.size
   generalize h5.push (.cells #[.slice wa l0.length wc] 127)=h6 at *
   have mk6:iz h h6 (cV (Value.slice wa l0.length wc).ownBlock) h1.size h2.size (.slice (some ⟨h5.size,0,none⟩) 1 1) (.slice none 0 0) (.slice none 0 0) [l0] [] [] :=
    ⟨e05.trans e56,k5.ax e56,kK.nil _ _ _ _ _,cR.nil _ _ _ _,hm5.ext e56 (fun k=>k),ls6,fun b hb=>dF.ext (aT.ty ho5 hb.symm) e56 (fun k=>k),fun b hb=>(by cases hb),hz1,by omega⟩
   refine bO (σ:=Nat×Value) (fun q=>[(0,.pointer (some ⟨nb,0,none⟩)),(5,.pointer (some ⟨h1.size,0,none⟩)),(6,.map (some h2.size)),(7,q.2),(8,.int .i64 (q.1:Nat))]) (fun q h'=>∃C vn vr lists next rule,iz h h' C h1.size h2.size q.2 vn vr lists next rule/\q.1<=lists.length/\lists.length<=2000/\(next.length=q.1/\rule.length=q.1)/\(∀l∈lists,l.Sublist (List.range ss.length))/\res=(match jP ss (2002-q.1) q.1 lists next rule with|none=>.inl 70|some d=>.inr d)) (fun q=>2002-q.1) ((0,.slice (some ⟨h5.size,0,none⟩) 1 1)) rfl ⟨rfl,rfl,rfl,rfl,rfl,trivial⟩ ⟨_,_,_,[l0],[],[],mk6,Nat.zero_le _,by simp,⟨rfl,rfl⟩,fun l hl=>by simp at hl;subst hl;exact hsub0,hres'⟩ ?_;rintro⟨i,vl⟩ g ⟨C,vn,vr,lists,next,rule,mk,hi,hl2,⟨hnl,hrl⟩,hsl,hcon⟩ ih
   try dsimp only
   dsimp only at mk hi hnl hrl hcon;obtain⟨css,hc1,hc2,hc3⟩:=id mk.ls;obtain⟨la,lc,rfl,_⟩:=hc2.open;have hng:cB g O nb v ss st:=hn.ax mk.ext (fun _ _ k=>k);have mkg:=mk;refine av rfl ?_;refine bl func29 2 rfl ?_;refine xp rfl (aj.aS underlying152 rfl) ?_;refine aN 1 [0,5,6,7,8,30] rfl ?_;refine aM rfl rfl (fun hlt=>?_) (fun hlt=>?_)
   · have hil:i<lists.length:=by omega
     obtain⟨cur,hcur⟩:∃cur,lists[i]? =some cur:=⟨_,List.getElem?_eq_getElem hil⟩
     have hcsub:=hsl cur (List.mem_of_getElem? hcur);obtain⟨n,hnn⟩:∃n,2002-i=n+1:=⟨2001-i,by omega⟩
     rw[hnn,jP,hcur] at hcon;simp only at hcon;generalize hrow:kQ ss cur 256 0 lists []=tgt at hcon;refine aB rfl ?_;refine av rfl ?_;refine G.block rfl rfl ?_;refine xr func29 rfl ?_;refine xo rfl (az.aQ H.B6) ?_;rintro _ g1 ⟨rfl,kz,ez,zz⟩;have kz:bh g1 g.size 153 (([]:List Int).map (Value.int .i64)++List.replicate (256-0) (Value.int .i64 0)):=kz;have GW:=mk.ax ez;have hvz:vn.ownBlock≠some g.size:=fun e=>by have:=(mk.Dl _ e).lt;omega
     refine xd [0,5,6,7,8,9,30] rfl ?_;refine av rfl ?_;refine bf func29 1 [0,5,6,7,8,9,30,33] rfl ?_;refine G.block rfl rfl ?_;refine bO (σ:=Nat×Value) (fun q=>[(0,.pointer (some ⟨nb,0,none⟩)),(5,.pointer (some ⟨h1.size,0,none⟩)),(6,.map (some h2.size)),(7,q.2),(8,.int .i64 (i:Nat)),(9,.pointer (some ⟨g.size,0,none⟩)),(33,.int .i64 (q.1:Nat))]) (fun q h'=>∃C lists' row,iz h h' C h1.size h2.size q.2 vn vr lists' next rule/\(q.1<=256/\row.length=q.1/\lists'.length<=2000+q.1)/\bh h' g.size 153 (row.map (Value.int .i64)++List.replicate (256-q.1) (Value.int .i64 0))/\lists'[i]? =some cur/\(∀l∈lists',l.Sublist (List.range ss.length))/\kQ ss cur (256-q.1) q.1 lists' row=tgt) (fun q=>256-q.1) ((0,.slice la lists.length lc)) rfl ⟨rfl,rfl,rfl,rfl,rfl,rfl,rfl,trivial⟩ ⟨C,lists,[],GW,⟨Nat.zero_le _,rfl,by simp;omega⟩,kz,hcur,hsl,hrow⟩ ?_;rintro⟨b,vl⟩ g2 ⟨C,lists,row,mk,⟨hb,hrlen,hlb⟩,kz,hcur,hsl,hrow⟩ ih2
     try dsimp only
     dsimp only at mk hb hrlen hlb kz hrow;have hng:cB g2 O nb v ss st:=hn.ax mk.ext (fun _ _ k=>k);refine bf func29 1 [0,5,6,7,8,9,33,34] rfl ?_;refine av rfl ?_;refine aM rfl rfl (fun hb256=>?_) (fun hb256=>?_)
     · obtain⟨m,hm⟩:∃m,256-b=m+1:=⟨255-b,by omega⟩
       rw[hm,kQ] at hrow;obtain⟨g',c',cs,hv',_,_,hrowv,_,⟨w,rfl,hw⟩,_⟩:=mk.ls.put hcur;subst hv';have hnlt:∀j∈cur,j<ss.length:=fun j hj=>List.mem_range.1 (hcsub.subset hj)
       have hcl:=hcsub.length_le;rw[List.length_range] at hcl;have hub:(UInt8.ofNat b).toNat=b:=by simp;omega
       have hwr:bX iw g2 (fun _=>False) w cur:=pZ hw (fun _ k=>k.elim);have hstep:=Bc (UInt8.ofNat b) hng hgood (by omega) hwr hnlt (by omega) (hpot _ _ hcsub);rw[hub] at hstep;have hlsub:=C0 ss (UInt8.ofNat b) cur;refine aB rfl ?_;refine av rfl ?_;refine G.block rfl rfl ?_;refine bf func29 2 [0,5,6,7,8,9,10,33,34] rfl ?_;refine bl func29 3 rfl ?_;refine xp rfl (aj.aH underlying152 H.gK rfl rfl i rfl rfl (by have:=(List.getElem?_eq_some_iff.1 hcur).1;omega)) ?_;refine xp rfl (ai H.nQ rfl (hrowv 0 _ rfl)) ?_;refine cI 1 rfl rfl (aj.BM underlying3 underlying5 rfl (wrap_u8 ⟨by omega,by omega⟩)) ?_;refine xo rfl (aq (vs:=[_,_,_]) func53 rfl H.MQ rfl (ah.bq (hstep))) ?_;rintro w11 g3 ⟨ho3,e3⟩;generalize hl:cT ss (UInt8.ofNat b) cur=l at *;have hsN:dN ss cur lists b=if l.length=0 then (lists,-1) else match nL 0 lists l with|some i=>(lists,(i:Int))|none=>(lists++[l],(lists.length:Int)):=by unfold dN;rw[hl]<;>rfl
       have hil:=hint l hlsub;obtain⟨l11a,l11c,rfl,_⟩:=(show aT g3 g2.size 3 1 w11 l.length (l.map eE) from ho3).open;have mk3:=mk.ax e3;have kz3:=kz.ax e3;have hkey:∀{gg:aA},aC g3 gg->ah Tryz.prog 52 #[.slice l11a l.length l11c] gg (cM fun r h'=>r= .string (bs (xM l))/\aC gg h'):=fun e=>qq (htens.ax (mk3.ext.trans e)) (AN (bX.mv (cR.read (O:=fun _=>False) (h1:=fun _=>rfl) ho3 (fun _ _ k=>k)) (Mv.ax e))) hil.1 hil.2
       refine aN 1 [0,5,6,7,8,9,10,11,33,34] rfl ?_;refine bl func29 2 rfl ?_;refine xo rfl (aq (vs:=[_]) func52 rfl H.GS rfl (ah.bq (hkey (Ext.refl _ _)))) ?_;rintro _ g4 ⟨rfl,e4⟩;have mk4:=mk3.ax e4;have kz4:=kz3.ax e4;refine xp rfl (aj.tn (z:=.int .i64 0) jr underlying151 underlying9 (by kernel_rfl) rfl rfl rfl mk4.mp) ?_;rw[uG];refine aN 5 [0,5,6,7,8,9,10,11,12,13,33,34] rfl ?_;refine av rfl ?_;refine G.block rfl rfl ?_;refine bl func29 1 rfl ?_;refine xp rfl (aj.aS underlying127 rfl) ?_;refine aN 2 [0,5,6,7,8,9,10,11,12,13,33,34,51] rfl ?_
       have fin:∀(to:Int) (vl2:Value) (h':aA) (ρ':Env),Sub [(0,.pointer (some ⟨nb,0,none⟩)),(5,.pointer (some ⟨h1.size,0,none⟩)),(6,.map (some h2.size)),(7,vl2),(8,.int .i64 (i:Nat)),(9,.pointer (some ⟨g.size,0,none⟩)),(10,.int .i64 (b:Nat)),(12,.int .i64 to),(33,.int .i64 (b:Nat))] ρ'->(∃C2,iz h h' C2 h1.size h2.size vl2 vn vr (dN ss cur lists b).1 next rule)->to=(dN ss cur lists b).2->bh h' g.size 153 (row.map (Value.int .i64)++List.replicate (256-b) (Value.int .i64 0))->G Tryz.prog 29 f29 [.code [1,1,1,1,0,0,1,1,0,0,1,0,1,0,0,1,0,0,1,0,1,1,1,1,1,1],.blk 3,.code [1,1,1,0,0,1,0,1,0,0,1,0,0,1,0,1,1,1,1,1,1],.loop [0,0,1,0,1,0,0,1,0,0,1,0,1,1,1,1,1,1],.blk 2,.code [1,1,0,0,1,0,0,1,0,1,1,1,1,1,1],.blk 1,.code [1,1,0,0,1,0,1,1,1,1,1,1],.loop [0,0,1,0,1,1,1,1,1,1],.blk 0,.code [1,1,1,1,1,1,1]] ρ' h' (cM fun r h'=>yG res h' r/\aC h h'):=by
        rintro to vl2 g5 ρ' hsub ⟨C2,mk5⟩ hto kz5;refine G.sub (ρ':=[(0,.pointer (some ⟨nb,0,none⟩)),(5,.pointer (some ⟨h1.size,0,none⟩)),(6,.map (some h2.size)),(7,vl2),(8,.int .i64 (i:Nat)),(9,.pointer (some ⟨g.size,0,none⟩)),(10,.int .i64 (b:Nat)),(12,.int .i64 to),(33,.int .i64 (b:Nat))]) hsub ?_
        have hrs:(dN ss cur lists b).1.length<=lists.length+1/\(dN ss cur lists b).1[i]? =some cur/\∀x∈(dN ss cur lists b).1,x.Sublist (List.range ss.length):=by
         rw[hsN];split
         · exact⟨Nat.le_succ _,hcur,hsl⟩
         · split
           · exact⟨Nat.le_succ _,hcur,hsl⟩
           · refine⟨by simp,by rw[List.getElem?_append_left (List.getElem?_eq_some_iff.1 hcur).1];exact hcur,fun x hx=>?_⟩
             rcases List.mem_append.1 hx with k|k
             · exact hsl x k
             · have:x=l:=by simpa using k
               rw[this];exact hlsub
        have hcells:(row.map (Value.int .i64)++List.replicate (256-b) (Value.int .i64 0)).length=256:=by simp[hrlen];omega
        have hset:(row.map (Value.int .i64)++List.replicate (256-b) (Value.int .i64 0)).set (0+b*1) (.int .i64 to)=(row++[to]).map (Value.int .i64)++List.replicate (256-(b+1)) (Value.int .i64 0):=by
         rw[Nat.zero_add,Nat.mul_one,List.set_append_right _ _ (by simp;omega),show 256-b=(256-(b+1))+1 by omega,List.replicate_succ];have:b-(row.map (Value.int .i64)).length=0:=by simp;omega
         rw[this,List.set_cons_zero];simp
        have hblt:0+b*1<(row.map (Value.int .i64)++List.replicate (256-b) (Value.int .i64 0)).length:=by rw[hcells];omega
        refine G.cz func29 rfl ?_;refine cI 2 rfl rfl (aj.cQ underlying153 H.bV rfl rfl b rfl (by omega)) ?_;refine RW.bB rfl rfl rfl (cH H.bV rfl rfl rfl (kz5.cell (List.getElem?_eq_getElem hblt)) kz5.nf) ?_;rintro _ g6 ⟨rfl,hg6⟩;have k6:=kz5.set (0+b*1) (.int .i64 to);rw[<-hg6,hset] at k6;have x6:Ext (fun y=>y=g.size) g5 g6:=by rw[hg6];exact Ext.ew _ _ _ rfl
        have hzge:h.size<=g.size:=mkg.ext.size;have mk6:=mk5.put x6 kz5.ty hvz hzge;refine xd [0,5,6,7,8,9,10,12,33] rfl ?_;refine G.aR ?_;refine G.cz func29 rfl ?_;refine xp rfl (aj.bJ rfl rfl ⟨by omega,by omega⟩) ?_;refine aN 1 [0,5,6,7,8,9,10,12,33] rfl ?_;exact ih2 (b+1,vl2) _ _ ⟨rfl,rfl,rfl,rfl,rfl,rfl,rfl,trivial⟩ ⟨C2,_,row++[to],mk6,⟨by show b+1<=256;omega,by simp[hrlen],by show _<=2000+(b+1);omega⟩,k6,hrs.2.1,hrs.2.2,by show kQ ss cur (256-(b+1)) (b+1) _ _=tgt;rw[show 256-(b+1)=m by omega,hto];exact hrow⟩ (by show 256-(b+1)<256-b;omega)
       refine aM rfl rfl (fun hz11=>?_) (fun hz11=>?_)
       · have hl0':l.length=0:=by omega
         refine G.cz func29 rfl ?_;refine aN 1 [0,5,6,7,8,9,10,11,12,13,33,34,51] rfl ?_;refine G.aR ?_;exact fin (-1) _ _ _ ⟨rfl,rfl,rfl,rfl,rfl,rfl,rfl,rfl,rfl,trivial⟩ (by rw[hsN,if_pos hl0'];exact⟨C,mk4⟩) (by rw[hsN,if_pos hl0']) kz4
       · have hl0':¬l.length=0:=by omega
         rcases hfind:nL 0 lists l with _|j
         · refine bf func29 3 [0,5,6,7,8,9,10,11,12,13,33,34,51,55] rfl ?_;refine aJ rfl rfl (fun _=>?_) (fun hc=>absurd hc (by simp));refine bl func29 1 rfl ?_;refine xp rfl (aj.aS underlying152 rfl) ?_;refine aN 1 [0,5,6,7,8,9,10,11,12,13,33,34,51,55] rfl ?_;refine bl func29 2 rfl ?_;refine xo rfl (aq (vs:=[_]) func52 rfl H.GS rfl (ah.bq (hkey e4))) ?_;rintro _ g5 ⟨rfl,e5⟩;have mk5:=mk4.ax e5;have hnone:kJ (bs (xM l)) (lS 0 lists)=none:=by rw[uG,hfind];rfl
           refine aV 1 rfl ?_;refine RW.bB rfl rfl rfl (az.mapUpdate (v:=(lists.length:Int)) jr underlying151 underlying9 rfl rfl rfl rfl rfl mk5.mp hnone) ?_;rintro _ g6 ⟨rfl,hm6,x6,z6⟩;have hm6:fJ Value.string (Value.int .i64) g6 h2.size (lS 0 (lists++[l])):=by rw[vO,Nat.zero_add];exact hm6
           have mapne:∀{b:Nat}{t:TypeId},dF g5 b t->¬b=h2.size:=fun k e=>mk5.mp.ne k e.symm
           have e35:=e4.trans e5;have ho5w:cR eE g5 g2.size 3 (.slice l11a l.length l11c) l:=cR.ax ho3 e35;have kz5:=kz4.ax e5;have kz6:=kz5.ext x6 (mapne kz5.ty);have d6:=mk5.dblk.ext x6 (mapne mk5.dblk.ty);have nx6:=aT.ext x6 mk5.nx (fun b hb=>mapne (mk5.Dl b hb));have ru6:=aT.ext x6 mk5.ru (fun b hb=>mapne (mk5.Ch b hb));have ho6w:cR eE g6 g2.size 3 (.slice l11a l.length l11c) l:=aT.ext x6 ho5w (fun b hb=>mapne (aT.ty ho5w hb))
           have ls6:dx BJ (fun b=>¬(C b\/cV (Value.slice l11a l.length l11c).ownBlock b)) g6 h.size 127 (.slice (some ⟨g',0,none⟩) lists.length c') lists :=
            mk5.ls.qd x6 (fun b hb=>mapne (mk5.Fm b hb)) (fun b _ hb hC=>mapne (mk5.cty b hC) hb) (fun b _ hb hC=>hb (.inl hC))
           have lty6:dF g6 g' 127:=(mk5.Fm g' rfl).ext x6 (mapne (mk5.Fm g' rfl));obtain⟨css,hc1,hc2,hc3⟩:=id ls6;have hz5:=mk5.ext.size;have hz2g:=mk.ext.size;refine xd [0,5,6,7,8,9,10,11,12,13,33,34,51,55] rfl ?_;refine G.cz func29 rfl ?_;refine aV 2 rfl ?_;refine xo rfl (az.bg (us:=[_]) underlying152 H.FV rfl rfl (by decide) (by simp[Value.oneCell'])) ?_;rintro _ _ ⟨rfl,rfl⟩;refine xo rfl (az.bU underlying152 H.FV rfl rfl (hc2) rfl rfl (by first|decide|simp[Value.oneCell']) (by omega) (by decide) (by omega)) ?_;rintro v7 g7 ⟨ho7,hx7,hx7',hv7⟩
           have lne:∀{b:Nat}{t:TypeId},dF g6 b t->127≠t->¬cV (Value.slice (some ⟨g',0,none⟩) lists.length c').ownBlock b:=fun k ht e=>by
            simp only[cV,Value.ownBlock,Option.some.injEq] at e;subst e;exact lty6.ne k ht rfl
           have hsz3:=e3.size;have hsz35:=e35.size;have ty6:∀{b:Nat}{t:TypeId},dF g5 b t->dF g6 b t:=fun k=>k.ext x6 (mapne k)
           have hls7:dx BJ (fun b=>¬(C b\/cV (Value.slice l11a l.length l11c).ownBlock b)) g7 h.size 127 v7 (lists++[l]) :=
            dx.gz (h:=g6) (v:=.slice (some ⟨g',0,none⟩) lists.length c') (css:=css) (cs:=[.slice l11a l.length l11c]) hc1 hc3 ho7 hx7 hv7 ⟨_,rfl,aT.H6 (h1:=fun _=>rfl) ho6w (fun b hb k=>by
             rcases k with k|k
             · exact lne (aT.ty ho6w hb) (by decide) k
             · exact k (.inr hb.symm))⟩
           have hmb6:¬cV (Value.slice (some ⟨g',0,none⟩) lists.length c').ownBlock h2.size:=fun e=>by
            simp only[cV,Value.ownBlock,Option.some.injEq] at e;exact hm6.ne (e▸lty6) rfl
           have hext7:aC h g7:=⟨by have:=hx7.size;omega,fun b hb k=>by
            rw[hx7.block b (by omega) (fun e=>by
             simp only[cV,Value.ownBlock,Option.some.injEq] at e;have:=mk5.NG g' rfl;omega),x6.block b (by omega) (by have:=mk5.mge;omega)]
            exact mk5.ext.block b hb k⟩
           have mk7:iz h g7 (fun b=>C b\/cV (Value.slice l11a l.length l11c).ownBlock b) h1.size h2.size v7 vn vr (lists++[l]) next rule :=
            ⟨hext7,d6.ext hx7 (lne d6.ty (by decide)),aT.ext hx7 nx6 (fun b hb=>lne (aT.ty nx6 hb) (by decide)),aT.ext hx7 ru6 (fun b hb=>lne (aT.ty ru6 hb) (by decide)),hm6.ext hx7 hmb6,hls7,
             fun b hb=>by
              rcases hb with hb|hb
              · exact dF.ext (ty6 (mk5.cty b hb)) hx7 (lne (ty6 (mk5.cty b hb)) (by decide))
              · exact dF.ext (aT.ty ho6w hb.symm) hx7 (lne (aT.ty ho6w hb.symm) (by decide)),
             fun b hb hC=>by
              rcases hC with hC|hC
              · exact mk5.cr b hb hC
              · have h1':=(mk.Ch b hb).lt;have h2':=(aT.lt ho6w hC.symm).1;omega,mk5.dge,mk5.mge⟩
           obtain⟨v7a,v7c,rfl,_⟩:=ho7.open;refine aN 1 [0,5,6,7,8,9,10,11,12,13,33,34,51,55] rfl ?_;refine G.aR ?_;exact fin (lists.length:Int) _ _ _ ⟨rfl,rfl,rfl,rfl,rfl,rfl,rfl,rfl,rfl,trivial⟩ (by rw[hsN,if_neg hl0',hfind];exact⟨_,mk7⟩) (by rw[hsN,if_neg hl0',hfind]) (kz6.ext hx7 (lne kz6.ty (by decide)))
         · have hj:=ox lists 0 j l hfind;refine bf func29 3 [0,5,6,7,8,9,10,11,12,13,33,34,51,55] rfl ?_;refine aJ rfl rfl (fun hc=>absurd hc (by simp)) (fun _=>?_);refine aB rfl ?_;refine G.aR ?_;exact fin (j:Int) _ _ _ ⟨rfl,rfl,rfl,rfl,rfl,rfl,rfl,rfl,rfl,trivial⟩ (by rw[hsN,if_neg hl0',hfind];exact⟨C,mk4⟩) (by rw[hsN,if_neg hl0',hfind]) kz4
     · obtain rfl:b=256:=by omega
       rw[Nat.sub_self,kQ] at hrow;subst hrow;simp only at hcon;obtain⟨css2,hd1,hd2,hd3⟩:=id mk.ls;obtain⟨la2,lc2,rfl,_⟩:=hd2.open;have hencr:cq (jB row)=row.map (Value.int .i64):=by rw[cq,sd hrlen]
       rw[Nat.sub_self,List.replicate_zero,List.append_nil,<-hencr] at kz;refine bD rfl rfl ?_;refine av rfl ?_;refine bl func29 1 rfl ?_;refine xp rfl (aj.aS underlying152 rfl) ?_;refine aN 1 [0,5,6,7,8,9,33,34,74] rfl ?_;refine aM rfl rfl (fun hbigl=>?_) (fun hbigl=>?_)
       · rw[if_pos (by omega)] at hcon;refine bf func29 2 [0,2,3,5,6,7,8,9,33,34,74] rfl ?_;refine G.ret func29 rfl rfl ?_;exact⟨_,rfl,by rw[hcon];rfl,mk.ext⟩
       · rw[if_neg (by omega)] at hcon
         have nne:∀{b:Nat}{t:TypeId},dF g2 b t->153≠t->¬(cV vn.ownBlock b\/Array.size g2<=b):=fun kt ht e=>by
          rcases e with e|e
          · exact(mk.Dl _ e.symm).ne kt ht rfl
          · have:=kt.lt;omega
         have hzM:¬(cV vn.ownBlock g.size\/Array.size g2<=g.size):=by
          rintro(e|e)
          · exact hvz e.symm
          · have:=kz.lt;omega
         have hdM:=nne mk.dblk.ty (by decide);have hnx:aT g2 h.size 153 256 vn next.length (next.flatMap cq):=mk.nx
         have hone:∀u∈cq (jB row),u.oneCell'=true:=fun u hu=>by simp[cq] at hu;obtain⟨_,_,rfl⟩:=hu;rfl
         have hg2:=mk.ext.size;refine aB rfl ?_;refine av rfl ?_;refine bQ (fun b=>cV vn.ownBlock b\/Array.size g2<=b) (fun i=>Nat.blt i 10) (sz:=11) (listed:= #[false,false,false,false,false,false,false,false,false,false,false]) func29 H.mixed rfl rfl rfl ?_;refine cu 0 1 (by kernel_rfl) rfl ?_;refine cu 1 3 (by kernel_rfl) rfl ?_;refine cu 2 7 (by kernel_rfl) rfl ?_;refine bP 3 15 (by kernel_rfl) rfl (fun h' e=>af (off:=0) underlying149 rfl rfl H.jZ rfl) ?_;refine bP 4 31 (by kernel_rfl) rfl (fun h' e=>ai H.pW rfl (e.cell hdM (mk.dblk.cell (i:=0) rfl))) ?_;refine bP 5 63 (by kernel_rfl) rfl (fun h' e=>aj.aE H.uK H.jY rfl (e.rowAt hzM kz.row) (by first|rfl|(simp;done)|(simp;omega))) ?_;refine dZ 6 127 (by kernel_rfl) rfl (az.cE (cs:=cq (jB row)) underlying147 H.CA rfl (kY _) (by decide)) ?_;rintro _ _ ⟨rfl,rfl⟩;refine⟨fun _=>(Ext.push _ _ _),?_⟩;refine dZ 7 255 (by kernel_rfl) rfl (az.wE underlying147 H.CA rfl rfl hnx rfl (by simp) hone (by simp only[maxLen];omega) (by omega) hg2) ?_;rintro v3 g3 ⟨ho3,hx3,hx3',hv3⟩;refine⟨fun _=>hx3'.mono (fun _ _ k=>.inl k),?_⟩;obtain⟨a3,c3,rfl,_⟩:=ho3.open;refine dZ 8 511 (by kernel_rfl) rfl (aj.bq (aO rfl)) ?_;rintro _ hq_ ⟨rfl,hqe_⟩;replace hqe_:=hqe_.symm;subst hqe_;refine⟨fun _=>Ext.refl _ _,?_⟩;refine bP 9 1023 (by kernel_rfl) rfl (fun h' e=>af (off:=0) underlying149 rfl rfl H.jZ rfl) ?_;refine jG 10 2047 (by kernel_rfl) rfl (az.bA H.jZ rfl rfl (mk.dblk.ext hx3 (fun e=>hdM (.inl e))) (by first|decide|exact of_decide_eq_true rfl|(simp;done)|(simp;omega)) rfl) ?_;rintro _ g4 ⟨rfl,k4,x4,z4⟩;refine⟨fun hk=>(nomatch hk),?_⟩;have mk4:=mk.Jb (r:=jB row) rfl ho3 hx3 k4 x4;obtain⟨g',c',cs,hv',_,_,hrowv,_,⟨w,rfl,hw⟩,_⟩:=mk4.ls.put hcur;cases hv';have hng4:cB g4 O nb v ss st:=hn.ax mk4.ext (fun _ _ k=>k);have hwr:bX iw g4 (fun _=>False) w cur:=pZ hw (fun _ k=>k.elim);have hnlt:∀j∈cur,j<ss.length:=fun j hj=>List.mem_range.1 (hcsub.subset hj)
         have hcl:=hcsub.length_le;rw[List.length_range] at hcl
         have rne:∀{b:Nat}{t:TypeId},dF g4 b t->3≠t->¬(cV vr.ownBlock b\/Array.size g4<=b):=fun kt ht e=>by
          rcases e with e|e
          · exact(mk4.Ch _ e.symm).ne kt ht rfl
          · have:=kt.lt;omega
         have hdM4:=rne mk4.dblk.ty (by decide);have hlM4:=rne (mk4.Fm g' rfl) (by decide);have hru:aT g4 h.size 3 1 vr rule.length (rule.map (Value.int .i64)):=mk4.ru;have hg4s:=mk4.ext.size;have hli:i<lists.length:=(List.getElem?_eq_some_iff.1 hcur).1;refine bu (by kernel_rfl) ?_;refine xu [0,5,6,7,8,9,33,34,74] rfl ?_;refine bQ (fun b=>cV vr.ownBlock b\/Array.size g4<=b) (fun i=>Nat.blt i 15) (sz:=16) (listed:= #[false,false,false,false,false,false,false,false,false,false,false,false,false,false,false,false]) func29 H.mixed rfl rfl rfl ?_;refine cu 0 1 (by kernel_rfl) rfl ?_;refine cu 1 3 (by kernel_rfl) rfl ?_;refine cu 2 7 (by kernel_rfl) rfl ?_;refine bP 3 15 (by kernel_rfl) rfl (fun h' e=>af (off:=1) underlying149 rfl rfl H.gK rfl) ?_;refine bP 4 31 (by kernel_rfl) rfl (fun h' e=>ai H.nQ rfl (e.cell hdM4 (mk4.dblk.cell (i:=1) rfl))) ?_;refine cu 5 63 (by kernel_rfl) rfl ?_;refine cu 6 127 (by kernel_rfl) rfl ?_;refine cu 7 255 (by kernel_rfl) rfl ?_;refine bP 8 511 (by kernel_rfl) rfl (fun h' e=>aj.aH underlying152 H.gK rfl rfl i rfl rfl (by omega)) ?_;refine bP 9 1023 (by kernel_rfl) rfl (fun h' e=>ai H.nQ rfl (e.cell hlM4 (hrowv 0 _ rfl))) ?_;refine dZ 10 2047 (by kernel_rfl) rfl (aq (vs:=[_,_]) func54 rfl H.MP rfl (ah.bq (vG hng4 (by omega) hwr hnlt (by omega)))) ?_;rintro _ g5 ⟨rfl,hg5⟩;refine⟨fun _=>by subst hg5;exact Ext.refl _ _,?_⟩;subst hg5;refine dZ 11 4095 (by kernel_rfl) rfl (az.bg (us:=[_]) underlying127 H.pP rfl rfl (by decide) (by simp[Value.oneCell'])) ?_;rintro _ _ ⟨rfl,rfl⟩;refine⟨fun _=>by first|exact Ext.push _ _ _|assumption,?_⟩;refine dZ 12 8191 (by kernel_rfl) rfl (az.bU underlying127 H.pP rfl rfl (hru) rfl rfl (by first|decide|simp[Value.oneCell']) (by omega) (by decide) (by omega)) ?_;rintro v6 g6 ⟨ho6,hx6,hx6',hv6⟩;refine⟨fun _=>hx6'.mono (fun _ _ k=>.inl k),?_⟩;obtain⟨a6,c6,rfl,_⟩:=ho6.open;refine dZ 13 16383 (by kernel_rfl) rfl (aj.bq (aO rfl)) ?_;rintro _ hq_ ⟨rfl,hqe_⟩;replace hqe_:=hqe_.symm;subst hqe_;refine⟨fun _=>Ext.refl _ _,?_⟩;refine bP 14 32767 (by kernel_rfl) rfl (fun h' e=>af (off:=1) underlying149 rfl rfl H.gK rfl) ?_;refine jG 15 65535 (by kernel_rfl) rfl (az.bA H.gK rfl rfl (mk4.dblk.ext hx6 (fun e=>hdM4 (.inl e))) (by first|decide|exact of_decide_eq_true rfl|(simp;done)|(simp;omega)) rfl) ?_;rintro _ g7 ⟨rfl,k7,x7,z7⟩;refine⟨fun hk=>(nomatch hk),?_⟩;have mk7:=mk4.Ja (x:=bG ss cur) rfl ho6 hx6 hv6 k7 x7;refine bu (by kernel_rfl) ?_;refine xu [0,5,6,7,8,9,33,34,74] rfl ?_;refine G.aR ?_;refine G.cz func29 rfl ?_;refine cI 1 rfl rfl (aj.bJ rfl rfl ⟨by omega,by omega⟩) ?_;refine aN 1 [0,5,6,7,8,9,33,34,74] rfl ?_;exact ih (i+1,_) _ _ ⟨rfl,rfl,rfl,rfl,rfl,trivial⟩ ⟨C,_,_,lists,next++[jB row],rule++[bG ss cur],mk7,by show i+1<=lists.length;omega,by omega,⟨by simp[hnl],by simp[hrl]⟩,hsl,by rw[hcon,show 2002-(i+1)=n by omega]⟩ (by show 2002-(i+1)<2002-i;omega)
   · have hie:i=lists.length:=by omega
     have hnone:lists[i]? =none:=List.getElem?_eq_none (by omega);obtain⟨n,hnn⟩:∃n,2002-i=n+1:=⟨2001-i,by omega⟩
     rw[hnn,jP,hnone] at hcon;simp only at hcon;refine bD rfl rfl ?_;refine bf func29 3 [0,2,3,5,6,7,8,30] rfl ?_;refine G.ret func29 rfl rfl ?_;refine⟨_,rfl,?_,mk.ext⟩;rw[hcon];exact⟨h1.size,rfl,vn,vr,mk.dblk,kK.read mk.nx (fun _ _ k=>k),cR.read (h1:=fun _=>rfl) mk.ru (fun _ _ k=>k)⟩
end Go.Proofs.YtmehdcdbeafljaaGreatDoor
namespace Go.Proofs.YtmehdcdbeafljaaGreatDoor
open Go
def cn.row (d:cn) (k:Nat):List Int:=match d.next[k]? with|some r=>r.v|none=>[]
def fZ (out:List Bool) (t:Int):Bool:=decide (0<=t) && out.getD t.toNat false
def dK (d:cn) (out:List Bool) (k:Nat):Bool:=decide (0<=d.ru k) ||(d.row k).any (fZ out)
def cD (d:cn):Nat->Nat->List Bool->Bool->List Bool×Bool
 | 0,_,out,ag=>(out,ag)
 |n+1,k,out,ag=>if out.getD k false=true then cD d n (k+1) out ag else cD d n (k+1) (out.set k (dK d out k)) (ag ||dK d out k)
def gi (out:List Bool):Nat:=(out.filter fun b=> !b).length
def pg (d:cn):Nat->List Bool->List Bool
 | 0,out=>out
 |n+1,out=>if (cD d d.next.length 0 out false).2=true then pg d n (cD d d.next.length 0 out false).1 else (cD d d.next.length 0 out false).1
def bK (d:cn):List Bool:=pg d (d.next.length+1) (List.replicate d.next.length false)
theorem uf:∀(out:List Bool) (k:Nat) (b:Bool),out[k]? =some false->gi (out.set k b)+(if b then 1 else 0)=gi out
 | [],k,b,h=>by simp at h
 |x::r,0,b,h=>by simp at h;subst h;cases b<;>simp[gi]
 |x::r,k+1,b,h=>by
  have:=uf r k b (by simpa using h);unfold gi at this ⊢;rw[List.set_cons_succ];cases x<;>simp at this ⊢ <;>omega
theorem gD (d:cn):∀(n k:Nat) (out:List Bool) (ag:Bool),(cD d n k out ag).1.length=out.length
 | 0,_,_,_=>rfl
 |n+1,k,out,ag=>by
  rw[cD];split
  · exact gD d n _ _ _
  · rw[gD d n];simp
theorem gY (d:cn):∀(n k:Nat) (out:List Bool) (ag:Bool),k+n<=out.length->gi (cD d n k out ag).1<=gi out/\((cD d n k out ag).2=true->ag=true\/gi (cD d n k out ag).1<gi out)
 | 0,_,out,ag,_=>⟨Nat.le_refl _,fun h=>.inl h⟩
 |n+1,k,out,ag,hk=>by
  rw[cD];split
  · exact gY d n (k+1) out ag (by omega)
  · rename_i h
    have hf:out[k]? =some false:=by
     rw[List.getD_eq_getElem?_getD,List.getElem?_eq_getElem (by omega)] at h;rw[List.getElem?_eq_getElem (by omega)];simpa using h
    have h1:=uf out k (dK d out k) hf;have h2:=gY d n (k+1) (out.set k (dK d out k)) (ag ||dK d out k) (by simp;omega);refine⟨by omega,fun ht=>?_⟩
    rcases h2.2 ht with h3|h3
    · cases hb:dK d out k with
      |true=>rw[hb,if_pos rfl] at h1;right;rw[hb] at h2;omega
      |false=>rw[hb,Bool.or_false] at h3;exact .inl h3
    · right;omega
end Go.Proofs.YtmehdcdbeafljaaGreatDoor
namespace Go.Proofs.YtmehdcdbeafljaaGreatDoor
open Go.Proofs.Tryz
open Go Go.Lw
set_option maxRecDepth 20000
theorem zO (r:Row):over (List.replicate 256 (Value.int .i64 0)) 0 (cq r)=cq r:=by
 unfold over;rw[List.take_zero,List.nil_append,kY,List.drop_of_length_le (by simp),List.append_nil]
theorem Bu {h:aA}{db:Nat}{d:cn}(k:nR h db d) (hok:d.Ok) :
 ah Tryz.prog 56 #[.pointer (some ⟨db,0,none⟩)] h (cM fun r h'=>cR Value.bool h' h.size 4 r (bK d)/\aC h h'):=by
 obtain⟨vn,vr,hk,⟨na,nn,nc,rfl,hnl,hnc,hnm,hgetn⟩,⟨ra,rn,rc,rfl,hrl,hrc,hrm,hgetr⟩⟩:=k;have hlen:=hok.len;have hsize:=hok.size;have hslN:bX CC h (fun _=>False) (.slice na nn nc) d.next:=⟨_,_,_,rfl,hnl,hnc,hnm,hgetn⟩
 have hslR:bX (.int .i64) h (fun _=>False) (.slice ra rn rc) d.rule:=⟨_,_,_,rfl,hrl,hrc,hrm,hgetr⟩
 subst hnl;generalize htgt:bK d=tgt;refine ah.of func56 rfl rfl ?_;refine bf func56 1 [0,2] rfl ?_;refine bl func56 2 rfl ?_;refine xp rfl (af (off:=0) underlying149 rfl rfl H.jZ rfl) ?_;refine xp rfl (ai H.pW rfl (hk.cell (i:=0) rfl)) ?_;refine xp rfl (aj.aS underlying147 rfl) ?_;refine xo rfl (az.pe underlying157 H.Nk H.Nb rfl rfl rfl (by omega) (by decide)) ?_;rintro _ h1 ⟨rfl,k1,e1⟩;have k1:cR Value.bool h1 h.size 4 (.slice (some ⟨h.size,0,none⟩) d.next.length d.next.length) (List.replicate d.next.length false):=by unfold cR;simpa using k1
 have hf0:gi (List.replicate d.next.length false)<=d.next.length:=by unfold gi;exact Nat.le_trans (List.length_filter_le _ _) (by simp)
 refine aN 1 [0,2,3] rfl ?_;refine av rfl ?_;refine bf func56 1 [0,2,3,4] rfl ?_;refine G.block rfl rfl ?_;refine bO (σ:=Nat×Bool×List Bool) (fun q=>[(0,.pointer (some ⟨db,0,none⟩)),(3,.slice (some ⟨h.size,0,none⟩) d.next.length d.next.length),(4,.bool q.2.1)]) (fun q h'=>aC h h'/\cR Value.bool h' h.size 4 (.slice (some ⟨h.size,0,none⟩) d.next.length d.next.length) q.2.2/\q.2.2.length=d.next.length/\(q.2.1=true->gi q.2.2<q.1/\pg d q.1 q.2.2=tgt)/\(q.2.1=false->q.2.2=tgt)) (fun q=>q.1+(if q.2.1 then 1 else 0)) ((d.next.length+1,true,List.replicate d.next.length false)) rfl ⟨rfl,rfl,rfl,trivial⟩ ⟨e1,k1,by simp,fun _=>⟨Nat.lt_succ_of_le hf0,htgt⟩,fun k=>(by cases k)⟩ ?_;rintro⟨n,ag,out⟩ g ⟨eg,ho,hol,hT,hF⟩ ih
 try dsimp only
 dsimp only at ho hol hT hF;refine av rfl ?_;refine bf func56 1 [0,3,4,15] rfl ?_;refine aJ rfl rfl (fun hag=>?_) (fun hag=>?_)
 · subst hag;obtain⟨hfn,hcon⟩:=hT rfl;obtain⟨n,rfl⟩:∃m,n=m+1:=⟨n-1,by omega⟩
   rw[pg] at hcon;have hless:=gY d d.next.length 0 out false (by omega)
   generalize hps:cD d d.next.length 0 out false=ps at hcon hless
   refine aB rfl ?_;refine G.block rfl rfl ?_;refine bf func56 1 [0,3,4,15] rfl ?_;refine bl func56 2 rfl ?_;refine xp rfl (af (off:=0) underlying149 rfl rfl H.jZ rfl) ?_;refine xp rfl (ai H.pW rfl ((hk.ax eg).cell (i:=0) rfl)) ?_;refine xp rfl (aj.aS underlying147 rfl) ?_;refine aN 1 [0,3,4,15,19,20,21] rfl ?_;refine G.block rfl rfl ?_;refine bO (σ:=Nat×Bool×List Bool) (fun q=>[(0,.pointer (some ⟨db,0,none⟩)),(3,.slice (some ⟨h.size,0,none⟩) d.next.length d.next.length),(4,.bool q.2.1),(19,.slice na d.next.length nc),(20,.int .i64 (d.next.length:Nat)),(21,.int .i64 (q.1:Nat))]) (fun q h'=>aC h h'/\cR Value.bool h' h.size 4 (.slice (some ⟨h.size,0,none⟩) d.next.length d.next.length) q.2.2/\q.2.2.length=d.next.length/\q.1<=d.next.length/\cD d (d.next.length-q.1) q.1 q.2.2 q.2.1=ps) (fun q=>d.next.length-q.1) ((0,false,out)) rfl ⟨rfl,rfl,rfl,rfl,rfl,rfl,trivial⟩ ⟨eg,ho,hol,Nat.zero_le _,hps⟩ ?_;rintro⟨k,ag,out⟩ g2 ⟨eg2,ho,hol,hkl,hcon2⟩ ih2
   try dsimp only
   dsimp only at ho hol hkl hcon2;refine bf func56 1 [0,3,4,19,20,21,22] rfl ?_;refine av rfl ?_;refine aM rfl rfl (fun hlt=>?_) (fun hlt=>?_)
   · have hkN:k<d.next.length:=by omega
     obtain⟨m,hm⟩:∃m,d.next.length-k=m+1:=⟨d.next.length-k-1,by omega⟩
     rw[hm,cD] at hcon2;obtain⟨r,hr⟩:∃r,d.next[k]? =some r:=⟨_,List.getElem?_eq_getElem hkN⟩
     obtain⟨oa',n',c',hv',_,_,_,hgetn⟩:=id (hslN.mv (Mv.ax eg2));cases hv';obtain⟨b1,o1,cs1,ha1,_,hrow1,rfl⟩:=hgetn k r hr;have hone:∀u∈cq r,u.oneCell'=true:=fun u hu=>by simp[cq] at hu;obtain⟨_,_,rfl⟩:=hu;rfl
     obtain⟨bx,hbx⟩:∃bx,out[k]? =some bx:=⟨_,List.getElem?_eq_getElem (by omega)⟩
     have hgd:out.getD k false=bx:=by rw[List.getD_eq_getElem?_getD,hbx];rfl
     rw[hgd] at hcon2;refine aB rfl ?_;refine av rfl ?_;refine G.block rfl rfl ?_;refine bl func56 1 rfl ?_;refine xp rfl (aj.aH underlying147 H.jY rfl rfl k rfl ha1 (by omega)) ?_;refine xp rfl (aj.aE H.uK H.jY rfl hrow1 (by first|rfl|(simp;done)|(simp;omega))) ?_;refine xo rfl (az.aQ H.B6) ?_;rintro _ g3 ⟨rfl,k6,e3,z3⟩;have k6:bh g3 g2.size 153 (List.replicate 256 (Value.int .i64 0)):=k6;refine aV 1 rfl ?_;refine RW.bB rfl rfl rfl (az.au H.jY rfl rfl k6 (by first|rfl|(simp;done)|(simp;omega)) (by first|decide|exact of_decide_eq_true rfl|(simp;done)|(simp;omega)) (hone)) ?_;rintro _ g4 ⟨rfl,k7,x7,z7⟩;have k7:bh g4 g2.size 153 (cq r):=by rw[<-zO r];exact k7
     have e4:aC g2 g4:=aC.only e3 x7 (Nat.le_refl _);have eg4:=eg2.trans e4;have ho4:=cR.ax ho e4;obtain⟨gg,c4,hv4,hgb,hglt,hcell,hfz,hset⟩:=ho4.at hbx;rw[hol] at hv4;cases hv4;refine xd [0,3,4,5,6,19,20,21,22] rfl ?_;refine av rfl ?_;refine bl func56 2 rfl ?_;refine xp rfl (aj.aH underlying157 H.lN rfl rfl k rfl rfl (by omega)) ?_;refine xp rfl (ai H.uJ rfl hcell) ?_;refine xd [0,3,4,5,6,19,20,21,22,29] rfl ?_;refine aJ rfl rfl (fun hb=>?_) (fun hb=>?_)
     · subst hb;rw[if_pos rfl] at hcon2;refine bD rfl rfl ?_;refine G.cz func56 rfl ?_;refine xp rfl (aj.bJ rfl rfl ⟨by omega,by omega⟩) ?_;refine aN 1 [0,3,4,5,6,19,20,21,22,29] rfl ?_;exact ih2 (k+1,ag,out) _ _ ⟨rfl,rfl,rfl,rfl,rfl,rfl,trivial⟩ ⟨eg4,ho4,hol,hkN,by show cD d (d.next.length-(k+1)) _ _ _=ps;rw[show d.next.length-(k+1)=m by omega];exact hcon2⟩ (by show d.next.length-(k+1)<d.next.length-k;omega)
     · subst hb;rw[if_neg (by decide)] at hcon2;obtain⟨x,hx⟩:∃x,d.rule[k]? =some x:=⟨_,List.getElem?_eq_getElem (by omega)⟩
       have hru:d.ru k=x:=by unfold cn.ru;rw[List.getD_eq_getElem?_getD,hx];rfl
       have hrow:d.row k=r.v:=by unfold cn.row;rw[hr]
       obtain⟨oa',n',c',hv',_,_,_,hgetr⟩:=id (hslR.mv (Mv.ax eg4));cases hv';obtain⟨b2,o2,cs2,ha2,_,hrow2,rfl⟩:=hgetr k x hx;refine aB rfl ?_;refine bl func56 4 rfl ?_;refine xp rfl (af (off:=1) underlying149 rfl rfl H.gK rfl) ?_;refine xp rfl (ai H.nQ rfl ((hk.ax eg4).cell (i:=1) rfl)) ?_;refine cI 1 rfl rfl (aj.aH underlying127 H.bV rfl rfl k rfl ha2 (by omega)) ?_;refine xp rfl (ai H.cK rfl (hrow2 0 _ rfl)) ?_;refine cI 1 rfl rfl (aj.aH underlying157 H.lN rfl rfl k rfl rfl (by omega)) ?_;refine RW.bB rfl rfl rfl (cH H.lN rfl rfl rfl hcell hfz) ?_;rintro _ g5 ⟨rfl,hg5⟩;have hset:=hset (decide (0<=x));rw[<-hg5] at hset;have x5:Ext (fun b=>b=h.size) g4 g5:=by rw[hg5];exact Ext.ew _ _ _ rfl
       have e5:aC h g5:=aC.only eg4 x5 (Nat.le_refl _);have hz2:=eg2.size;have hlt2:h.size<g2.size:=(aT.lt ho rfl).2;have k8:=k7.ext x5 (by show ¬_=_;omega);refine xd [0,3,4,5,6,19,20,21,22,29] rfl ?_;refine av rfl ?_;refine xr func56 rfl ?_;refine xp rfl (aj.aE H.uK H.jY rfl k8.row (by first|rfl|(simp;done)|(simp;omega))) ?_;refine aN 1 [0,3,4,5,6,19,20,21,22,29,41,42] rfl ?_;refine G.block rfl rfl ?_;refine bO (σ:=Nat) (fun j=>[(0,.pointer (some ⟨db,0,none⟩)),(3,.slice (some ⟨h.size,0,none⟩) d.next.length d.next.length),(4,.bool ag),(5,.int .i64 (k:Nat)),(19,.slice na d.next.length nc),(20,.int .i64 (d.next.length:Nat)),(21,.int .i64 (k:Nat)),(41,.agg (cq r).toArray),(42,.int .i64 (j:Nat))]) (fun j h'=>aC h h'/\cR Value.bool h' h.size 4 (.slice (some ⟨h.size,0,none⟩) d.next.length d.next.length) (out.set k (decide (0<=x) ||(r.v.take j).any (fZ out)))/\j<=256) (fun j=>256-j) (0) rfl ⟨rfl,rfl,rfl,rfl,rfl,rfl,rfl,rfl,rfl,trivial⟩ ⟨e5,by simpa using hset,Nat.zero_le _⟩ ?_;rintro j g6 ⟨eg6,ho6,hj⟩ ih3;refine bf func56 1 [0,3,4,5,19,20,21,41,42,43] rfl ?_;refine av rfl ?_;refine aM rfl rfl (fun hlt3=>?_) (fun hlt3=>?_)
       · have hj2:j<256:=by omega
         obtain⟨t,ht⟩:∃t,r.v[j]? =some t:=⟨_,List.getElem?_eq_getElem (by rw[r.len];exact hj2)⟩
         have htr:(r.v.take (j+1)).any (fZ out)=((r.v.take j).any (fZ out) ||fZ out t):=by rw[List.take_add_one,ht,List.any_append];simp
         have htm:=hok.to r (List.mem_of_getElem? hr) t (List.mem_of_getElem? ht);generalize hc:(decide (0<=x) ||(r.v.take j).any (fZ out))=cb at ho6;have hcell6:(out.set k cb)[k]? =some cb:=by rw[List.getElem?_set_self (by rw[hol];exact hkN)]
         obtain⟨gg,c6,hv6,_,_,hcc6,hfz6,hset6⟩:=ho6.at hcell6;rw[List.length_set,hol] at hv6;cases hv6
         have fin:∀y g7,y=(decide (0<=x) ||(r.v.take (j+1)).any (fZ out))->g7=ew g6 ⟨h.size,0+k*1,none⟩ (.bool y)->aC h g7/\cR Value.bool g7 h.size 4 (.slice (some ⟨h.size,0,none⟩) d.next.length d.next.length) (out.set k (decide (0<=x) ||(r.v.take (j+1)).any (fZ out)))/\j+1<=256:=by
          rintro y g7 rfl rfl;have k9:=hset6 (decide (0<=x) ||(r.v.take (j+1)).any (fZ out));rw[List.set_set] at k9;exact⟨aC.only eg6 (Ext.ew (M:=fun b=>b=h.size) g6 _ _ rfl) (Nat.le_refl _),k9,hj2⟩
         refine aB rfl ?_;refine av rfl ?_;refine G.block rfl rfl ?_;refine xr func56 rfl ?_;refine xp rfl (aj.tM underlying153 H.bV H.cK rfl rfl j rfl hj2 (show (cq r).toArray[j]? =some (Value.int .i64 t) by simp[cq,ht])) ?_;refine aN 1 [0,3,4,5,8,19,20,21,41,42,43] rfl ?_;refine G.cz func56 rfl ?_;refine cI 4 rfl rfl (aj.aH underlying157 H.lN rfl rfl k rfl rfl (by omega)) ?_;refine xp rfl (ai H.uJ rfl hcc6) ?_;refine aV 1 rfl ?_;refine aL (d:=51) rfl (fun hg=>?_) (fun hg=>?_)
         · refine cI 9 rfl rfl (aj.aH underlying157 H.lN rfl rfl k rfl rfl (by omega)) ?_;refine RW.bB rfl rfl rfl (cH H.lN rfl rfl rfl hcc6 hfz6) ?_;rintro _ g7 ⟨rfl,hg7⟩;refine xd [0,3,4,5,8,19,20,21,41,42,43] rfl ?_;refine G.aR ?_;refine G.cz func56 rfl ?_;refine xp rfl (aj.bJ rfl rfl ⟨by omega,by omega⟩) ?_;refine aN 1 [0,3,4,5,8,19,20,21,41,42,43] rfl ?_;exact ih3 (j+1) _ _ ⟨rfl,rfl,rfl,rfl,rfl,rfl,rfl,rfl,rfl,trivial⟩ (fin true g7 (by rw[htr,<-Bool.or_assoc,hc,hg];rfl) hg7) (by omega)
         · refine aV 3 rfl ?_;refine aL (d:=54) rfl (fun hg2=>?_) (fun hg2=>?_)
           · have hg2':=of_decide_eq_true hg2;obtain⟨t2,rfl⟩:=Int.eq_ofNat_of_zero_le hg2';obtain⟨bt,hbt⟩:∃bt,(out.set k cb)[t2]? =some bt:=⟨_,List.getElem?_eq_getElem (by rw[List.length_set,hol];omega)⟩
             obtain⟨gg,c6,hv6,_,_,hct,_,_⟩:=ho6.at hbt;rw[List.length_set,hol] at hv6;cases hv6
             have hlt2:fZ out (t2:Nat)=bt:=by
              unfold fZ;rw[decide_eq_true (show (0:Int)<=(t2:Nat) by omega),Bool.true_and,Int.toNat_natCast,List.getD_eq_getElem?_getD]
              by_cases e:k=t2
              · subst e;rw[hcell6] at hbt;cases hbt;rw[hbx,hg];rfl
              · rw[List.getElem?_set_ne e] at hbt;rw[hbt];rfl
             refine cI 2 rfl rfl (aj.aH underlying157 H.lN rfl rfl t2 rfl rfl (by omega)) ?_;refine xp rfl (ai H.uJ rfl hct) ?_;refine cI 2 rfl rfl (aj.aH underlying157 H.lN rfl rfl k rfl rfl (by omega)) ?_;refine RW.bB rfl rfl rfl (cH H.lN rfl rfl rfl hcc6 hfz6) ?_;rintro _ g7 ⟨rfl,hg7⟩;refine xd [0,3,4,5,8,19,20,21,41,42,43] rfl ?_;refine G.aR ?_;refine G.cz func56 rfl ?_;refine xp rfl (aj.bJ rfl rfl ⟨by omega,by omega⟩) ?_;refine aN 1 [0,3,4,5,8,19,20,21,41,42,43] rfl ?_;exact ih3 (j+1) _ _ ⟨rfl,rfl,rfl,rfl,rfl,rfl,rfl,rfl,rfl,trivial⟩ (fin bt g7 (by rw[htr,<-Bool.or_assoc,hc,hg,hlt2,Bool.false_or]) hg7) (by omega)
           · have hg2':=of_decide_eq_false hg2;refine cI 6 rfl rfl (aj.aH underlying157 H.lN rfl rfl k rfl rfl (by omega)) ?_;refine RW.bB rfl rfl rfl (cH H.lN rfl rfl rfl hcc6 hfz6) ?_;rintro _ g7 ⟨rfl,hg7⟩;refine xd [0,3,4,5,8,19,20,21,41,42,43] rfl ?_;refine G.aR ?_;refine G.cz func56 rfl ?_;refine xp rfl (aj.bJ rfl rfl ⟨by omega,by omega⟩) ?_;refine aN 1 [0,3,4,5,8,19,20,21,41,42,43] rfl ?_;exact ih3 (j+1) _ _ ⟨rfl,rfl,rfl,rfl,rfl,rfl,rfl,rfl,rfl,trivial⟩ (fin false g7 (by rw[htr,<-Bool.or_assoc,hc,hg];unfold fZ;rw[decide_eq_false hg2'];rfl) hg7) (by omega)
       · have hje:j=256:=by omega
         have hla:(decide (0<=x) ||(r.v.take j).any (fZ out))=dK d out k:=by
          unfold dK;rw[hru,hrow,hje,List.take_of_length_le (by rw[r.len];exact Nat.le_refl _)]
         rw[hla] at ho6;have hcell6:(out.set k (dK d out k))[k]? =some (dK d out k):=by rw[List.getElem?_set_self (by rw[hol];exact hkN)]
         obtain⟨gg,c6,hv6,_,_,hcc6,hfz6,_⟩:=ho6.at hcell6;rw[List.length_set,hol] at hv6;cases hv6;refine bD rfl rfl ?_;refine G.bw [(4,.bool (ag ||dK d out k))] [(0,_),(3,_),(5,_),(19,_),(20,_),(21,_),(41,_),(42,_),(43,_)] ⟨rfl,rfl,rfl,rfl,rfl,rfl,rfl,rfl,rfl,trivial⟩ func56 rfl ?_ ?_
         · refine aV 2 rfl ?_;refine aL (d:=64) rfl (fun hg=>?_) (fun hg=>?_)
           · refine aV 6 rfl ?_;refine aD rfl ?_;exact⟨rfl,aF rfl (by rw[hg];rfl),rfl,rfl,rfl,rfl,rfl,rfl,rfl,rfl,rfl,trivial⟩
           · refine cI 2 rfl rfl (aj.aH underlying157 H.lN rfl rfl k rfl rfl (by omega)) ?_;refine xp rfl (ai H.uJ rfl hcc6) ?_;refine aV 2 rfl ?_;refine aD rfl ?_;exact⟨rfl,aF rfl (by rw[hg];rfl),rfl,rfl,rfl,rfl,rfl,rfl,rfl,rfl,rfl,trivial⟩
         · refine G.aR ?_;refine G.cz func56 rfl ?_;refine xp rfl (aj.bJ rfl rfl ⟨by omega,by omega⟩) ?_;refine aN 1 [0,3,4,5,19,20,21,41,42,43] rfl ?_;exact ih2 (k+1,ag ||dK d out k,out.set k (dK d out k)) _ _ ⟨rfl,rfl,rfl,rfl,rfl,rfl,trivial⟩ ⟨eg6,ho6,by show (out.set k _).length=_;rw[List.length_set];exact hol,hkN,by show cD d (d.next.length-(k+1)) _ _ _=ps;rw[show d.next.length-(k+1)=m by omega];exact hcon2⟩ (by show d.next.length-(k+1)<d.next.length-k;omega)
   · have hke:d.next.length-k=0:=by omega
     rw[hke,cD] at hcon2;subst hcon2;simp only at hcon hless;refine bD rfl rfl ?_;refine G.aR ?_
     exact ih (n,ag,out) _ _ ⟨rfl,rfl,rfl,trivial⟩ ⟨eg2,ho,hol,fun ht=>by
      subst ht;rw[if_pos rfl] at hcon
      rcases hless.2 rfl with k|k
      · cases k
      · exact⟨by show gi out<n;omega,hcon⟩,fun hf=>by
      subst hf;rw[if_neg (by decide)] at hcon;exact hcon⟩ (by show n+(if ag=true then 1 else 0)<n+1+(if true=true then 1 else 0);rw[if_pos rfl];split<;>omega)
 · subst hag;have hcon:=hF rfl;refine bD rfl rfl ?_;refine bf func56 2 [0,2,3,4,15] rfl ?_;refine G.ret func56 rfl rfl ?_;exact⟨_,rfl,by rw[<-hcon];unfold cR at ho ⊢;rw[hol] at ho ⊢;exact ho,eg⟩
end Go.Proofs.YtmehdcdbeafljaaGreatDoor
namespace Go.Proofs.YtmehdcdbeafljaaGreatDoor
open Go
def jD:Nat->List (List Int)->List Int->Option Nat
 |_,[],_=>none
 |i,x::r,l=>if l=x then some i else jD (i+1) r l
theorem oy:∀(ls:List (List Int)) (i j:Nat) (l:List Int),jD i ls l=some j->i<=j/\ls[j-i]? =some l
 | [],i,j,l,h=>by cases h
 |x::r,i,j,l,h=>by
  rw[jD] at h;split at h
  · rename_i e;cases h;subst e;exact⟨Nat.le_refl _,by simp⟩
  · have:=oy r (i+1) j l h;refine⟨by omega,?_⟩;rw[show j-i=(j-(i+1))+1 by omega,List.getElem?_cons_succ];exact this.2
def cJ (live:List Bool) (cls:List Int) (t:Int):Int:=if t<0\/live.getD t.toNat false=false then -2 else cls.getD t.toNat 0
def fA (d:cn) (live:List Bool) (cls:List Int) (k:Nat):List Int:=cls.getD k 0::(d.row k).map (cJ live cls)
def bF (d:cn) (live:List Bool) (cls:List Int):Nat->Nat->List (List Int)->List Int->List (List Int)×List Int
 | 0,_,seen,after=>(seen,after)
 |n+1,k,seen,after =>
  match jD 0 seen (fA d live cls k) with
  |some i=>bF d live cls n (k+1) seen (after++[(i:Int)])
  |none=>bF d live cls n (k+1) (seen++[fA d live cls k]) (after++[(seen.length:Int)])
def jS (d:cn) (live:List Bool):Nat->Nat->List Int->List Int
 | 0,_,cls=>cls
 |n+1,many,cls =>
  if (bF d live cls d.next.length 0 [] []).1.length=many then (bF d live cls d.next.length 0 [] []).2
  else jS d live n (bF d live cls d.next.length 0 [] []).1.length (bF d live cls d.next.length 0 [] []).2
def ef (d:cn) (live:List Bool):List Int:=jS d live (d.next.length+1) 0 d.rule
def jt (m:Nat) (l:List Int):Prop:=∀i,i<m->(i:Int)∈l
theorem oB:∀(m:Nat) (l:List Int),jt m l->m<=l.length
 | 0,_,_=>Nat.zero_le _
 |m+1,l,h=>by
  have hm:=h m (Nat.lt_succ_self m);have h1:jt m (l.erase (m:Int)):=fun i hi=>(List.mem_erase_of_ne (by omega)).2 (h i (by omega))
  have h2:=oB m _ h1;have h3:=List.length_erase_of_mem hm;have h4:0<l.length:=List.length_pos_of_mem hm;omega
structure BY (d:cn) (live:List Bool) (cls:List Int) (k:Nat) (seen:List (List Int)) (after:List Int):Prop where
 len:after.length=k
 size:seen.length<=k
 nY:jt seen.length after
 bound:∀x∈after,0<=x/\x<seen.length
 all:∀j,j<k->fA d live cls j∈seen
theorem lq {d:cn}{live:List Bool}{cls:List Int}:∀(n k:Nat) (seen:List (List Int)) (after:List Int),BY d live cls k seen after->BY d live cls (k+n) (bF d live cls n k seen after).1 (bF d live cls n k seen after).2
 | 0,k,seen,after,h=>h
 |n+1,k,seen,after,h=>by
  rw[bF,show k+(n+1)=(k+1)+n by omega];split
  · rename_i i hi;have hi':=oy seen 0 i _ hi;have hil:=(List.getElem?_eq_some_iff.1 hi'.2).1
    exact lq n (k+1) _ _ ⟨by simp[h.len],by have:=h.size;omega,fun j hj=>List.mem_append_left _ (h.nY j hj),fun x hx=>by
     rcases List.mem_append.1 hx with e|e
     · exact h.bound x e
     · have:x=(i:Int):=by simpa using e
       rw[this];omega,fun j hj=>by
     by_cases e:j=k
     · subst e;exact List.mem_of_getElem? hi'.2
     · exact h.all j (by omega)⟩
  · exact lq n (k+1) _ _ ⟨by simp[h.len],by have:=h.size;simp;omega,fun j hj=>by
     simp only[List.length_append,List.length_singleton] at hj
     by_cases e:j=seen.length
     · subst e;simp
     · exact List.mem_append_left _ (h.nY j (by omega)),fun x hx=>by
     simp only[List.length_append,List.length_singleton]
     rcases List.mem_append.1 hx with e|e
     · have:=h.bound x e;omega
     · have:x=(seen.length:Int):=by simpa using e
       omega,fun j hj=>by
     by_cases e:j=k
     · subst e;simp
     · exact List.mem_append_left _ (h.all j (by omega))⟩
theorem eW (d:cn) (live:List Bool) (cls:List Int):BY d live cls d.next.length (bF d live cls d.next.length 0 [] []).1 (bF d live cls d.next.length 0 [] []).2:=by
 have:=lq (d:=d) (live:=live) (cls:=cls) d.next.length 0 [] [] ⟨rfl,Nat.le_refl _,fun i hi=>absurd hi (Nat.not_lt_zero _),fun x hx=>(by cases hx),fun j hj=>absurd hj (Nat.not_lt_zero _)⟩
 rwa [Nat.zero_add] at this
theorem mG {d:cn}{live:List Bool}{cls:List Int}{many:Nat}(hc:jt many cls) (hl:cls.length=d.next.length):many<=(bF d live cls d.next.length 0 [] []).1.length:=by
 have h:=eW d live cls
 have:jt many ((bF d live cls d.next.length 0 [] []).1.map fun s=>s.getD 0 0):=fun i hi=>by
  obtain⟨k,hk⟩:=List.getElem?_of_mem (hc i hi);have hkl:=(List.getElem?_eq_some_iff.1 hk).1;have:=h.all k (by omega);refine List.mem_map.2 ⟨_,this,?_⟩;simp[fA,List.getD_eq_getElem?_getD,hk]
 have:=oB _ _ this;simpa using this
end Go.Proofs.YtmehdcdbeafljaaGreatDoor
namespace Go.Proofs.YtmehdcdbeafljaaGreatDoor
open Go.Proofs.Tryz
open Go Go.Lw
set_option maxRecDepth 20000
section
variable {live:List Bool}{cls:List Int}
def gL:Nat->List (List Int)->List (ByteArray×Int)
 |_,[]=>[]
 |i,x::r=>(bs (gu x),(i:Int))::gL (i+1) r
theorem sG:∀(ls:List (List Int)) (i:Nat) (l:List Int),gL i (ls++[l])=gL i ls++[(bs (gu l),((i+ls.length:Nat):Int))]
 | [],i,l=>by simp[gL]
 |x::r,i,l=>by
  simp only[List.cons_append,gL];rw[sG r (i+1) l,List.length_cons,show i+1+r.length=i+(r.length+1) by omega]
theorem qj:∀(ls:List (List Int)) (i:Nat),(gL i ls).length=ls.length
 | [],_=>rfl
 |x::r,i=>by rw[gL,List.length_cons,List.length_cons,qj r (i+1)]
theorem kF:∀(ls:List (List Int)) (i:Nat) (l:List Int),kJ (bs (gu l)) (gL i ls)=(jD i ls l).map fun j=>(j:Int)
 | [],i,l=>rfl
 |x::r,i,l=>by
  rw[gL,kJ,jD]
  by_cases h:l=x
  · subst h;rw[if_pos rfl,if_pos rfl];rfl
  · have hk:¬bs (gu l)=bs (gu x):=fun e=>h (key_inj (bZ e))
    rw[if_neg hk,if_neg h];exact kF r (i+1) l
theorem uC {t:Int}(h:t<0\/live.getD t.toNat false=false):cJ live cls t= -2:=if_pos h
theorem BT {t:Int}(h:¬(t<0\/live.getD t.toNat false=false)):cJ live cls t=cls.getD t.toNat 0:=if_neg h
theorem rj (hcb:∀x∈cls,-1<=x/\x<=1000000) (k:Nat) : -1<=cls.getD k 0/\cls.getD k 0<=1000000:=by
 rw[List.getD_eq_getElem?_getD];cases hk:cls[k]? with
 |none=>simp
 |some x=>exact hcb x (List.mem_of_getElem? hk)
theorem wX {d:cn}(hcb:∀x∈cls,-1<=x/\x<=1000000) (k:Nat):∀x∈fA d live cls k,-9223372036854775808<=x/\x<=9223372036854775807:=by
 intro x hx
 rcases List.mem_cons.1 hx with e|e
 · have:=rj hcb k;omega
 · obtain⟨t,_,rfl⟩:=List.mem_map.1 e;unfold cJ;split
   · omega
   · have:=rj hcb t.toNat;omega
theorem tZ:∀(ls:List (List Int)) (i:Nat) (l:List Int),jD i ls l=none->jD i (ls++[l]) l=some (i+ls.length)
 | [],i,l,_=>by simp[jD]
 |x::r,i,l,h=>by
  rw[jD] at h;split at h
  · cases h
  · rename_i hn;rw[List.cons_append,jD,if_neg hn,tZ r (i+1) l h,List.length_cons]
    congr 1;omega
theorem vB {h:aA}{db:Nat}{d:cn}{lv:Value}(htens:qG h) (k:nR h db d) (hok:d.Ok) (hlv:bX .bool h (fun _=>False) lv live) (hll:live.length=d.next.length) :
 ah Tryz.prog 57 #[.pointer (some ⟨db,0,none⟩),lv] h (cM fun r h'=>cR (Value.int .i64) h' h.size 3 r (ef d live)/\aC h h'):=by
 obtain⟨vn,vr,hk,⟨na,nn,nc,rfl,hnl,hnc,hnm,hgetn⟩,⟨ra,rn,rc,rfl,hrl,hrc,hrm,hgetr⟩⟩:=k;obtain⟨va,vm,vc,rfl,hvl,hvc,hvm,hgetv⟩:=hlv;have hlen:=hok.len;have hsize:=hok.size;have hslN:bX CC h (fun _=>False) (.slice na nn nc) d.next:=⟨_,_,_,rfl,hnl,hnc,hnm,hgetn⟩
 have hslR:bX (.int .i64) h (fun _=>False) (.slice ra rn rc) d.rule:=⟨_,_,_,rfl,hrl,hrc,hrm,hgetr⟩
 have hslV:bX .bool h (fun _=>False) (.slice va vm vc) live:=⟨_,_,_,rfl,hvl,hvc,hvm,hgetv⟩
 subst hnl;generalize htgt:ef d live=tgt;refine ah.of func57 rfl rfl ?_;refine bf func57 1 [0,1,4] rfl ?_;refine bl func57 2 rfl ?_;refine xp rfl (af (off:=0) underlying149 rfl rfl H.jZ rfl) ?_;refine xp rfl (ai H.pW rfl (hk.cell (i:=0) rfl)) ?_;refine xp rfl (aj.aS underlying147 rfl) ?_;refine xo rfl (az.pe underlying127 H.pP H.Nc rfl rfl rfl (by omega) (by decide)) ?_;rintro _ h1 ⟨rfl,k1,e1⟩;have k1:cR (Value.int .i64) h1 h.size 3 (.slice (some ⟨h.size,0,none⟩) d.next.length d.next.length) (List.replicate d.next.length 0):=by unfold cR;simpa using k1
 refine aN 1 [0,1,4,5] rfl ?_;refine av rfl ?_;refine bl func57 1 rfl ?_;refine xp rfl (aj.aS underlying127 rfl) ?_;refine aN 1 [0,1,4,5,25,26] rfl ?_;refine G.block rfl rfl ?_;refine bO (σ:=Nat) (fun i=>[(0,.pointer (some ⟨db,0,none⟩)),(1,.slice va vm vc),(5,.slice (some ⟨h.size,0,none⟩) d.next.length d.next.length),(25,.int .i64 (d.next.length:Nat)),(26,.int .i64 (i:Nat))]) (fun i h'=>aC h h'/\cR (Value.int .i64) h' h.size 3 (.slice (some ⟨h.size,0,none⟩) d.next.length d.next.length) (d.rule.take i++List.replicate (d.next.length-i) 0)/\i<=d.next.length) (fun i=>d.next.length-i) (0) rfl ⟨rfl,rfl,rfl,rfl,rfl,trivial⟩ ⟨e1,by simpa using k1,Nat.zero_le _⟩ ?_;rintro i g ⟨eg,ho,hi⟩ ih;refine bf func57 1 [0,1,5,25,26,27] rfl ?_;refine av rfl ?_;refine aM rfl rfl (fun hlt=>?_) (fun hlt=>?_)
 · have hiN:i<d.next.length:=by omega
   obtain⟨x,hx⟩:∃x,d.rule[i]? =some x:=⟨_,List.getElem?_eq_getElem (by omega)⟩
   have hxe:d.rule[i]'(by omega)=x:=(List.getElem?_eq_some_iff.1 hx).2;obtain⟨oa',n',c',hv',_,_,_,hgetr⟩:=id (hslR.mv (Mv.ax eg));cases hv';obtain⟨b2,o2,cs2,ha2,_,hrow2,rfl⟩:=hgetr i x hx;obtain⟨gg,c4,hv4,hgb,hglt,hcell,hfz,hset⟩:=ho.at (FL (z:=(0:Int)) hlen hiN);rw[FK hlen hi] at hv4;cases hv4;refine aB rfl ?_;refine av rfl ?_;refine G.block rfl rfl ?_;refine bf func57 2 [0,1,5,6,25,26,27] rfl ?_;refine G.cz func57 rfl ?_;refine cI 4 rfl rfl (af (off:=1) underlying149 rfl rfl H.gK rfl) ?_;refine xp rfl (ai H.nQ rfl ((hk.ax eg).cell (i:=1) rfl)) ?_;refine cI 1 rfl rfl (aj.aH underlying127 H.bV rfl rfl i rfl ha2 (by omega)) ?_;refine xp rfl (ai H.cK rfl (hrow2 0 _ rfl)) ?_;refine xp rfl (aj.aH underlying127 H.bV rfl rfl i rfl rfl (by omega)) ?_;refine RW.bB rfl rfl rfl (cH H.bV rfl rfl rfl hcell hfz) ?_;rintro _ g2 ⟨rfl,hg2⟩;have hset:=hset x;rw[<-hg2,<-hxe,FJ hlen hiN] at hset;have x2:Ext (fun b=>b=h.size) g g2:=by rw[hg2];exact Ext.ew _ _ _ rfl
   have e2:aC h g2:=aC.only eg x2 (Nat.le_refl _);refine xd [0,1,5,6,25,26,27] rfl ?_;refine G.aR ?_;refine G.cz func57 rfl ?_;refine xp rfl (aj.bJ rfl rfl ⟨by omega,by omega⟩) ?_;refine aN 1 [0,1,5,6,25,26,27] rfl ?_;exact ih (i+1) _ _ ⟨rfl,rfl,rfl,rfl,rfl,trivial⟩ ⟨e2,hset,hiN⟩ (by show d.next.length-(i+1)<d.next.length-i;omega)
 · obtain rfl:i=d.next.length:=by omega
   rw[Nat.sub_self,List.replicate_zero,List.append_nil,List.take_of_length_le (by omega)] at ho;refine bD rfl rfl ?_;refine bf func57 1 [0,1,5,7,25,26,27] rfl ?_;refine G.block rfl rfl ?_;refine bO (σ:=Nat×Nat×Value×List Int) (fun q=>[(0,.pointer (some ⟨db,0,none⟩)),(1,.slice va vm vc),(5,q.2.2.1),(7,.int .i64 (q.2.1:Nat))]) (fun q h'=>aC h h'/\cR (Value.int .i64) h' h.size 3 q.2.2.1 q.2.2.2/\q.2.2.2.length=d.next.length/\(∀x∈q.2.2.2,-1<=x/\x<=1000000)/\(q.2.1<=d.next.length/\jt q.2.1 q.2.2.2/\d.next.length+1<=q.1+q.2.1)/\jS d live q.1 q.2.1 q.2.2.2=tgt) (fun q=>q.1) ((d.next.length+1,0,.slice (some ⟨h.size,0,none⟩) d.next.length d.next.length,d.rule)) rfl ⟨rfl,rfl,rfl,rfl,trivial⟩ ⟨eg,ho,hlen,hok.ru,⟨Nat.zero_le _,fun i hi=>absurd hi (Nat.not_lt_zero _),by simp⟩,htgt⟩ ?_;rintro⟨n,many,vcl,cls⟩ g ⟨eg,ho,hcl,hcb,⟨hmN,hcov,hfuel⟩,hcon⟩ ih
   try dsimp only
   dsimp only at ho hcl hcb hmN hcov hfuel hcon;obtain⟨n,rfl⟩:∃m,n=m+1:=⟨n-1,by omega⟩
   rw[jS] at hcon;have hmore:=mG (d:=d) (live:=live) hcov hcl;have hend:=eW d live cls;generalize hps:bF d live cls d.next.length 0 [] []=ps at hcon hmore hend
   obtain⟨la,lc,rfl,_⟩:=(show aT g h.size 3 1 vcl cls.length (cls.map (Value.int .i64)) from ho).open;rw[hcl] at ho;have hown:∀b,(Value.slice la d.next.length lc).ownBlock=some b->b<g.size:=fun b hb=>(aT.lt ho hb).2
   rw[hcl];refine G.block rfl rfl ?_;refine xr func57 rfl ?_;refine xo rfl (mQ (ek:=Value.string) (ev:=Value.int .i64)) ?_;rintro _ g1 ⟨rfl,hm1,e1',z1⟩;refine aN 1 [0,1,5,7,8] rfl ?_;refine bl func57 1 rfl ?_;refine xp rfl (aj.aS underlying127 rfl) ?_;refine xo rfl (az.pe underlying127 H.pP H.Nc rfl rfl rfl (by omega) (by decide)) ?_;rintro _ g2 ⟨rfl,k2,e2⟩;have k2:cR (Value.int .i64) g2 g1.size 3 (.slice (some ⟨g1.size,0,none⟩) d.next.length d.next.length) (List.replicate d.next.length 0):=by unfold cR;simpa using k2
   have hm2:=hm1.ext e2 (fun k=>k);have e12:=e1'.trans e2;refine aN 1 [0,1,5,7,8,9] rfl ?_;refine av rfl ?_;refine bl func57 2 rfl ?_;refine xp rfl (af (off:=0) underlying149 rfl rfl H.jZ rfl) ?_;refine xp rfl (ai H.pW rfl ((hk.ax (eg.trans e12)).cell (i:=0) rfl)) ?_;refine xp rfl (aj.aS underlying147 rfl) ?_;refine aN 1 [0,1,5,7,8,9,47,48,49] rfl ?_;refine G.block rfl rfl ?_;refine bO (σ:=Nat×List (List Int)×List Int) (fun q=>[(0,.pointer (some ⟨db,0,none⟩)),(1,.slice va vm vc),(5,.slice la d.next.length lc),(7,.int .i64 (many:Nat)),(8,.map (some g.size)),(9,.slice (some ⟨g1.size,0,none⟩) d.next.length d.next.length),(47,.slice na d.next.length nc),(48,.int .i64 (d.next.length:Nat)),(49,.int .i64 (q.1:Nat))]) (fun q h'=>aC g h'/\fJ Value.string (Value.int .i64) h' g.size (gL 0 q.2.1)/\cR (Value.int .i64) h' g1.size 3 (.slice (some ⟨g1.size,0,none⟩) d.next.length d.next.length) (q.2.2++List.replicate (d.next.length-q.1) 0)/\(q.1<=d.next.length/\q.2.2.length=q.1/\q.2.1.length<=q.1)/\bF d live cls (d.next.length-q.1) q.1 q.2.1 q.2.2=ps) (fun q=>d.next.length-q.1) ((0,[],[])) rfl ⟨rfl,rfl,rfl,rfl,rfl,rfl,rfl,rfl,rfl,trivial⟩ ⟨e12,hm2,k2,⟨Nat.zero_le _,rfl,Nat.le_refl _⟩,hps⟩ ?_;rintro⟨k,seen,after⟩ g3 ⟨e3,hmp,haf,⟨hkN,hal,hsl⟩,hcon2⟩ ih2
   try dsimp only
   dsimp only at hmp haf hkN hal hsl hcon2;have eg3:=eg.trans e3;have ho3:=cR.ax ho e3;refine bf func57 1 [0,1,5,7,8,9,47,48,49,50] rfl ?_;refine av rfl ?_;refine aM rfl rfl (fun hlt=>?_) (fun hlt=>?_)
   · have hkN:k<d.next.length:=by omega
     obtain⟨m,hm⟩:∃m,d.next.length-k=m+1:=⟨d.next.length-k-1,by omega⟩
     rw[hm,bF] at hcon2;obtain⟨r,hr⟩:∃r,d.next[k]? =some r:=⟨_,List.getElem?_eq_getElem hkN⟩
     obtain⟨oa',n',c',hv',_,_,_,hgetn⟩:=id (hslN.mv (Mv.ax eg3));cases hv';obtain⟨b1,o1,cs1,ha1,_,hrow1,rfl⟩:=hgetn k r hr;have hone:∀u∈cq r,u.oneCell'=true:=fun u hu=>by simp[cq] at hu;obtain⟨_,_,rfl⟩:=hu;rfl
     have hrow:d.row k=r.v:=by unfold cn.row;rw[hr]
     refine aB rfl ?_;refine av rfl ?_;refine G.block rfl rfl ?_;refine bl func57 1 rfl ?_;refine xp rfl (aj.aH underlying147 H.jY rfl rfl k rfl ha1 (by omega)) ?_;refine xp rfl (aj.aE H.uK H.jY rfl hrow1 (by first|rfl|(simp;done)|(simp;omega))) ?_;refine xo rfl (az.aQ H.B6) ?_;rintro _ g4 ⟨rfl,k4,e4,z4⟩;have k4:bh g4 g3.size 153 (List.replicate 256 (Value.int .i64 0)):=k4;refine aV 1 rfl ?_;refine RW.bB rfl rfl rfl (az.au H.jY rfl rfl k4 (by first|rfl|(simp;done)|(simp;omega)) (by first|decide|exact of_decide_eq_true rfl|(simp;done)|(simp;omega)) (hone)) ?_;rintro _ g5 ⟨rfl,k5,x5,z5⟩;have k5:bh g5 g3.size 153 (cq r):=by rw[<-zO r];exact k5
     have e5:aC g3 g5:=aC.only e4 x5 (Nat.le_refl _);have ho5:=cR.ax ho3 e5;obtain⟨c,hc⟩:∃c,cls[k]? =some c:=⟨_,List.getElem?_eq_getElem (by omega)⟩
     have hgd:cls.getD k 0=c:=by rw[List.getD_eq_getElem?_getD,hc];rfl
     obtain⟨gg,c4,hv4,hgb,hglt,hcell,hfz,hset⟩:=ho5.at hc;rw[hcl] at hv4;have hla:la=some ⟨gg,0,none⟩:=by cases hv4;rfl
     refine xd [0,1,5,7,8,9,10,11,47,48,49,50] rfl ?_;refine bl func57 2 rfl ?_;refine xp rfl (aj.aH underlying127 H.bV rfl rfl k rfl hla (by omega)) ?_;refine xp rfl (ai H.cK rfl hcell) ?_;have e56:aC g5 (g5.push (.cells #[.int .i64 c] 3)):=Ext.push _ _ _;have hl6:cR (Value.int .i64) (g5.push (.cells #[.int .i64 c] 3)) g5.size 3 (.slice (some ⟨g5.size,0,none⟩) 1 1) [c]:=mP (Value.int .i64) g5 3 [c] 1 rfl (by decide) g5.size (Nat.le_refl _) rfl;refine xo rfl (az.bg (us:=[_]) underlying127 H.pP rfl rfl (by decide) (by simp[Value.oneCell'])) ?_;rintro _ _ ⟨rfl,rfl⟩;refine aN 1 [0,1,5,7,8,9,10,11,12,47,48,49,50] rfl ?_;refine av rfl ?_;refine xr func57 rfl ?_;generalize g5.push (.cells #[.int .i64 c] 3)=g6 at *;have k6:=k5.ax e56;have e36:aC g3 g6:=e5.trans e56;have ho6:=cR.ax ho5 e56;have hz5:=e5.size;refine xp rfl (aj.aE H.uK H.jY rfl k6.row (by first|rfl|(simp;done)|(simp;omega))) ?_;refine aN 1 [0,1,5,7,8,9,10,11,12,47,48,49,50,59,60] rfl ?_;refine G.block rfl rfl ?_;refine bO (σ:=Nat×Value) (fun q=>[(0,.pointer (some ⟨db,0,none⟩)),(1,.slice va vm vc),(5,.slice la d.next.length lc),(7,.int .i64 (many:Nat)),(8,.map (some g.size)),(9,.slice (some ⟨g1.size,0,none⟩) d.next.length d.next.length),(10,.int .i64 (k:Nat)),(12,q.2),(47,.slice na d.next.length nc),(48,.int .i64 (d.next.length:Nat)),(49,.int .i64 (k:Nat)),(59,.agg (cq r).toArray),(60,.int .i64 (q.1:Nat))]) (fun q h'=>aC g3 h'/\cR (Value.int .i64) h' g5.size 3 q.2 (c::(r.v.take q.1).map (cJ live cls))/\q.1<=256/\g5.size<=h'.size) (fun q=>256-q.1) ((0,.slice (some ⟨g5.size,0,none⟩) 1 1)) rfl ⟨rfl,rfl,rfl,rfl,rfl,rfl,rfl,rfl,rfl,rfl,rfl,rfl,rfl,trivial⟩ ⟨e36,hl6,Nat.zero_le _,e56.size⟩ ?_;rintro⟨j,vl⟩ g7 ⟨e7,hl7,hj,hz7⟩ ih3
     try dsimp only
     dsimp only at hl7 hj;have eg7:=eg3.trans e7;have ho7:=cR.ax ho3 e7;have hlen7:(c::(r.v.take j).map (cJ live cls)).length=j+1:=by simp[r.len];omega
     refine bf func57 1 [0,1,5,7,8,9,10,12,47,48,49,59,60,61] rfl ?_;refine av rfl ?_;refine aM rfl rfl (fun hlt3=>?_) (fun hlt3=>?_)
     · have hj2:j<256:=by omega
       obtain⟨t,ht⟩:∃t,r.v[j]? =some t:=⟨_,List.getElem?_eq_getElem (by rw[r.len];exact hj2)⟩
       have htm:=hok.to r (List.mem_of_getElem? hr) t (List.mem_of_getElem? ht);have htr:c::(r.v.take (j+1)).map (cJ live cls)=(c::(r.v.take j).map (cJ live cls))++[cJ live cls t]:=by rw[List.take_add_one,ht];simp
       have hlo:aT g7 g5.size 3 1 vl (c::(r.v.take j).map (cJ live cls)).length ((c::(r.v.take j).map (cJ live cls)).map (Value.int .i64)):=hl7;have hlo2:=hlo;rw[hlen7] at hlo2;obtain⟨wa,wc,rfl,_⟩:=hlo2.open;have hl8:cR (Value.int .i64) g7 g5.size 3 (.slice wa (j+1) wc) (c::(r.v.take j).map (cJ live cls)):=hl7
       have fin:∀v8 g8 x,aT g8 g5.size 3 1 v8 (j+1+1) ((c::(r.v.take j).map (cJ live cls)).map (Value.int .i64)++[.int .i64 x])->Ext (cV (Value.slice wa (j+1) wc).ownBlock) g7 g8->x=cJ live cls t->aC g3 g8/\cR (Value.int .i64) g8 g5.size 3 v8 (c::(r.v.take (j+1)).map (cJ live cls))/\j+1<=256/\g5.size<=g8.size:=by
        rintro v8 g8 x ho hx rfl;refine⟨cR.grown e7 hl8 hz5 hx,?_,hj2,Nat.le_trans hz7 hx.size⟩;rw[htr];exact cR.of ho hlen7.symm rfl rfl
       refine aB rfl ?_;refine av rfl ?_;refine G.block rfl rfl ?_;refine xr func57 rfl ?_;refine xp rfl (aj.tM underlying153 H.bV H.cK rfl rfl j rfl hj2 (show (cq r).toArray[j]? =some (Value.int .i64 t) by simp[cq,ht])) ?_;refine aN 1 [0,1,5,7,8,9,10,12,14,47,48,49,59,60,61] rfl ?_;refine bl func57 3 rfl ?_;refine aL (d:=65) rfl (fun hg=>?_) (fun hg=>?_)
       · have hg':=of_decide_eq_true hg;refine aN 6 [0,1,5,7,8,9,10,12,14,47,48,49,59,60,61,71] rfl ?_;refine aJ rfl rfl (fun _=>?_) (fun hc=>absurd hc (by simp));refine G.cz func57 rfl ?_;refine aV 1 rfl ?_;refine xo rfl (az.bg (us:=[_]) underlying127 H.pP rfl rfl (by decide) (by simp[Value.oneCell'])) ?_;rintro _ _ ⟨rfl,rfl⟩;refine xo rfl (az.bU underlying127 H.pP rfl rfl (hlo2) rfl rfl (by first|decide|simp[Value.oneCell']) (by omega) (by decide) (by omega)) ?_;rintro v8 g8 ⟨ho8,hx8,hx8',hv8⟩;have ff:=fin v8 g8 (-2) ho8 hx8 (uC (.inl hg')).symm;obtain⟨v8a,v8c,rfl,_⟩:=ho8.open;refine aN 1 [0,1,5,7,8,9,10,12,14,47,48,49,59,60,61,71] rfl ?_;refine G.aR ?_;refine G.cz func57 rfl ?_;refine xp rfl (aj.bJ rfl rfl ⟨by omega,by omega⟩) ?_;refine aN 1 [0,1,5,7,8,9,10,12,14,47,48,49,59,60,61,71] rfl ?_;exact ih3 (j+1,_) _ _ ⟨rfl,rfl,rfl,rfl,rfl,rfl,rfl,rfl,rfl,rfl,rfl,rfl,rfl,trivial⟩ ff (by show 256-(j+1)<256-j;omega)
       · have hg':=of_decide_eq_false hg;obtain⟨t2,rfl⟩:=Int.eq_ofNat_of_zero_le (show 0<=t by omega);obtain⟨bt,hbt⟩:∃bt,live[t2]? =some bt:=⟨_,List.getElem?_eq_getElem (by omega)⟩
         have hlt2:live.getD t2 false=bt:=by rw[List.getD_eq_getElem?_getD,hbt];rfl
         obtain⟨oa',n',c',hv',_,_,_,hgetv⟩:=id (hslV.mv (Mv.ax eg7));cases hv';obtain⟨b3,o3,cs3,ha3,_,hrow3,rfl⟩:=hgetv t2 bt hbt;refine cI 2 rfl rfl (aj.aH underlying157 H.lN rfl rfl t2 rfl ha3 (by omega)) ?_;refine xp rfl (ai H.uJ rfl (hrow3 0 _ rfl)) ?_;refine aN 2 [0,1,5,7,8,9,10,12,14,47,48,49,59,60,61,71] rfl ?_;refine aJ rfl rfl (fun hb=>?_) (fun hb=>?_)
         · have hb':bt=false:=by simpa using hb
           refine G.cz func57 rfl ?_;refine aV 1 rfl ?_;refine xo rfl (az.bg (us:=[_]) underlying127 H.pP rfl rfl (by decide) (by simp[Value.oneCell'])) ?_;rintro _ _ ⟨rfl,rfl⟩;refine xo rfl (az.bU underlying127 H.pP rfl rfl (hlo2) rfl rfl (by first|decide|simp[Value.oneCell']) (by omega) (by decide) (by omega)) ?_;rintro v8 g8 ⟨ho8,hx8,hx8',hv8⟩;have ff:=fin v8 g8 (-2) ho8 hx8 (uC (.inr (by show live.getD t2 false=false;rw[hlt2,hb']))).symm;obtain⟨v8a,v8c,rfl,_⟩:=ho8.open;refine aN 1 [0,1,5,7,8,9,10,12,14,47,48,49,59,60,61,71] rfl ?_;refine G.aR ?_;refine G.cz func57 rfl ?_;refine xp rfl (aj.bJ rfl rfl ⟨by omega,by omega⟩) ?_;refine aN 1 [0,1,5,7,8,9,10,12,14,47,48,49,59,60,61,71] rfl ?_;exact ih3 (j+1,_) _ _ ⟨rfl,rfl,rfl,rfl,rfl,rfl,rfl,rfl,rfl,rfl,rfl,rfl,rfl,trivial⟩ ff (by show 256-(j+1)<256-j;omega)
         · have hb':bt=true:=by simpa using hb
           obtain⟨c2,hc2⟩:∃c2,cls[t2]? =some c2:=⟨_,List.getElem?_eq_getElem (by omega)⟩
           have hgd2:cls.getD t2 0=c2:=by rw[List.getD_eq_getElem?_getD,hc2];rfl
           obtain⟨gg2,c42,hv42,hgb2,hglt2,hcell2,hfz2,hset2⟩:=ho7.at hc2;rw[hcl] at hv42;have hla2:la=some ⟨gg2,0,none⟩:=by cases hv42;rfl
           refine G.cz func57 rfl ?_;refine cI 3 rfl rfl (aj.aH underlying127 H.bV rfl rfl t2 rfl hla2 (by omega)) ?_;refine xp rfl (ai H.cK rfl hcell2) ?_;refine xo rfl (az.bg (us:=[_]) underlying127 H.pP rfl rfl (by decide) (by simp[Value.oneCell'])) ?_;rintro _ _ ⟨rfl,rfl⟩;refine xo rfl (az.bU underlying127 H.pP rfl rfl (hlo2) rfl rfl (by first|decide|simp[Value.oneCell']) (by omega) (by decide) (by omega)) ?_;rintro v8 g8 ⟨ho8,hx8,hx8',hv8⟩
           have ff:=fin v8 g8 c2 ho8 hx8 (by
            rw[BT (by
             rintro(e|e)
             · exact hg' e
             · rw[Int.toNat_natCast,hlt2,hb'] at e;cases e),Int.toNat_natCast,hgd2])
           obtain⟨v8a,v8c,rfl,_⟩:=ho8.open;refine aN 1 [0,1,5,7,8,9,10,12,14,47,48,49,59,60,61,71] rfl ?_;refine G.aR ?_;refine G.cz func57 rfl ?_;refine xp rfl (aj.bJ rfl rfl ⟨by omega,by omega⟩) ?_;refine aN 1 [0,1,5,7,8,9,10,12,14,47,48,49,59,60,61,71] rfl ?_;exact ih3 (j+1,_) _ _ ⟨rfl,rfl,rfl,rfl,rfl,rfl,rfl,rfl,rfl,rfl,rfl,rfl,rfl,trivial⟩ ff (by show 256-(j+1)<256-j;omega)
     · obtain rfl:j=256:=by omega
       have hkey:c::(r.v.take 256).map (cJ live cls)=fA d live cls k:=by unfold fA;rw[hgd,hrow,List.take_of_length_le (by rw[r.len];exact Nat.le_refl _)]
       have hkb:=wX (d:=d) (live:=live) hcb k;have hkl:(fA d live cls k).length<=1000000:=by rw[<-hkey,hlen7];decide
       rw[hkey] at hl7;generalize hkk:fA d live cls k=key at *;refine bD rfl rfl ?_;refine bl func57 1 rfl ?_;refine xo rfl (aq (vs:=[_]) func52 rfl H.GS rfl (ah.bq (qq (O:=fun _=>False) (htens.ax eg7) (cR.read (h1:=fun _=>rfl) hl7 (fun _ _ k=>k)) hkl hkb))) ?_;rintro _ g8 ⟨rfl,e8⟩;have e38:aC g3 g8:=e7.trans e8;have eg8:aC g g8:=e3.trans e38;have mp8:=hmp.ext e38 (fun k=>k);have haf8:=cR.ax haf e38
       have hk0:(after++List.replicate (d.next.length-k) (0:Int))[k]? =some 0:=by
        rw[List.getElem?_append_right (by omega),List.getElem?_replicate,if_pos (by omega)]
       have hl0:(after++List.replicate (d.next.length-k) (0:Int)).length=d.next.length:=by simp;omega
       have hsetA:∀y:Int,(after++List.replicate (d.next.length-k) (0:Int)).set k y=(after++[y])++List.replicate (d.next.length-(k+1)) 0:=fun y=>by
        rw[List.set_append_right _ _ (by omega),hal,Nat.sub_self,show d.next.length-k=(d.next.length-(k+1))+1 by omega,List.replicate_succ,List.set_cons_zero];simp
       have hz12:=e1'.size
       have fin2:∀(gA gB:aA) (seen':List (List Int)) (y:Int),aC g gA->fJ Value.string (Value.int .i64) gA g.size (gL 0 seen')->cR (Value.int .i64) gB g1.size 3 (.slice (some ⟨g1.size,0,none⟩) d.next.length d.next.length) ((after++List.replicate (d.next.length-k) (0:Int)).set k y)->gB=ew gA ⟨g1.size,0+k*1,none⟩ (.int .i64 y)->bF d live cls m (k+1) seen' (after++[y])=ps->seen'.length<=k+1->aC g gB/\fJ Value.string (Value.int .i64) gB g.size (gL 0 seen')/\cR (Value.int .i64) gB g1.size 3 (.slice (some ⟨g1.size,0,none⟩) d.next.length d.next.length) ((after++[y])++List.replicate (d.next.length-(k+1)) 0)/\(k+1<=d.next.length/\(after++[y]).length=k+1/\seen'.length<=k+1)/\bF d live cls (d.next.length-(k+1)) (k+1) seen' (after++[y])=ps:=by
        rintro gA gB seen' y eA mA hB hgB hcp hsl';have xB:Ext (fun b=>b=g1.size) gA gB:=by rw[hgB];exact Ext.ew _ _ _ rfl
        refine⟨aC.only eA xB hz12,mA.ext xB (by show ¬_=_;omega),?_,⟨hkN,by simp[hal],hsl'⟩,?_⟩
        · rw[<-hsetA];exact hB
        · rw[show d.next.length-(k+1)=m by omega];exact hcp
       refine aN 1 [0,1,5,7,8,9,10,12,15,47,48,49,59,60,61] rfl ?_;refine av rfl ?_;refine bl func57 2 rfl ?_;refine xp rfl (aj.tn (z:=.int .i64 0) jr underlying151 underlying9 (by kernel_rfl) rfl rfl rfl mp8) ?_;rw[kF]
       rcases hfind:jD 0 seen key with _|i0
       · rw[hfind] at hcon2;simp only at hcon2;have hnone:kJ (bs (gu key)) (gL 0 seen)=none:=by rw[kF,hfind];rfl
         refine aN 5 [0,1,5,7,8,9,10,12,15,17,47,48,49,59,60,61] rfl ?_;refine bf func57 2 [0,1,5,7,8,9,10,12,15,17,47,48,49,59,60,61,92] rfl ?_;refine aJ rfl rfl (fun _=>?_) (fun hc=>absurd hc (by simp));refine G.cz func57 rfl ?_;refine cI 3 rfl rfl (aj.Bx underlying151 rfl (mp8)) ?_;refine RW.bB rfl rfl rfl (az.mapUpdate (v:=((gL 0 seen).length:Int)) jr underlying151 underlying9 rfl rfl rfl rfl rfl mp8 hnone) ?_;rintro _ g9 ⟨rfl,mp9,x9,z9⟩;have mp9:fJ Value.string (Value.int .i64) g9 g.size (gL 0 (seen++[key])):=by rw[sG,Nat.zero_add,<-qj seen 0];exact mp9
         have hsz8:=eg8.size;have e9:aC g g9:=aC.only eg8 x9 (Nat.le_refl _);have haf9:cR (Value.int .i64) g9 g1.size 3 (.slice (some ⟨g1.size,0,none⟩) d.next.length d.next.length) (after++List.replicate (d.next.length-k) (0:Int)):=aT.ext x9 haf8 (fun b hb (e:b=g.size)=>by have:=(aT.lt haf8 hb).1;omega);obtain⟨gg3,c3,hv3,_,_,hcell3,hfz3,hset3⟩:=haf9.at hk0;rw[hl0] at hv3;cases hv3;have hasc:kJ (bs (gu key)) (gL 0 (seen++[key]))=some ((seen.length:Nat):Int):=by rw[kF,tZ seen 0 key hfind,Nat.zero_add];rfl
         refine xd [0,1,5,7,8,9,10,12,15,17,47,48,49,59,60,61,92] rfl ?_;refine G.cz func57 rfl ?_;refine cI 4 rfl rfl (aj.lookup (z:=.int .i64 0) jr underlying151 underlying9 (by kernel_rfl) rfl rfl rfl mp9) ?_;rw[hasc,Option.map_some,Option.getD_some];refine xp rfl (aj.aH underlying127 H.bV rfl rfl k rfl rfl (by omega)) ?_;refine RW.bB rfl rfl rfl (cH H.bV rfl rfl rfl hcell3 hfz3) ?_;rintro _ g10 ⟨rfl,hg10⟩;have hg10:g10=ew g9 ⟨g1.size,0+k*1,none⟩ (.int .i64 ((seen.length:Nat):Int)):=hg10;have hB:=hset3 ((seen.length:Nat):Int);rw[<-hg10] at hB;refine xd [0,1,5,7,8,9,10,12,15,17,47,48,49,59,60,61,92] rfl ?_;refine G.aR ?_;refine G.cz func57 rfl ?_;refine xp rfl (aj.bJ rfl rfl ⟨by omega,by omega⟩) ?_;refine aN 1 [0,1,5,7,8,9,10,12,15,17,47,48,49,59,60,61,92] rfl ?_;exact ih2 (k+1,seen++[key],after++[((seen.length:Nat):Int)]) _ _ ⟨rfl,rfl,rfl,rfl,rfl,rfl,rfl,rfl,rfl,trivial⟩ (fin2 g9 g10 _ _ e9 mp9 hB hg10 hcon2 (by simp;omega)) (by show d.next.length-(k+1)<d.next.length-k;omega)
       · rw[hfind] at hcon2;simp only at hcon2;refine aN 5 [0,1,5,7,8,9,10,12,15,17,47,48,49,59,60,61] rfl ?_;refine bf func57 2 [0,1,5,7,8,9,10,12,15,17,47,48,49,59,60,61,92] rfl ?_;refine aJ rfl rfl (fun hc=>absurd hc (by simp)) (fun _=>?_);obtain⟨gg3,c3,hv3,_,_,hcell3,hfz3,hset3⟩:=haf8.at hk0;rw[hl0] at hv3;cases hv3;have hasc:kJ (bs (gu key)) (gL 0 seen)=some ((i0:Nat):Int):=by rw[kF,hfind];rfl
         refine aB rfl ?_;refine G.cz func57 rfl ?_;refine cI 4 rfl rfl (aj.lookup (z:=.int .i64 0) jr underlying151 underlying9 (by kernel_rfl) rfl rfl rfl mp8) ?_;rw[hasc,Option.map_some,Option.getD_some];refine xp rfl (aj.aH underlying127 H.bV rfl rfl k rfl rfl (by omega)) ?_;refine RW.bB rfl rfl rfl (cH H.bV rfl rfl rfl hcell3 hfz3) ?_;rintro _ g10 ⟨rfl,hg10⟩;have hg10:g10=ew g8 ⟨g1.size,0+k*1,none⟩ (.int .i64 ((i0:Nat):Int)):=hg10;have hB:=hset3 ((i0:Nat):Int);rw[<-hg10] at hB;refine xd [0,1,5,7,8,9,10,12,15,17,47,48,49,59,60,61,92] rfl ?_;refine G.aR ?_;refine G.cz func57 rfl ?_;refine xp rfl (aj.bJ rfl rfl ⟨by omega,by omega⟩) ?_;refine aN 1 [0,1,5,7,8,9,10,12,15,17,47,48,49,59,60,61,92] rfl ?_;exact ih2 (k+1,seen,after++[((i0:Nat):Int)]) _ _ ⟨rfl,rfl,rfl,rfl,rfl,rfl,rfl,rfl,rfl,trivial⟩ (fin2 g8 g10 _ _ eg8 mp8 hB hg10 hcon2 (Nat.le_succ_of_le hsl)) (by show d.next.length-(k+1)<d.next.length-k;omega)
   · obtain rfl:k=d.next.length:=by omega
     rw[Nat.sub_self,List.replicate_zero,List.append_nil] at haf;rw[Nat.sub_self,bF] at hcon2;subst hcon2;dsimp only at hcon hmore hend;have hm:=hend.size;have hsl':(gL 0 seen).length=seen.length:=qj seen 0
     have ha':cR (Value.int .i64) g3 h.size 3 (.slice (some ⟨g1.size,0,none⟩) d.next.length d.next.length) after:=B0 (show aT g3 g1.size 3 1 _ after.length (after.map (Value.int .i64)) from haf) (fun b hb=>by
      cases hb;have:=eg.size;have:=e1'.size
      show h.size<=g1.size
      omega)
     refine bD rfl rfl ?_;refine bf func57 2 [0,1,5,7,8,9,47,48,49,50] rfl ?_;refine av rfl ?_;refine bl func57 1 rfl ?_;refine xp rfl (aj.Bx underlying151 rfl (hmp)) ?_;rw[hsl'];refine aN 2 [0,1,5,7,8,9,47,48,49,50,108] rfl ?_;refine aM rfl rfl (fun heq=>?_) (fun heq=>?_)
     · rw[if_pos (by omega)] at hcon;refine bf func57 2 [0,1,4,5,7,8,9,47,48,49,50,108] rfl ?_;refine G.ret func57 rfl rfl ?_;exact⟨_,rfl,by rw[<-hcon];exact ha',eg3⟩
     · rw[if_neg (by omega)] at hcon;refine aB rfl ?_;refine G.cz func57 rfl ?_;refine cI 1 rfl rfl (aj.Bx underlying151 rfl (hmp)) ?_;rw[hsl'];refine aN 1 [0,1,5,7,8,9,47,48,49,50,108] rfl ?_;refine G.aR ?_;exact ih (n,seen.length,_,after) _ _ ⟨rfl,rfl,rfl,rfl,trivial⟩ ⟨eg3,ha',hal,fun x hx=>by have:=hend.bound x hx;omega,⟨by show seen.length<=_;omega,hend.nY,by show _<=n+seen.length;omega⟩,hcon⟩ (by show n<n+1;omega)
end
end Go.Proofs.YtmehdcdbeafljaaGreatDoor
namespace Go.Proofs.YtmehdcdbeafljaaGreatDoor
open Go
section
variable {of:List Nat}
def nM (cls:List Int):Nat->List Nat->Int->Option Nat
 |_,[],_=>none
 |i,x::r,c=>if c=cls.getD x 0 then some i else nM cls (i+1) r c
theorem ue {cls:List Int}:∀(of:List Nat) (i j:Nat) (c:Int),nM cls i of c=some j->i<=j/\∃x,of[j-i]? =some x/\c=cls.getD x 0
 | [],i,j,c,h=>by cases h
 |x::r,i,j,c,h=>by
  rw[nM] at h;split at h
  · rename_i e;cases h;exact⟨Nat.le_refl _,x,by simp,e⟩
  · obtain⟨h1,y,h2,h3⟩:=ue r (i+1) j c h;refine⟨by omega,y,?_,h3⟩;rw[show j-i=(j-(i+1))+1 by omega,List.getElem?_cons_succ];exact h2
theorem oz {cls:List Int}:∀(of:List Nat) (i:Nat) (c:Int),nM cls i of c=none->∀x∈of,c≠cls.getD x 0
 | [],i,c,h,x,hx=>by cases hx
 |y::r,i,c,h,x,hx=>by
  rw[nM] at h;split at h
  · cases h
  · rename_i hn
    rcases List.mem_cons.1 hx with e|e
    · subst e;exact hn
    · exact oz r (i+1) c h x e
def cZ (live:List Bool) (cls:List Int) (of:List Nat) (t:Int):List Nat×Int :=
 if t<0\/live.getD t.toNat false=false then (of,-1) else
  match nM cls 0 of (cls.getD t.toNat 0) with
  |some i=>(of,(i:Int))
  |none=>(of++[t.toNat],(of.length:Int))
def fN (live:List Bool) (cls:List Int):List Int->List Nat->List Int->List Nat×List Int
 | [],of,row=>(of,row)
 |t::r,of,row=>fN live cls r (cZ live cls of t).1 (row++[(cZ live cls of t).2])
def zZ (d:cn) (live:List Bool) (cls:List Int):Nat->Nat->List Nat->List Row->List Int->cn
 | 0,_,_,next,rule=>⟨next,rule⟩
 |n+1,i,of,next,rule =>
  match of[i]? with
  |none=>⟨next,rule⟩
  |some k=>zZ d live cls n (i+1) (fN live cls (d.row k) of []).1 (next++[jB (fN live cls (d.row k) of []).2]) (rule++[d.ru k])
def kR (d:cn):cn:=if d.next.length=0 then ⟨[],[]⟩ else zZ d (bK d) (ef d (bK d)) (d.next.length+1) 0 [0] [] []
structure AQ (n:Nat) (of:List Nat):Prop where
 once:of.Nodup
 lt:∀x∈of,x<n
theorem zQ:∀(n:Nat) (l:List Nat),l.Nodup->(∀x∈l,x<n)->l.length<=n
 | 0,[],_,_=>Nat.le_refl _
 | 0,x::l,_,h=>absurd (h x (by simp)) (Nat.not_lt_zero _)
 |n+1,l,hl,h=>by
  have h1:=zQ n (l.erase n) (hl.erase n) (fun x hx=>by
   have:=(hl.mem_erase_iff).1 hx;have:=h x this.2;omega)
  by_cases hn:n∈l
  · have:=List.length_erase_of_mem hn;omega
  · rw[List.erase_of_not_mem hn] at h1;omega
theorem AQ.len {n:Nat}(k:AQ n of):of.length<=n:=zQ n of k.once k.lt
theorem tf {live:List Bool}{cls:List Int}{n:Nat}{t:Int}(k:AQ n of) (ht:t<n):AQ n (cZ live cls of t).1:=by
 unfold cZ;split
 · exact k
 · rename_i hn;split
   · exact k
   · rename_i hf;have hne:=oz of 0 _ hf;refine⟨List.nodup_append.2 ⟨k.once,by simp,fun a ha b hb e=>?_⟩,fun x hx=>?_⟩
     · have:b=t.toNat:=by simpa using hb
       subst e;subst this;exact hne _ ha rfl
     · rcases List.mem_append.1 hx with e|e
       · exact k.lt x e
       · have:x=t.toNat:=by simpa using e
         omega
theorem Br {live:List Bool}{cls:List Int}{t:Int}:of.length<=(cZ live cls of t).1.length/\∀(i x:Nat),of[i]? =some x->(cZ live cls of t).1[i]? =some x:=by
 unfold cZ;split
 · exact⟨Nat.le_refl _,fun _ _ h=>h⟩
 · split
   · exact⟨Nat.le_refl _,fun _ _ h=>h⟩
   · exact⟨by simp,fun i x h=>by rw[List.getElem?_append_left (List.getElem?_eq_some_iff.1 h).1];exact h⟩
end
end Go.Proofs.YtmehdcdbeafljaaGreatDoor
namespace Go.Proofs.YtmehdcdbeafljaaGreatDoor
open Go.Proofs.Tryz
open Go Go.Lw
set_option maxRecDepth 20000
section
variable {v3:Value}{n:Nat}
def ke (cls:List Int):Nat->List Nat->List (Int×Int)
 |_,[]=>[]
 |i,x::r=>(cls.getD x 0,(i:Int))::ke cls (i+1) r
theorem sH (cls:List Int):∀(ls:List Nat) (i:Nat) (l:Nat),ke cls i (ls++[l])=ke cls i ls++[(cls.getD l 0,((i+ls.length:Nat):Int))]
 | [],i,l=>by simp[ke]
 |x::r,i,l=>by
  simp only[List.cons_append,ke];rw[sH cls r (i+1) l,List.length_cons,show i+1+r.length=i+(r.length+1) by omega]
theorem qD (cls:List Int):∀(ls:List Nat) (i:Nat) (c:Int),kJ c (ke cls i ls)=(nM cls i ls c).map fun j=>(j:Int)
 | [],i,c=>rfl
 |x::r,i,c=>by
  rw[ke,kJ,nM]
  by_cases h:c=cls.getD x 0
  · rw[if_pos h,if_pos h];rfl
  · rw[if_neg h,if_neg h];exact qD cls r (i+1) c
structure eK (h0 h:aA) (cls:List Int) (db mb:Nat) (vo vn vr:Value) (of:List Nat) (next:List Row) (rule:List Int):Prop where
 ext:aC h0 h
 dblk:bh h db 149 [vn,vr]
 nx:kK 256 cq h h0.size 153 vn next
 ru:cR (Value.int .i64) h h0.size 3 vr rule
 ol:cR eE h h0.size 3 vo of
 mp:fJ (Value.int .i64) (Value.int .i64) h mb (ke cls 0 of)
 ne:∀b,vo.ownBlock=some b->vr.ownBlock≠some b
 dge:h0.size<=db
 mge:h0.size<=mb
section
variable {h0 h:aA}{cls:List Int}{db mb:Nat}{vo vn vr:Value}{of:List Nat}{next:List Row}{rule:List Int}
theorem eK.Dl (k:eK h0 h cls db mb vo vn vr of next rule):∀b,vn.ownBlock=some b->dF h b 153:=fun _ hb=>aT.ty k.nx hb
theorem eK.Ch (k:eK h0 h cls db mb vo vn vr of next rule):∀b,vr.ownBlock=some b->dF h b 3:=fun _ hb=>aT.ty k.ru hb
theorem eK.Kh (k:eK h0 h cls db mb vo vn vr of next rule):∀b,vo.ownBlock=some b->dF h b 3:=fun _ hb=>aT.ty k.ol hb
theorem eK.ax {h':aA}(k:eK h0 h cls db mb vo vn vr of next rule) (e:aC h h'):eK h0 h' cls db mb vo vn vr of next rule :=
 ⟨k.ext.trans e,k.dblk.ax e,kK.ax k.nx e,cR.ax k.ru e,cR.ax k.ol e,k.mp.ext e (fun k=>k),k.ne,k.dge,k.mge⟩
theorem eK.put {h':aA}{x:Nat}(k:eK h0 h cls db mb vo vn vr of next rule) (e:Ext (fun b=>b=x) h h') (hx:dF h x 153) (hn:vn.ownBlock≠some x) (hge:h0.size<=x):eK h0 h' cls db mb vo vn vr of next rule:=by
 have hd:¬db=x:=k.dblk.ty.ne hx (by decide);have hm:¬mb=x:=k.mp.ne hx;exact⟨aC.only k.ext e hge,k.dblk.ext e hd,aT.ext e k.nx (fun b hb hbx=>hn (by subst hbx;exact hb)),aT.ext e k.ru (fun b hb=>(k.Ch b hb).ne hx (by decide)),aT.ext e k.ol (fun b hb=>(k.Kh b hb).ne hx (by decide)),k.mp.ext e hm,k.ne,k.dge,k.mge⟩
theorem eK.Jb {g3 g4:aA}{r:Row}(k:eK h0 h cls db mb vo vn vr of next rule) (hn:n=next.length) (ho:aT g3 h0.size 153 256 v3 (n+1) (next.flatMap cq++cq r)) (hx:Ext (cV vn.ownBlock) h g3) (hd:bh g4 db 149 [v3,vr]) (x4:Ext (fun b=>b=db) g3 g4) :
 eK h0 g4 cls db mb vo v3 vr of (next++[r]) rule:=by
 have nne:∀{b:Nat}{t:TypeId},dF h b t->153≠t->¬cV vn.ownBlock b:=fun kt ht e=>(k.Dl _ e.symm).ne kt ht rfl
 have d3:=k.dblk.ext hx (nne k.dblk.ty (by decide));have dne:∀{b:Nat}{t:TypeId},dF g3 b t->149≠t->¬b=db:=fun kt ht e=>by subst e;exact d3.ty.ne kt ht rfl
 have mne:¬cV vn.ownBlock mb:=fun e=>k.mp.ne (k.Dl _ e.symm) rfl
 have hm3:=k.mp.ext hx mne;have ru3:=aT.ext hx k.ru (fun b hb=>nne (k.Ch b hb) (by decide));have of3:=aT.ext hx k.ol (fun b hb=>nne (k.Kh b hb) (by decide));refine⟨⟨by have:=k.ext.size;have:=hx.size;have:=x4.size;omega,fun b hb kk=>?_⟩,hd,?_,aT.ext x4 ru3 (fun b hb=>dne (aT.ty ru3 hb) (by decide)),aT.ext x4 of3 (fun b hb=>dne (aT.ty of3 hb) (by decide)),hm3.ext x4 (hm3.ne d3.ty),k.ne,k.dge,k.mge⟩
 · rw[x4.block b (by have:=k.ext.size;have:=hx.size;omega) (by have:=k.dge;omega),hx.block b (by have:=k.ext.size;omega) (fun e=>by have:=(aT.lt k.nx e.symm).1;omega)];exact k.ext.block b hb kk
 · exact aT.ext x4 (kK.of ho hn rfl) (fun b hb=>dne (aT.ty ho hb) (by decide))
theorem eK.Ja {g3 g4:aA}{x:Int}(k:eK h0 h cls db mb vo vn vr of next rule) (hn:n=rule.length) (ho:aT g3 h0.size 3 1 v3 (n+1) (rule.map (Value.int .i64)++[.int .i64 x])) (hx:Ext (cV vr.ownBlock) h g3) (hv:∀b,v3.ownBlock=some b->vr.ownBlock=some b\/h.size<=b) (hd:bh g4 db 149 [vn,v3]) (x4:Ext (fun b=>b=db) g3 g4) :
 eK h0 g4 cls db mb vo vn v3 of next (rule++[x]):=by
 have nne:∀{b:Nat}{t:TypeId},dF h b t->3≠t->¬cV vr.ownBlock b:=fun kt ht e=>(k.Ch _ e.symm).ne kt ht rfl
 have d3:=k.dblk.ext hx (nne k.dblk.ty (by decide));have dne:∀{b:Nat}{t:TypeId},dF g3 b t->149≠t->¬b=db:=fun kt ht e=>by subst e;exact d3.ty.ne kt ht rfl
 have mne:¬cV vr.ownBlock mb:=fun e=>k.mp.ne (k.Ch _ e.symm) rfl
 have hm3:=k.mp.ext hx mne;have nx3:=aT.ext hx k.nx (fun b hb=>nne (k.Dl b hb) (by decide));have of3:=aT.ext hx k.ol (fun b hb e=>k.ne b hb e.symm);refine⟨⟨by have:=k.ext.size;have:=hx.size;have:=x4.size;omega,fun b hb kk=>?_⟩,hd,aT.ext x4 nx3 (fun b hb=>dne (aT.ty nx3 hb) (by decide)),?_,aT.ext x4 of3 (fun b hb=>dne (aT.ty of3 hb) (by decide)),hm3.ext x4 (hm3.ne d3.ty),fun b hb e=>?_,k.dge,k.mge⟩
 · rw[x4.block b (by have:=k.ext.size;have:=hx.size;omega) (by have:=k.dge;omega),hx.block b (by have:=k.ext.size;omega) (fun e=>by have:=(aT.lt k.ru e.symm).1;omega)];exact k.ext.block b hb kk
 · exact aT.ext x4 (cR.of (ys:=[x]) ho hn rfl rfl) (fun b hb=>dne (aT.ty ho hb) (by decide))
 · rcases hv b e with e|e
   · exact k.ne b hb e
   · have:=(k.Kh b hb).lt;omega
theorem eK.more {g1 g2:aA}{t:Nat}(k:eK h0 h cls db mb vo vn vr of next rule) (x1:Ext (fun b=>b=mb) h g1) (hm:fJ (Value.int .i64) (Value.int .i64) g1 mb (ke cls 0 (of++[t]))) (hn:n=of.length) (ho:aT g2 h0.size 3 1 v3 (n+1) (of.map eE++[eE t])) (hx:Ext (cV vo.ownBlock) g1 g2) (hv:∀b,v3.ownBlock=some b->vo.ownBlock=some b\/g1.size<=b) :
 eK h0 g2 cls db mb v3 vn vr (of++[t]) next rule:=by
 have mne:∀{b:Nat}{t:TypeId},dF h b t->¬b=mb:=fun kt e=>k.mp.ne kt e.symm
 have d1:=k.dblk.ext x1 (mne k.dblk.ty);have nx1:=aT.ext x1 k.nx (fun b hb=>mne (k.Dl b hb));have ru1:=aT.ext x1 k.ru (fun b hb=>mne (k.Ch b hb));have of1:=aT.ext x1 k.ol (fun b hb=>mne (k.Kh b hb));have one:∀{b:Nat}{t:TypeId},dF g1 b t->3≠t->¬cV vo.ownBlock b:=fun kt ht e=>(show dF g1 _ 3 from aT.ty of1 e.symm).ne kt ht rfl
 refine⟨⟨by have:=k.ext.size;have:=hx.size;have:=x1.size;omega,fun b hb kk=>?_⟩,d1.ext hx (one d1.ty (by decide)),aT.ext hx nx1 (fun b hb=>one (aT.ty nx1 hb) (by decide)),aT.ext hx ru1 (fun b hb e=>k.ne b e.symm hb),cR.of (ys:=[t]) ho hn rfl rfl,hm.ext hx (fun e=>hm.ne (aT.ty of1 e.symm) rfl),fun b hb e=>?_,k.dge,k.mge⟩
 · rw[hx.block b (by have:=k.ext.size;have:=x1.size;omega) (fun e=>by have:=(aT.lt k.ol e.symm).1;omega),x1.block b (by have:=k.ext.size;omega) (by have:=k.mge;omega)];exact k.ext.block b hb kk
 · rcases hv b hb with e'|e'
   · exact k.ne b e' e
   · have:=(show dF g1 _ 3 from aT.ty ru1 e).lt;omega
end
theorem wh (d:cn):∀(n:Nat) (out:List Bool),(pg d n out).length=out.length
 | 0,_=>rfl
 |n+1,out=>by
  rw[pg];split
  · rw[wh d n,gD]
  · rw[gD]
theorem Dv (d:cn):(bK d).length=d.next.length:=by rw[bK,wh];simp
theorem uw (d:cn) (live:List Bool):∀(n many:Nat) (cls:List Int),cls.length=d.next.length->(jS d live n many cls).length=d.next.length
 | 0,_,_,h=>h
 |n+1,many,cls,h=>by
  rw[jS];split
  · exact(eW d live cls).len
  · exact uw d live n _ _ (eW d live cls).len
theorem BO (d:cn) (live:List Bool) (h:d.rule.length=d.next.length):(ef d live).length=d.next.length:=uw d live _ _ _ h
def mO (h:aA) (O:Nat->Prop) (db:Nat) (d:cn):Prop :=
 ∃vn vr,¬O db/\bh h db 149 [vn,vr]/\bX CC h O vn d.next/\bX (.int .i64) h O vr d.rule
theorem mO.mv {h h':aA}{O O':Nat->Prop}{db:Nat}{d:cn}(k:mO h O db d) (m:Mv O O' h h'):mO h' O' db d:=by
 obtain⟨vn,vr,ho,hk,h1,h2⟩:=k;have hm:=m.block db hk.lt ho;exact⟨vn,vr,hm.2,hm.1.trans hk,h1.mv m,h2.mv m⟩
theorem mO.rd {h:aA}{O:Nat->Prop}{db:Nat}{d:cn}(k:mO h O db d):nR h db d:=by
 obtain⟨vn,vr,ho,hk,h1,h2⟩:=k;exact⟨vn,vr,hk,pZ h1 (fun _ k=>k.elim),pZ h2 (fun _ k=>k.elim)⟩
theorem FY {h:aA}{db:Nat}{d:cn}(htens:qG h) (k:nR h db d) (hok:d.Ok) (hd0:0<d.next.length) :
 ah Tryz.prog 30 #[.pointer (some ⟨db,0,none⟩)] h (cM fun r h'=>(∃b,r= .pointer (some ⟨b,0,none⟩)/\mO h' (fun g=>g<h.size) b (kR d))/\aC h h'):=by
 have hlen:=hok.len;have hsize:=hok.size;generalize hres:kR d=res;refine ah.of func30 rfl rfl ?_;refine bf func30 1 [0,2] rfl ?_;refine av rfl ?_;refine bl func30 1 rfl ?_;refine xo rfl (aq (vs:=[_]) func55 rfl H.Ku rfl (ah.bq (Ax k))) ?_;rintro _ h0 ⟨rfl,hh0⟩;subst hh0;refine xd [0,2,15] rfl ?_;refine aM rfl rfl (fun hz=>?_) (fun hz=>?_)
 · refine bf func30 1 [0,2,15] rfl ?_;refine G.ret func30 rfl rfl ?_;exfalso;omega
 · rw[kR,if_neg hz] at hres;have hll:=Dv d;have hcl:=BO d (bK d) hlen;refine aB rfl ?_;refine bl func30 1 rfl ?_;refine xo rfl (aq (vs:=[_]) func56 rfl H.MO rfl (ah.bq (Bu k hok))) ?_;rintro w3 h1 ⟨ho1,e1⟩;generalize bK d=live at *;obtain⟨la,lc,rfl,_⟩:=(show aT h1 h0.size 4 1 w3 live.length (live.map Value.bool) from ho1).open;refine aN 1 [0,2,3,15] rfl ?_;refine bl func30 2 rfl ?_;refine xo rfl (aq (vs:=[_,_]) func57 rfl H.MN rfl (ah.bq (vB (htens.ax e1) (k.ax e1) hok (cR.read (O:=fun _=>False) (h1:=fun _=>rfl) ho1 (fun _ _ k=>k)) hll))) ?_;rintro w4 h2 ⟨ho2,e2⟩;generalize ef d live=cls at *;obtain⟨ca,cc,rfl,_⟩:=(show aT h2 h1.size 3 1 w4 cls.length (cls.map (Value.int .i64)) from ho2).open;have ho1:=cR.ax ho1 e2;have k2:=(k.ax e1).ax e2;have hsV:bX .bool h2 (fun _=>False) (.slice la live.length lc) live:=cR.read (h1:=fun _=>rfl) ho1 (fun _ _ k=>k);have hsC:bX (.int .i64) h2 (fun _=>False) (.slice ca cls.length cc) cls:=cR.read (h1:=fun _=>rfl) ho2 (fun _ _ k=>k);rw[hll] at hsV;rw[hcl] at hsC;rw[hll,hcl];obtain⟨c0,hc0⟩:∃c0,cls[0]? =some c0:=⟨_,List.getElem?_eq_getElem (by omega)⟩
   have hcd0:cls.getD 0 0=c0:=by rw[List.getD_eq_getElem?_getD,hc0];rfl
   refine aN 1 [0,2,3,4,15] rfl ?_;refine xr func30 rfl ?_;refine xp rfl (aG (H.Ge ) rfl) ?_;refine xo rfl (az.eR rfl) ?_;rintro _ h3 ⟨rfl,kd3,e3,z3⟩;refine aN 1 [0,2,3,4,5,15] rfl ?_;refine xr func30 rfl ?_;refine xo rfl (mQ (ek:=Value.int .i64) (ev:=Value.int .i64)) ?_;rintro _ h4 ⟨rfl,hm4,e4,z4⟩;have kd3:bh h3 h2.size 149 [.slice none 0 0,.slice none 0 0]:=kd3;have e34:=e3.trans e4;obtain⟨oa',n',c',hv',_,_,_,hgetc⟩:=id (hsC.mv (Mv.ax e34));cases hv';obtain⟨b3,o3,cs3,ha3,_,hrow3,rfl⟩:=hgetc 0 c0 hc0;refine cI 1 rfl rfl (aj.aH underlying127 H.bV rfl rfl 0 rfl ha3 (by omega)) ?_;refine xp rfl (ai H.cK rfl (hrow3 0 _ rfl)) ?_;refine RW.bB rfl rfl rfl (uT (v:=(0:Int)) (js.int .i64) underlying160 underlying3 rfl rfl rfl rfl rfl hm4 (rfl:kJ c0 []=none)) ?_;rintro _ h5 ⟨rfl,hm5,x5,z5⟩;have hm5:fJ (Value.int .i64) (Value.int .i64) h5 h3.size (ke cls 0 [0]):=by rw[ke,hcd0];exact hm5
   have hz3:=e3.size;have e25:aC h2 h5:=aC.only e34 x5 hz3;have kd5:bh h5 h2.size 149 [.slice none 0 0,.slice none 0 0]:=(kd3.ax e4).ext x5 (by show ¬_=_;omega);refine aN 2 [0,2,3,4,5,6,15] rfl ?_;refine xr func30 rfl ?_;refine xo rfl (az.bg (us:=[_]) underlying127 H.pP rfl rfl (by decide) (by simp[Value.oneCell'])) ?_;rintro _ _ ⟨rfl,rfl⟩;refine aN 1 [0,2,3,4,5,6,7,15] rfl ?_;refine av rfl ?_;refine bf func30 1 [0,2,3,4,5,6,7,8,15] rfl ?_;refine G.block rfl rfl ?_;have e56:aC h5 (h5.push (.cells #[.int .i64 0] 3)):=Ext.push _ _ _;have ol6:cR eE (h5.push (.cells #[.int .i64 0] 3)) h2.size 3 (.slice (some ⟨h5.size,0,none⟩) 1 1) [0]:=mP eE h5 3 [0] 1 rfl (by decide) h2.size e25.size rfl;generalize h5.push (.cells #[.int .i64 0] 3)=h6 at *
   have mk6:eK h2 h6 cls h2.size h3.size (.slice (some ⟨h5.size,0,none⟩) 1 1) (.slice none 0 0) (.slice none 0 0) [0] [] [] :=
    ⟨e25.trans e56,kd5.ax e56,kK.nil _ _ _ _ _,cR.nil _ _ _ _,ol6,hm5.ext e56 (fun k=>k),fun b _ hb=>(by cases hb),Nat.le_refl _,hz3⟩
   refine bO (σ:=Nat×Value) (fun q=>[(0,.pointer (some ⟨db,0,none⟩)),(3,.slice la d.next.length lc),(4,.slice ca d.next.length cc),(5,.pointer (some ⟨h2.size,0,none⟩)),(6,.map (some h3.size)),(7,q.2),(8,.int .i64 (q.1:Nat))]) (fun q h'=>∃vn vr of next rule,eK h2 h' cls h2.size h3.size q.2 vn vr of next rule/\q.1<=of.length/\AQ d.next.length of/\(next.length=q.1/\rule.length=q.1)/\zZ d live cls (d.next.length+1-q.1) q.1 of next rule=res) (fun q=>d.next.length+1-q.1) ((0,.slice (some ⟨h5.size,0,none⟩) 1 1)) rfl ⟨rfl,rfl,rfl,rfl,rfl,rfl,rfl,trivial⟩ ⟨_,_,[0],[],[],mk6,Nat.zero_le _,⟨by simp,fun x hx=>by simp at hx;omega⟩,⟨rfl,rfl⟩,hres⟩ ?_;rintro⟨i,vl⟩ g ⟨vn,vr,of,next,rule,mk,hi,hok2,⟨hnl,hrl⟩,hcon⟩ ih
   try dsimp only
   dsimp only at mk hi hnl hrl hcon;have hofl:=hok2.len;obtain⟨oa,oc,rfl,_⟩:=(show aT g h2.size 3 1 vl of.length (of.map eE) from mk.ol).open;have mkg:=mk;refine av rfl ?_;refine bl func30 2 rfl ?_;refine xp rfl (aj.aS underlying127 rfl) ?_;refine aN 1 [0,3,4,5,6,7,8,32] rfl ?_;refine aM rfl rfl (fun hlt=>?_) (fun hlt=>?_)
   · have hil:i<of.length:=by omega
     obtain⟨kk,hcur⟩:∃kk,of[i]? =some kk:=⟨_,List.getElem?_eq_getElem hil⟩
     have hkN:=hok2.lt kk (List.mem_of_getElem? hcur);obtain⟨n,hnn⟩:∃n,d.next.length+1-i=n+1:=⟨d.next.length-i,by omega⟩
     rw[hnn,zZ,hcur] at hcon;simp only at hcon;obtain⟨r,hr⟩:∃r,d.next[kk]? =some r:=⟨_,List.getElem?_eq_getElem hkN⟩
     have hrow:d.row kk=r.v:=by unfold cn.row;rw[hr]
     rw[hrow] at hcon;generalize htgt:fN live cls r.v of []=tgt at hcon;refine aB rfl ?_;refine av rfl ?_;refine G.block rfl rfl ?_;refine xr func30 rfl ?_;refine xo rfl (az.aQ H.B6) ?_;rintro _ g1 ⟨rfl,kz,ez,zz⟩;have kz:bh g1 g.size 153 (([]:List Int).map (Value.int .i64)++List.replicate (256-0) (Value.int .i64 0)):=kz;have GW:=mk.ax ez;have hvz:vn.ownBlock≠some g.size:=fun e=>by have:=(mk.Dl _ e).lt;omega
     obtain⟨vn0,vr0,kd,⟨na,nn,nc,rfl,hnl0,hnc,hnm,hgetn⟩,hsR⟩:=id (k2.ax GW.ext);subst hnl0;obtain⟨b1,o1,cs1,ha1,_,hrow1,rfl⟩:=hgetn kk r hr;obtain⟨gg,c4,hv4,_,_,hcell,_,_⟩:=GW.ol.at hcur;have hoa:oa=some ⟨gg,0,none⟩:=by cases hv4;rfl
     refine xd [0,3,4,5,6,7,8,9,32] rfl ?_;refine av rfl ?_;refine av rfl ?_;refine G.gF func30 H.mixed rfl (by kernel_rfl) ?_;refine RQ.ay rfl rfl rfl rfl (aP rfl) ?_;refine RQ.ay rfl rfl rfl rfl (aO rfl) ?_;refine RQ.ay rfl rfl rfl rfl (af (off:=0) underlying149 rfl rfl H.jZ rfl) ?_;refine RQ.ay rfl rfl rfl rfl (ai H.pW rfl (kd.cell (i:=0) rfl)) ?_;refine RQ.ay rfl rfl rfl rfl (aP rfl) ?_;refine RQ.ay rfl rfl rfl rfl (aP rfl) ?_;refine RQ.ay rfl rfl rfl rfl (aj.aH underlying127 H.bV rfl rfl i rfl hoa (by omega)) ?_;refine RQ.ay rfl rfl rfl rfl (ai H.cK rfl hcell) ?_;refine RQ.ay rfl rfl rfl rfl (aj.aH underlying147 H.jY rfl rfl kk rfl ha1 (by omega)) ?_;refine RQ.ay rfl rfl rfl rfl (aj.aE H.uK H.jY rfl hrow1 (by first|rfl|(simp;done)|(simp;omega))) ?_;refine RQ.ay rfl rfl rfl rfl (aP rfl) ?_;refine dw rfl ?_;refine xu [0,3,4,5,6,7,8,9,32,44,45] rfl ?_;refine G.block rfl rfl ?_;refine bO (σ:=Nat×Value) (fun q=>[(0,.pointer (some ⟨db,0,none⟩)),(3,.slice la d.next.length lc),(4,.slice ca d.next.length cc),(5,.pointer (some ⟨h2.size,0,none⟩)),(6,.map (some h3.size)),(7,q.2),(8,.int .i64 (i:Nat)),(9,.pointer (some ⟨g.size,0,none⟩)),(44,.agg (cq r).toArray),(45,.int .i64 (q.1:Nat))]) (fun q h'=>∃of' row,eK h2 h' cls h2.size h3.size q.2 vn vr of' next rule/\(q.1<=256/\row.length=q.1)/\bh h' g.size 153 (row.map (Value.int .i64)++List.replicate (256-q.1) (Value.int .i64 0))/\of'[i]? =some kk/\AQ d.next.length of'/\fN live cls (r.v.drop q.1) of' row=tgt) (fun q=>256-q.1) ((0,.slice oa of.length oc)) rfl ⟨rfl,rfl,rfl,rfl,rfl,rfl,rfl,rfl,rfl,rfl,trivial⟩ ⟨of,[],GW,⟨Nat.zero_le _,rfl⟩,kz,hcur,hok2,htgt⟩ ?_;rintro⟨b,vl⟩ g2 ⟨of,row,mk,⟨hb,hrlen⟩,kz,hcur,hok2,hrow⟩ ih2
     try dsimp only
     dsimp only at mk hb hrlen kz hrow;have hofl:=hok2.len;obtain⟨oa,oc,rfl,_⟩:=(show aT g2 h2.size 3 1 vl of.length (of.map eE) from mk.ol).open;refine bf func30 1 [0,3,4,5,6,7,8,9,44,45,46] rfl ?_;refine av rfl ?_;refine aM rfl rfl (fun hb256=>?_) (fun hb256=>?_)
     · have hb2:b<256:=by omega
       obtain⟨t,ht⟩:∃t,r.v[b]? =some t:=⟨_,List.getElem?_eq_getElem (by rw[r.len];exact hb2)⟩
       have htm:=hok.to r (List.mem_of_getElem? hr) t (List.mem_of_getElem? ht);have hdrop:r.v.drop b=t::r.v.drop (b+1):=by rw[List.drop_eq_getElem_cons (by rw[r.len];exact hb2),(List.getElem?_eq_some_iff.1 ht).2]
       rw[hdrop,fN] at hrow;have hso:=tf (live:=live) (cls:=cls) (t:=t) hok2 htm.2;have hsg:=(Br (live:=live) (cls:=cls) (of:=of) (t:=t)).2 i kk hcur;have hcells:(row.map (Value.int .i64)++List.replicate (256-b) (Value.int .i64 0)).length=256:=by simp[hrlen];omega
       have hset:∀to:Int,(row.map (Value.int .i64)++List.replicate (256-b) (Value.int .i64 0)).set (0+b*1) (.int .i64 to)=(row++[to]).map (Value.int .i64)++List.replicate (256-(b+1)) (Value.int .i64 0):=fun to=>by
        rw[Nat.zero_add,Nat.mul_one,List.set_append_right _ _ (by simp;omega),show 256-b=(256-(b+1))+1 by omega,List.replicate_succ];have:b-(row.map (Value.int .i64)).length=0:=by simp;omega
        rw[this,List.set_cons_zero];simp
       have hblt:0+b*1<(row.map (Value.int .i64)++List.replicate (256-b) (Value.int .i64 0)).length:=by rw[hcells];omega
       have hzge:h2.size<=g.size:=mkg.ext.size
       have fin:∀(gA gB:aA) (vA:Value) (ofA:List Nat) (to:Int),eK h2 gA cls h2.size h3.size vA vn vr ofA next rule->bh gA g.size 153 (row.map (Value.int .i64)++List.replicate (256-b) (Value.int .i64 0))->gB=ew gA ⟨g.size,0+b*1,none⟩ (.int .i64 to)->cZ live cls of t=(ofA,to)->∃of' row,eK h2 gB cls h2.size h3.size vA vn vr of' next rule/\(b+1<=256/\row.length=b+1)/\bh gB g.size 153 (row.map (Value.int .i64)++List.replicate (256-(b+1)) (Value.int .i64 0))/\of'[i]? =some kk/\AQ d.next.length of'/\fN live cls (r.v.drop (b+1)) of' row=tgt:=by
        rintro gA gB vA ofA to mA kA hgB hst;have k6:=kA.set (0+b*1) (.int .i64 to);rw[<-hgB,hset] at k6;have x6:Ext (fun y=>y=g.size) gA gB:=by rw[hgB];exact Ext.ew _ _ _ rfl
        rw[hst] at hso hsg hrow;exact⟨ofA,row++[to],mA.put x6 kA.ty hvz hzge,⟨hb2,by simp[hrlen]⟩,k6,hsg,hso,hrow⟩
       refine aB rfl ?_;refine av rfl ?_;refine G.block rfl rfl ?_;refine bl func30 1 rfl ?_;refine xp rfl (aj.tM underlying153 H.bV H.cK rfl rfl b rfl hb2 (show (cq r).toArray[b]? =some (Value.int .i64 t) by simp[cq,ht])) ?_;refine aN 2 [0,3,4,5,6,7,8,9,10,11,44,45,46] rfl ?_;refine av rfl ?_;refine bl func30 3 rfl ?_;refine aL (d:=51) rfl (fun hg=>?_) (fun hg=>?_)
       · have hg':=of_decide_eq_true hg;refine aN 6 [0,3,4,5,6,7,8,9,10,11,44,45,46,57] rfl ?_;refine aJ rfl rfl (fun _=>?_) (fun hc=>absurd hc (by simp));refine bl func30 1 rfl ?_;refine xp rfl (aj.cQ underlying153 H.bV rfl rfl b rfl (by omega)) ?_;refine RW.bB rfl rfl rfl (cH H.bV rfl rfl rfl (kz.cell (List.getElem?_eq_getElem hblt)) kz.nf) ?_;rintro _ g6 ⟨rfl,hg6⟩;have ff:=fin g2 g6 _ of (-1) mk kz hg6 (by rw[cZ,if_pos (.inl hg')]);refine xd [0,3,4,5,6,7,8,9,10,11,44,45,46,57] rfl ?_;refine bD rfl rfl ?_;refine G.cz func30 rfl ?_;refine xp rfl (aj.bJ rfl rfl ⟨by omega,by omega⟩) ?_;refine aN 1 [0,3,4,5,6,7,8,9,10,11,44,45,46,57] rfl ?_;exact ih2 (b+1,_) _ _ ⟨rfl,rfl,rfl,rfl,rfl,rfl,rfl,rfl,rfl,rfl,trivial⟩ ff (by show 256-(b+1)<256-b;omega)
       · have hg':=of_decide_eq_false hg;obtain⟨t2,rfl⟩:=Int.eq_ofNat_of_zero_le (show 0<=t by omega);obtain⟨bt,hbt⟩:∃bt,live[t2]? =some bt:=⟨_,List.getElem?_eq_getElem (by omega)⟩
         have hlt2:live.getD t2 false=bt:=by rw[List.getD_eq_getElem?_getD,hbt];rfl
         obtain⟨oa',n',c',hv',_,_,_,hgetv⟩:=id (hsV.mv (Mv.ax mk.ext));cases hv';obtain⟨b3,o3,cs3,ha3,_,hrow3,rfl⟩:=hgetv t2 bt hbt;refine cI 2 rfl rfl (aj.aH underlying157 H.lN rfl rfl t2 rfl ha3 (by omega)) ?_;refine xp rfl (ai H.uJ rfl (hrow3 0 _ rfl)) ?_;refine aN 2 [0,3,4,5,6,7,8,9,10,11,44,45,46,57] rfl ?_;refine aJ rfl rfl (fun hb=>?_) (fun hb=>?_)
         · have hb':bt=false:=by simpa using hb
           refine bl func30 1 rfl ?_;refine xp rfl (aj.cQ underlying153 H.bV rfl rfl b rfl (by omega)) ?_;refine RW.bB rfl rfl rfl (cH H.bV rfl rfl rfl (kz.cell (List.getElem?_eq_getElem hblt)) kz.nf) ?_;rintro _ g6 ⟨rfl,hg6⟩;have ff:=fin g2 g6 _ of (-1) mk kz hg6 (by rw[cZ,if_pos (.inr (by show live.getD t2 false=false;rw[hlt2,hb']))]);refine xd [0,3,4,5,6,7,8,9,10,11,44,45,46,57] rfl ?_;refine bD rfl rfl ?_;refine G.cz func30 rfl ?_;refine xp rfl (aj.bJ rfl rfl ⟨by omega,by omega⟩) ?_;refine aN 1 [0,3,4,5,6,7,8,9,10,11,44,45,46,57] rfl ?_;exact ih2 (b+1,_) _ _ ⟨rfl,rfl,rfl,rfl,rfl,rfl,rfl,rfl,rfl,rfl,trivial⟩ ff (by show 256-(b+1)<256-b;omega)
         · have hb':bt=true:=by simpa using hb
           obtain⟨c2,hc2⟩:∃c2,cls[t2]? =some c2:=⟨_,List.getElem?_eq_getElem (by omega)⟩
           have hgd2:cls.getD t2 0=c2:=by rw[List.getD_eq_getElem?_getD,hc2];rfl
           have hneg:¬(((t2:Nat):Int)<0\/live.getD ((t2:Nat):Int).toNat false=false):=by
            rintro(e|e)
            · exact hg' e
            · rw[Int.toNat_natCast,hlt2,hb'] at e;cases e
           have hstep:cZ live cls of ((t2:Nat):Int)=match nM cls 0 of c2 with|some i=>(of,(i:Int))|none=>(of++[t2],(of.length:Int)):=by
            rw[cZ,if_neg hneg,Int.toNat_natCast,hgd2]<;>rfl
           obtain⟨oa',n',c',hv',_,_,_,hgetc⟩:=id (hsC.mv (Mv.ax mk.ext));cases hv';obtain⟨b4,o4,cs4,ha4,_,hrow4,rfl⟩:=hgetc t2 c2 hc2;refine aB rfl ?_;refine bl func30 3 rfl ?_;refine xp rfl (aj.aH underlying127 H.bV rfl rfl t2 rfl ha4 (by omega)) ?_;refine xp rfl (ai H.cK rfl (hrow4 0 _ rfl)) ?_;refine xp rfl (aj.tn (z:=.int .i64 0) (js.int .i64) underlying160 underlying3 (by kernel_rfl) rfl rfl rfl mk.mp) ?_;rw[qD]
           rcases hfind:nM cls 0 of c2 with _|i0
           · rw[hfind] at hstep;simp only at hstep;have hnone:kJ c2 (ke cls 0 of)=none:=by rw[qD,hfind];rfl
             refine aN 5 [0,3,4,5,6,7,8,9,10,11,12,13,44,45,46,57] rfl ?_;refine av rfl ?_;refine bf func30 2 [0,3,4,5,6,7,8,9,10,11,12,13,44,45,46,57,70] rfl ?_;refine aJ rfl rfl (fun _=>?_) (fun hc=>absurd hc (by simp));refine bl func30 1 rfl ?_;refine xp rfl (aj.aS underlying127 rfl) ?_;refine aN 1 [0,3,4,5,6,7,8,9,10,11,12,13,44,45,46,57,70] rfl ?_;refine bl func30 3 rfl ?_;refine xp rfl (aj.aH underlying127 H.bV rfl rfl t2 rfl ha4 (by omega)) ?_;refine xp rfl (ai H.cK rfl (hrow4 0 _ rfl)) ?_;refine aV 1 rfl ?_;refine RW.bB rfl rfl rfl (az.mapUpdate (v:=((of.length:Nat):Int)) (js.int .i64) underlying160 underlying3 rfl rfl rfl rfl rfl mk.mp hnone) ?_;rintro _ g3 ⟨rfl,hm3,x3,z3'⟩;have hm3:fJ (Value.int .i64) (Value.int .i64) g3 h3.size (ke cls 0 (of++[t2])):=by rw[sH,Nat.zero_add,hgd2];exact hm3
             have mne:∀{b:Nat}{t:TypeId},dF g2 b t->¬b=h3.size:=fun kt e=>mk.mp.ne kt e.symm
             have ol3:aT g3 h2.size 3 1 (.slice oa of.length oc) of.length (of.map eE):=aT.ext x3 mk.ol (fun b hb=>mne (mk.Kh b hb));have kz3:=kz.ext x3 (mne kz.ty);have hz2g:=mk.ext.size;refine xd [0,3,4,5,6,7,8,9,10,11,12,13,44,45,46,57,70] rfl ?_;refine G.cz func30 rfl ?_;refine aV 2 rfl ?_;refine xo rfl (az.bg (us:=[_]) underlying127 H.pP rfl rfl (by decide) (by simp[Value.oneCell'])) ?_;rintro _ _ ⟨rfl,rfl⟩;refine xo rfl (az.bU underlying127 H.pP rfl rfl (ol3) rfl rfl (by first|decide|simp[Value.oneCell']) (by omega) (by decide) (by omega)) ?_;rintro v7 g4 ⟨ho4,hx4,hx4',hv4⟩;have mk4:=mk.more (t:=t2) x3 hm3 rfl ho4 hx4 hv4;have kz4:=kz3.ext hx4 (fun e=>(show dF g3 _ 3 from aT.ty ol3 e.symm).ne kz3.ty (by decide) rfl);obtain⟨v7a,v7c,rfl,_⟩:=ho4.open;refine aN 1 [0,3,4,5,6,7,8,9,10,11,12,13,44,45,46,57,70] rfl ?_;refine G.cz func30 rfl ?_;refine cI 2 rfl rfl (aj.cQ underlying153 H.bV rfl rfl b rfl (by omega)) ?_;refine RW.bB rfl rfl rfl (cH H.bV rfl rfl rfl (kz4.cell (List.getElem?_eq_getElem hblt)) kz4.nf) ?_;rintro _ g6 ⟨rfl,hg6⟩;have ff:=fin g4 g6 _ (of++[t2]) (of.length:Nat) mk4 kz4 hg6 hstep;refine xd [0,3,4,5,6,7,8,9,10,11,12,13,44,45,46,57,70] rfl ?_;refine G.aR ?_;refine G.cz func30 rfl ?_;refine xp rfl (aj.bJ rfl rfl ⟨by omega,by omega⟩) ?_;refine aN 1 [0,3,4,5,6,7,8,9,10,11,12,13,44,45,46,57,70] rfl ?_;exact ih2 (b+1,_) _ _ ⟨rfl,rfl,rfl,rfl,rfl,rfl,rfl,rfl,rfl,rfl,trivial⟩ ff (by show 256-(b+1)<256-b;omega)
           · rw[hfind] at hstep;simp only at hstep;refine aN 5 [0,3,4,5,6,7,8,9,10,11,12,13,44,45,46,57] rfl ?_;refine av rfl ?_;refine bf func30 2 [0,3,4,5,6,7,8,9,10,11,12,13,44,45,46,57,70] rfl ?_;refine aJ rfl rfl (fun hc=>absurd hc (by simp)) (fun _=>?_);refine aB rfl ?_;refine G.cz func30 rfl ?_;refine cI 2 rfl rfl (aj.cQ underlying153 H.bV rfl rfl b rfl (by omega)) ?_;refine RW.bB rfl rfl rfl (cH H.bV rfl rfl rfl (kz.cell (List.getElem?_eq_getElem hblt)) kz.nf) ?_;rintro _ g6 ⟨rfl,hg6⟩;have ff:=fin g2 g6 _ of (i0:Nat) mk kz hg6 hstep;refine xd [0,3,4,5,6,7,8,9,10,11,12,13,44,45,46,57,70] rfl ?_;refine G.aR ?_;refine G.cz func30 rfl ?_;refine xp rfl (aj.bJ rfl rfl ⟨by omega,by omega⟩) ?_;refine aN 1 [0,3,4,5,6,7,8,9,10,11,12,13,44,45,46,57,70] rfl ?_;exact ih2 (b+1,_) _ _ ⟨rfl,rfl,rfl,rfl,rfl,rfl,rfl,rfl,rfl,rfl,trivial⟩ ff (by show 256-(b+1)<256-b;omega)
     · obtain rfl:b=256:=by omega
       rw[List.drop_of_length_le (by rw[r.len];exact Nat.le_refl _),fN] at hrow;subst hrow;simp only at hcon;have hencr:cq (jB row)=row.map (Value.int .i64):=by rw[cq,sd hrlen]
       rw[Nat.sub_self,List.replicate_zero,List.append_nil,<-hencr] at kz;have hil2:i<of.length:=(List.getElem?_eq_some_iff.1 hcur).1
       have nne:∀{b:Nat}{t:TypeId},dF g2 b t->153≠t->¬(cV vn.ownBlock b\/Array.size g2<=b):=fun kt ht e=>by
        rcases e with e|e
        · exact(mk.Dl _ e.symm).ne kt ht rfl
        · have:=kt.lt;omega
       have hzM:¬(cV vn.ownBlock g.size\/Array.size g2<=g.size):=by
        rintro(e|e)
        · exact hvz e.symm
        · have:=kz.lt;omega
       have hdM:=nne mk.dblk.ty (by decide);have hnx:aT g2 h2.size 153 256 vn next.length (next.flatMap cq):=mk.nx
       have hone:∀u∈cq (jB row),u.oneCell'=true:=fun u hu=>by simp[cq] at hu;obtain⟨_,_,rfl⟩:=hu;rfl
       have hg2:=mk.ext.size;refine bD rfl rfl ?_;refine av rfl ?_;refine bQ (fun b=>cV vn.ownBlock b\/Array.size g2<=b) (fun i=>Nat.blt i 10) (sz:=11) (listed:= #[false,false,false,false,false,false,false,false,false,false,false]) func30 H.mixed rfl rfl rfl ?_;refine cu 0 1 (by kernel_rfl) rfl ?_;refine cu 1 3 (by kernel_rfl) rfl ?_;refine cu 2 7 (by kernel_rfl) rfl ?_;refine bP 3 15 (by kernel_rfl) rfl (fun h' e=>af (off:=0) underlying149 rfl rfl H.jZ rfl) ?_;refine bP 4 31 (by kernel_rfl) rfl (fun h' e=>ai H.pW rfl (e.cell hdM (mk.dblk.cell (i:=0) rfl))) ?_;refine bP 5 63 (by kernel_rfl) rfl (fun h' e=>aj.aE H.uK H.jY rfl (e.rowAt hzM kz.row) (by first|rfl|(simp;done)|(simp;omega))) ?_;refine dZ 6 127 (by kernel_rfl) rfl (az.cE (cs:=cq (jB row)) underlying147 H.CA rfl (kY _) (by decide)) ?_;rintro _ _ ⟨rfl,rfl⟩;refine⟨fun _=>(Ext.push _ _ _),?_⟩;refine dZ 7 255 (by kernel_rfl) rfl (az.wE underlying147 H.CA rfl rfl hnx rfl (by simp) hone (by simp only[maxLen];omega) (by omega) hg2) ?_;rintro v3 g3 ⟨ho3,hx3,hx3',hv3⟩;refine⟨fun _=>hx3'.mono (fun _ _ k=>.inl k),?_⟩;obtain⟨a3,c3,rfl,_⟩:=ho3.open;refine dZ 8 511 (by kernel_rfl) rfl (aj.bq (aO rfl)) ?_;rintro _ hq_ ⟨rfl,hqe_⟩;replace hqe_:=hqe_.symm;subst hqe_;refine⟨fun _=>Ext.refl _ _,?_⟩;refine bP 9 1023 (by kernel_rfl) rfl (fun h' e=>af (off:=0) underlying149 rfl rfl H.jZ rfl) ?_;refine jG 10 2047 (by kernel_rfl) rfl (az.bA H.jZ rfl rfl (mk.dblk.ext hx3 (fun e=>hdM (.inl e))) (by first|decide|exact of_decide_eq_true rfl|(simp;done)|(simp;omega)) rfl) ?_;rintro _ g4 ⟨rfl,k4,x4,z4⟩;refine⟨fun hk=>(nomatch hk),?_⟩;have mk4:=mk.Jb (r:=jB row) rfl ho3 hx3 k4 x4;obtain⟨vn0,vr0,kd4,_,⟨ra,rn,rc,rfl,hrl0,hrc,hrm,hgetr⟩⟩:=id k2;obtain⟨x,hx⟩:∃x,d.rule[kk]? =some x:=⟨_,List.getElem?_eq_getElem (by omega)⟩
       have hru0:d.ru kk=x:=by unfold cn.ru;rw[List.getD_eq_getElem?_getD,hx];rfl
       obtain⟨b5,o5,cs5,ha5,hO5,hrow5,rfl⟩:=hgetr kk x hx;obtain⟨gg5,c5,hv5,_,_,hcell5,_,_⟩:=mk4.ol.at hcur;have hoa5:oa=some ⟨gg5,0,none⟩:=by cases hv5;rfl
       have rne:∀{b:Nat}{t:TypeId},dF g4 b t->3≠t->¬(cV vr.ownBlock b\/Array.size g4<=b):=fun kt ht e=>by
        rcases e with e|e
        · exact(mk4.Ch _ e.symm).ne kt ht rfl
        · have:=kt.lt;omega
       have hdM4:=rne mk4.dblk.ty (by decide);have hru:aT g4 h2.size 3 1 vr rule.length (rule.map (Value.int .i64)):=mk4.ru;have hg4s:=mk4.ext.size
       have olb:∀{b:Nat},b<h2.size->¬(cV vr.ownBlock b\/Array.size g4<=b):=fun kb e=>by
        rcases e with e|e
        · have:=(aT.lt mk4.ru e.symm).1;omega
        · omega
       have hc4:=kd4.cell (i:=1) rfl;have hd4:=olb (dX hc4);have hc5:cellAt h2 _=some (Value.int .i64 x):=hrow5 0 _ rfl;have hd5:=olb (dX hc5)
       have hd6:¬(cV vr.ownBlock gg5\/Array.size g4<=gg5):=fun e=>by
        rcases e with e|e
        · exact mk4.ne gg5 (by rw[hoa5];rfl) e.symm
        · have:=dX hcell5;simp only at this;omega
       refine bu (by kernel_rfl) ?_;refine xu [0,3,4,5,6,7,8,9,44,45,46] rfl ?_;refine bQ (fun b=>cV vr.ownBlock b\/Array.size g4<=b) (fun i=>Nat.blt i 19) (sz:=20) (listed:= #[false,false,false,false,false,false,false,false,false,false,false,false,false,false,false,false,false,false,false,false]) func30 H.mixed rfl rfl rfl ?_;refine cu 0 1 (by kernel_rfl) rfl ?_;refine cu 1 3 (by kernel_rfl) rfl ?_;refine cu 2 7 (by kernel_rfl) rfl ?_;refine bP 3 15 (by kernel_rfl) rfl (fun h' e=>af (off:=1) underlying149 rfl rfl H.gK rfl) ?_;refine bP 4 31 (by kernel_rfl) rfl (fun h' e=>ai H.nQ rfl (e.cell hdM4 (mk4.dblk.cell (i:=1) rfl))) ?_;refine cu 5 63 (by kernel_rfl) rfl ?_;refine cu 6 127 (by kernel_rfl) rfl ?_;refine bP 7 255 (by kernel_rfl) rfl (fun h' e=>af (off:=1) underlying149 rfl rfl H.gK rfl) ?_;refine bP 8 511 (by kernel_rfl) rfl (fun h' e=>ai H.nQ rfl (e.cell hd4 (mk4.ext.cell (fun k=>k) hc4))) ?_;refine cu 9 1023 (by kernel_rfl) rfl ?_;refine cu 10 2047 (by kernel_rfl) rfl ?_;refine bP 11 4095 (by kernel_rfl) rfl (fun h' e=>aj.aH underlying127 H.bV rfl rfl i rfl hoa5 (by omega)) ?_;refine bP 12 8191 (by kernel_rfl) rfl (fun h' e=>ai H.cK rfl (e.cell hd6 hcell5)) ?_;refine bP 13 16383 (by kernel_rfl) rfl (fun h' e=>aj.aH underlying127 H.bV rfl rfl kk rfl ha5 (by omega)) ?_;refine bP 14 32767 (by kernel_rfl) rfl (fun h' e=>ai H.cK rfl (e.cell hd5 (mk4.ext.cell (fun k=>k) hc5))) ?_;refine dZ 15 65535 (by kernel_rfl) rfl (az.bg (us:=[_]) underlying127 H.pP rfl rfl (by decide) (by simp[Value.oneCell'])) ?_;rintro _ _ ⟨rfl,rfl⟩;refine⟨fun _=>by first|exact Ext.push _ _ _|assumption,?_⟩;refine dZ 16 131071 (by kernel_rfl) rfl (az.bU underlying127 H.pP rfl rfl (hru) rfl rfl (by first|decide|simp[Value.oneCell']) (by omega) (by decide) (by omega)) ?_;rintro v6 g6 ⟨ho6,hx6,hx6',hv6⟩;refine⟨fun _=>hx6'.mono (fun _ _ k=>.inl k),?_⟩;obtain⟨a6,c6,rfl,_⟩:=ho6.open;refine dZ 17 262143 (by kernel_rfl) rfl (aj.bq (aO rfl)) ?_;rintro _ hq_ ⟨rfl,hqe_⟩;replace hqe_:=hqe_.symm;subst hqe_;refine⟨fun _=>Ext.refl _ _,?_⟩;refine bP 18 524287 (by kernel_rfl) rfl (fun h' e=>af (off:=1) underlying149 rfl rfl H.gK rfl) ?_;refine jG 19 1048575 (by kernel_rfl) rfl (az.bA H.gK rfl rfl (mk4.dblk.ext hx6 (fun e=>hdM4 (.inl e))) (by first|decide|exact of_decide_eq_true rfl|(simp;done)|(simp;omega)) rfl) ?_;rintro _ g7 ⟨rfl,k7,x7,z7⟩;refine⟨fun hk=>(nomatch hk),?_⟩;have mk7:=mk4.Ja (x:=x) rfl ho6 hx6 hv6 k7 x7;refine bu (by kernel_rfl) ?_;refine xu [0,3,4,5,6,7,8,9,44,45,46] rfl ?_;refine G.aR ?_;refine G.cz func30 rfl ?_;refine cI 1 rfl rfl (aj.bJ rfl rfl ⟨by omega,by omega⟩) ?_;refine aN 1 [0,3,4,5,6,7,8,9,44,45,46] rfl ?_;exact ih (i+1,_) _ _ ⟨rfl,rfl,rfl,rfl,rfl,rfl,rfl,trivial⟩ ⟨_,_,of,next++[jB row],rule++[x],mk7,hil2,hok2,⟨by simp[hnl],by simp[hrl]⟩,by rw[<-hru0,show d.next.length+1-(i+1)=n by omega];exact hcon⟩ (by show d.next.length+1-(i+1)<d.next.length+1-i;omega)
   · obtain rfl:i=of.length:=by omega
     obtain⟨n,hnn⟩:∃n,d.next.length+1-of.length=n+1:=⟨d.next.length-of.length,by omega⟩
     rw[hnn,zZ,List.getElem?_eq_none (Nat.le_refl _)] at hcon;simp only at hcon;refine bD rfl rfl ?_;refine bf func30 2 [0,2,3,4,5,6,7,8,32] rfl ?_;refine G.ret func30 rfl rfl ?_;have hz02:=(e1.trans e2).size;refine⟨_,rfl,⟨h2.size,rfl,?_⟩,(e1.trans e2).trans mk.ext⟩;rw[<-hcon];exact⟨vn,vr,by omega,mk.dblk,kK.read mk.nx (fun b hb k=>by omega),cR.read (h1:=fun _=>rfl) mk.ru (fun b hb k=>by omega)⟩
end
end Go.Proofs.YtmehdcdbeafljaaGreatDoor
namespace Go.Proofs.YtmehdcdbeafljaaGreatDoor
open Go
section
variable {ss:List bT}{st s k t:Nat}{cls:List Int}
def uW (L:List (List Nat)) (l:List Nat) (to:Int):Prop:=(l.length=0/\to= -1)\/(l.length≠0/\∃i:Nat,to=(i:Int)/\L[i]? =some l)
theorem uW.mono {L L':List (List Nat)}{l:List Nat}{to:Int}(k:uW L l to) (h:L <+: L'):uW L' l to:=by
 rcases k with k|⟨k,i,e,hi⟩
 · exact .inl k
 · obtain⟨t,rfl⟩:=h;exact .inr ⟨k,i,e,by rw[List.getElem?_append_left (List.getElem?_eq_some_iff.1 hi).1];exact hi⟩
theorem xl (ss:List bT) (cur:List Nat) (lists:List (List Nat)) (b:Nat) (hn:lists.Nodup) :
 lists <+: (dN ss cur lists b).1/\(dN ss cur lists b).1.Nodup/\uW (dN ss cur lists b).1 (cT ss (UInt8.ofNat b) cur) (dN ss cur lists b).2:=by
 unfold dN;split
 · rename_i h;exact⟨List.prefix_refl _,hn,.inl ⟨h,rfl⟩⟩
 · rename_i h;split
   · rename_i i hi;exact⟨List.prefix_refl _,hn,.inr ⟨h,i,rfl,(ox lists 0 i _ hi).2⟩⟩
   · rename_i hi;refine⟨List.prefix_append _ _,List.nodup_append.2 ⟨hn,by simp,fun x hx y hy e=>?_⟩,.inr ⟨h,lists.length,rfl,by simp⟩⟩;have:y=cT ss (UInt8.ofNat b) cur:=by simpa using hy
     exact tY lists 0 _ hi (by rw[<-this,<-e];exact hx)
theorem qn (ss:List bT) (cur:List Nat):∀(n b:Nat) (lists:List (List Nat)) (row:List Int),lists.Nodup ->
 lists <+: (kQ ss cur n b lists row).1/\(kQ ss cur n b lists row).1.Nodup/\∃ys,(kQ ss cur n b lists row).2=row++ys/\ys.length=n/\∀(j:Nat) (y:Int),ys[j]? =some y->uW (kQ ss cur n b lists row).1 (cT ss (UInt8.ofNat (b+j)) cur) y
 | 0,b,lists,row,hn=>⟨List.prefix_refl _,hn,[],by simp[kQ],rfl,fun j y h=>by simp at h⟩
 |n+1,b,lists,row,hn=>by
  obtain⟨h1,h2,h3⟩:=xl ss cur lists b hn;obtain⟨k1,k2,ys,k3,k4,k5⟩:=qn ss cur n (b+1) (dN ss cur lists b).1 (row++[(dN ss cur lists b).2]) h2;rw[kQ];refine⟨h1.trans k1,k2,(dN ss cur lists b).2::ys,by rw[k3];simp,by simp[k4],fun j y hy=>?_⟩;cases j with
  |zero =>
   simp only[List.getElem?_cons_zero,Option.some.injEq] at hy;subst hy;exact h3.mono k1
  |succ j =>
   rw[List.getElem?_cons_succ] at hy;have:=k5 j y hy
   rwa [show b+(j+1)=b+1+j by omega]
structure mR (ss:List bT) (st:Nat) (lists:List (List Nat)) (d:cn):Prop where
 first:lists[0]? =some (cL ss st)
 once:lists.Nodup
 size:lists.length<=2000
 rlen:d.rule.length=d.next.length
 row:∀(k:Nat) (r:Row) (l:List Nat),d.next[k]? =some r->lists[k]? =some l->∀(b:Nat) (y:Int),r.v[b]? =some y->uW lists (cT ss (UInt8.ofNat b) l) y
 rule:∀(k:Nat) (x:Int) (l:List Nat),d.rule[k]? =some x->lists[k]? =some l->x=bG ss l
theorem rB {ss:List bT}{st:Nat}:∀(n k:Nat) (lists:List (List Nat)) (next:List Row) (rule:List Int) (d:cn),mR ss st lists ⟨next,rule⟩->next.length=k->k<=lists.length->jP ss n k lists next rule=some d->∃L,lists <+: L/\mR ss st L d/\L.length=d.next.length
 | 0,k,lists,next,rule,d,h,hk,hkl,hd=>by cases hd
 |n+1,k,lists,next,rule,d,h,hk,hkl,hd=>by
  rw[jP] at hd;split at hd
  · rename_i hn;cases hd;have:=List.getElem?_eq_none_iff.1 hn;exact⟨lists,List.prefix_refl _,h,by show lists.length=next.length;omega⟩
  · rename_i cur hcur;obtain⟨h1,h2,ys,h3,h4,h5⟩:=qn ss cur 256 0 lists [] h.once;split at hd
    · cases hd
    · rename_i hsz;have hkl2:=(List.getElem?_eq_some_iff.1 hcur).1
      have hpre:∀(i:Nat) (l:List Nat),i<lists.length->(kQ ss cur 256 0 lists []).1[i]? =some l->lists[i]? =some l:=fun i l hi hl=>by
       obtain⟨t,ht⟩:=h1;rw[<-ht,List.getElem?_append_left hi] at hl;exact hl
      have hpre2:∀(i:Nat) (l:List Nat),lists[i]? =some l->(kQ ss cur 256 0 lists []).1[i]? =some l:=fun i l hl=>by
       obtain⟨t,ht⟩:=h1;rw[<-ht,List.getElem?_append_left (List.getElem?_eq_some_iff.1 hl).1];exact hl
      have hlen:=h1.length_le;have hrl:rule.length=next.length:=h.rlen
      obtain⟨L,g1,g2,g3⟩:=rB (st:=st) n (k+1) _ _ _ d ⟨hpre2 _ _ h.first,h2,by omega,by simp[hrl],fun i r l hr hl b y hy=>by
       rcases Nat.lt_or_ge i next.length with hi|hi
       · rw[List.getElem?_append_left hi] at hr;exact(h.row i r l hr (hpre i l (by omega) hl) b y hy).mono h1
       · have hik:i=next.length:=by
          have:=(List.getElem?_eq_some_iff.1 hr).1;simp at this;omega
         subst hik;simp only[List.getElem?_concat_length,Option.some.injEq] at hr;subst hr;have hlc:=hpre _ l (by omega) hl;rw[hk] at hlc;rw[hcur] at hlc;cases hlc;rw[h3,List.nil_append,sd h4] at hy;have:=h5 b y hy
         rwa [Nat.zero_add] at this,fun i x l hx hl=>by
       rcases Nat.lt_or_ge i rule.length with hi|hi
       · rw[List.getElem?_append_left hi] at hx;exact h.rule i x l hx (hpre i l (by omega) hl)
       · have hik:i=rule.length:=by
          have:=(List.getElem?_eq_some_iff.1 hx).1;simp at this;omega
         subst hik;simp only[List.getElem?_concat_length,Option.some.injEq] at hx;subst hx;have hlc:=hpre _ l (by omega) hl;rw[hrl,hk,hcur] at hlc;cases hlc;rfl⟩ (by simp[hk]) (by omega) hd
      exact⟨L,h1.trans g1,g2,g3⟩
theorem uQ {ss:List bT}(hr:∀x∈ss,x.rule<=1000000):∀(l:List Nat) (b:Int),-1<=b/\b<=1000000-> -1<=pY ss l b/\pY ss l b<=1000000
 | [],b,h=>h
 |j::r,b,h=>by
  rw[pY];refine uQ hr r _ ?_;split
  · rename_i x hx;split
    · have:=hr x (List.mem_of_getElem? hx);omega
    · exact h
  · exact h
theorem uO (hr:∀x∈ss,x.rule<=1000000) (l:List Nat) : -1<=bG ss l/\bG ss l<=1000000:=by
 unfold bG;split
 · omega
 · exact uQ hr l (-1) (by omega)
theorem mR.ok {L:List (List Nat)}{d:cn}(k:mR ss st L d) (hL:L.length=d.next.length) (hr:∀x∈ss,x.rule<=1000000):d.Ok:=by
 refine⟨k.rlen,by rw[<-hL];exact k.size,fun r hrm x hx=>?_,fun x hx=>?_⟩
 · obtain⟨i,hi⟩:=List.getElem?_of_mem hrm;obtain⟨j,hj⟩:=List.getElem?_of_mem hx;have hil:=(List.getElem?_eq_some_iff.1 hi).1;have hl:L[i]? =some (L[i]'(by omega)):=List.getElem?_eq_getElem _
   rcases k.row i r _ hi hl j x hj with ⟨_,rfl⟩|⟨_,i2,rfl,h2⟩
   · omega
   · have:=(List.getElem?_eq_some_iff.1 h2).1;omega
 · obtain⟨i,hi⟩:=List.getElem?_of_mem hx;have hil:=(List.getElem?_eq_some_iff.1 hi).1;have hl:L[i]? =some (L[i]'(by rw[hL,<-k.rlen];exact hil)):=List.getElem?_eq_getElem _;rw[k.rule i x _ hi hl];exact uO hr _
theorem iM {d:cn}(h:gj ss st= .inr d):(cL ss st).length≠0/\∃L,mR ss st L d/\L.length=d.next.length/\0<L.length:=by
 unfold gj at h;split at h
 · cases h
 · rename_i hs;refine⟨hs,?_⟩;split at h
   · cases h
   · rename_i d' hd;cases h;obtain⟨L,h1,h2,h3⟩:=rB (st:=st) 2002 0 [cL ss st] [] [] d ⟨rfl,by simp,by simp,rfl,fun k r l hr=>by simp at hr,fun k x l hx=>by simp at hx⟩ rfl (by simp) hd;exact⟨L,h2,h3,by have:=(List.getElem?_eq_some_iff.1 h2.first).1;omega⟩
theorem DR {d:cn}(h:gj ss st= .inr d) (hr:∀x∈ss,x.rule<=1000000):d.Ok:=by
 obtain⟨_,L,h1,h2,_⟩:=iM h;exact h1.ok h2 hr
theorem mR.to {ss:List bT}{st0:Nat}{L:List (List Nat)}{d:cn}(k:mR ss st0 L d) (hL:L.length=d.next.length){st:Nat}{now:List Nat}(hn:L[st]? =some now) (c:UInt8):uW L (cT ss c now) (d.to st c):=by
 have hl:=(List.getElem?_eq_some_iff.1 hn).1;have hr:d.next[st]? =some (d.next[st]'(by omega)):=List.getElem?_eq_getElem _
 obtain⟨x,hx,he,hm⟩:=(d.next[st]'(by omega)).at c;unfold cn.to;rw[hr];simp only;rw[he];have:=k.row st _ now hr hn c.toNat x hx
 rwa [UInt8.ofNat_toNat] at this
theorem mR.ru {ss:List bT}{st0:Nat}{L:List (List Nat)}{d:cn}(k:mR ss st0 L d) (hL:L.length=d.next.length){st:Nat}{now:List Nat}(hn:L[st]? =some now):d.ru st=bG ss now:=by
 have hl:=(List.getElem?_eq_some_iff.1 hn).1;have hlt:st<d.rule.length:=by rw[k.rlen];omega
 have hr:d.rule[st]? =some (d.rule[st]'hlt):=List.getElem?_eq_getElem _;have:=k.rule st _ now hr hn;unfold cn.ru;rw[List.getD_eq_getElem?_getD,hr];exact this
theorem rA {ss:List bT}{st0:Nat}{L:List (List Nat)}{d:cn}(k:mR ss st0 L d) (hL:L.length=d.next.length):∀(l:By) (st j:Nat) (now:List Nat) (b:Int×Int),L[st]? =some now->now.length≠0 ->
 ((bz d l st j b).1,(bz d l st j b).2.1)=jb ss l now j b
 | [],st,j,now,b,hn,h0=>by
  rw[bz,jb,if_neg h0,k.ru hL hn];split<;>rfl
 |c::l,st,j,now,b,hn,h0=>by
  rw[bz,jb,if_neg h0,k.ru hL hn]
  rcases k.to hL hn c with ⟨e,h⟩|⟨e,i,h,hi⟩
  · rw[h,if_neg (by decide),th e];split<;>rfl
  · rw[h,if_pos (by omega),Int.toNat_natCast];exact rA k hL l i (j+1) _ _ hi e
theorem pS {d:cn}(h:gj ss st= .inr d) (hs:ss.length≠0) (l:By):((bz d l 0 0 (0,-1)).1,(bz d l 0 0 (0,-1)).2.1)=dQ ss st l:=by
 obtain⟨h0,L,h1,h2,_⟩:=iM h;rw[dQ,if_neg hs];exact rA h1 h2 l 0 0 _ _ h1.first h0
def cn.go (d:cn):By->Int->Int
 | [],s=>s
 |c::l,s=>cn.go d l (if s<0 then -1 else d.to s.toNat c)
def cn.fM (d:cn) (s:Int) (w:By):Int:=if d.go w s<0 then -1 else d.ru (d.go w s).toNat
theorem go_neg (d:cn):∀(w:By) (s:Int),s<0->d.go w s<0
 | [],s,h=>h
 |c::l,s,h=>by
  rw[cn.go,if_pos h];exact go_neg d l (-1) (by decide)
theorem kf (d:cn) (w:By){s:Int}(h:s<0):d.fM s w= -1:=by rw[cn.fM,if_pos (go_neg d w s h)]
theorem dS (d:cn) (k:Nat):d.fM (k:Int) []=d.ru k:=by
 rw[cn.fM,cn.go,if_neg (by omega),Int.toNat_natCast]
theorem eC (d:cn) (k:Nat) (c:UInt8) (w:By):d.fM (k:Int) (c::w)=d.fM (d.to k c) w:=by
 have h:¬((k:Int)<0):=by omega
 rw[cn.fM,cn.fM,cn.go,if_neg h,Int.toNat_natCast]
def Gw (d:cn) (k:Nat):Prop:=∃w,0<=d.fM (k:Int) w
def gV (d:cn) (out:List Bool):Prop:=∀k:Nat,out.getD k false=true->Gw d k
theorem EN {d:cn}{t:Int}(h:t∈d.row k):∃c:UInt8,d.to k c=t:=by
 unfold cn.row at h;split at h
 · rename_i r hr;obtain⟨i,hi⟩:=List.getElem?_of_mem h;have hl:=(List.getElem?_eq_some_iff.1 hi).1;rw[r.len] at hl;refine⟨UInt8.ofNat i,?_⟩;have hc:(UInt8.ofNat i).toNat=i:=by simp;omega
   unfold cn.to;rw[hr];simp only;rw[hc,List.getD_eq_getElem?_getD,hi];rfl
 · cases h
theorem I0 {d:cn}(c:UInt8) (h:k<d.next.length):d.to k c∈d.row k:=by
 have hr:d.next[k]? =some (d.next[k]'h):=List.getElem?_eq_getElem _
 obtain⟨x,hx,he,hm⟩:=(d.next[k]'h).at c;unfold cn.to cn.row;rw[hr];simp only;rw[he];exact hm
theorem xF {d:cn}{out:List Bool}(h:gV d out) (k:Nat) (ha:dK d out k=true):Gw d k:=by
 unfold dK at ha
 rcases Bool.or_eq_true _ _▸ha with e|e
 · exact⟨[],by rw[dS];exact of_decide_eq_true e⟩
 · obtain⟨t,ht,hl⟩:=List.any_eq_true.1 e;unfold fZ at hl;rw[Bool.and_eq_true] at hl;have h0:=of_decide_eq_true hl.1;obtain⟨c,hc⟩:=EN ht;obtain⟨w,hw⟩:=h t.toNat hl.2;refine⟨c::w,?_⟩;rw[eC,hc]
   rwa [Int.toNat_of_nonneg h0] at hw
theorem C8 {d:cn}{out:List Bool}(h:gV d out) (k:Nat):gV d (out.set k (dK d out k)):=by
 intro j hj
 by_cases e:k=j
 · subst e;rw[List.getD_eq_getElem?_getD] at hj
   by_cases hk:k<out.length
   · rw[List.getElem?_set_self hk] at hj;exact xF h k hj
   · rw[List.getElem?_eq_none (by simp;omega)] at hj;cases hj
 · rw[List.getD_eq_getElem?_getD,List.getElem?_set_ne e,<-List.getD_eq_getElem?_getD] at hj;exact h j hj
theorem je {d:cn}:∀(n k:Nat) (out:List Bool) (ag:Bool),gV d out->gV d (cD d n k out ag).1
 | 0,_,_,_,h=>h
 |n+1,k,out,ag,h=>by
  rw[cD];split
  · exact je n (k+1) out ag h
  · exact je n (k+1) _ _ (C8 h k)
theorem jd {d:cn}:∀(n k:Nat) (out:List Bool) (ag:Bool),k+n<=out.length->(cD d n k out ag).2=false->(cD d n k out ag).1=out/\∀j,k<=j->j<k+n->out.getD j false=false->dK d out j=false
 | 0,_,_,_,_,_=>⟨rfl,fun j h1 h2=>by omega⟩
 |n+1,k,out,ag,hk,h=>by
  rw[cD] at h ⊢;split at h
  · rename_i hg;rw[if_pos hg];obtain⟨h1,h2⟩:=jd n (k+1) out ag (by omega) h
    exact⟨h1,fun j hj1 hj2 hj3=>by
     by_cases e:j=k
     · subst e;rw[hg] at hj3;cases hj3
     · exact h2 j (by omega) (by omega) hj3⟩
  · rename_i hg;rw[if_neg hg]
    have hf:out[k]? =some false:=by
     rw[List.getD_eq_getElem?_getD,List.getElem?_eq_getElem (by omega)] at hg;rw[List.getElem?_eq_getElem (by omega)];simpa using hg
    obtain⟨h1,h2⟩:=jd n (k+1) _ _ (by simp;omega) h
    have hb:dK d out k=false:=by
     cases hb:dK d out k with
     |false=>rfl
     |true =>
      exfalso;rw[hb,Bool.or_true] at h
      have hmono:∀(n k:Nat) (out:List Bool),(cD d n k out true).2=true:=fun n=>by
       induction n with
       |zero=>intro k out;rfl
       |succ n ih=>intro k out;rw[cD];split<;>simp[ih]
      rw[hmono] at h;cases h
    have hset:out.set k (dK d out k)=out:=by
     rw[hb]
     apply List.ext_getElem?
     intro j
     by_cases e:k=j
     · subst e;rw[List.getElem?_set_self (by omega),hf]
     · rw[List.getElem?_set_ne e]
    rw[hset] at h1 h2;rw[hset]
    exact⟨h1,fun j hj1 hj2 hj3=>by
     by_cases e:j=k
     · subst e;exact hb
     · exact h2 j (by omega) (by omega) hj3⟩
def uV (d:cn) (out:List Bool):Prop:=∀k,k<d.next.length->out.getD k false=false->dK d out k=false
theorem tu {d:cn}:∀(n:Nat) (out:List Bool),out.length=d.next.length->gi out<n->gV d out->gV d (pg d n out)/\uV d (pg d n out)
 | 0,_,_,h,_=>absurd h (Nat.not_lt_zero _)
 |n+1,out,hl,hf,hs=>by
  have hless:=gY d d.next.length 0 out false (by omega)
  have hsp:=je d.next.length 0 out false hs
  rw[pg];split
  · rename_i ht
    rcases hless.2 ht with e|e
    · cases e
    · exact tu n _ (by rw[gD];exact hl) (by omega) hsp
  · rename_i ht;have hst:=jd d.next.length 0 out false (by omega) (by simpa using ht)
    rw[hst.1];exact⟨hs,fun k hk hko=>hst.2 k (Nat.zero_le _) (by omega) hko⟩
theorem pU {d:cn}{out:List Bool}(hok:d.Ok) (h:uV d out):∀(w:By) (k:Nat),k<d.next.length->0<=d.fM (k:Int) w->out.getD k false=true
 | [],k,hk,hw=>by
  rw[dS] at hw;cases ho:out.getD k false with
  |true=>rfl
  |false =>
   have:=h k hk ho;unfold dK at this;rw[decide_eq_true hw] at this;cases this
 |c::w,k,hk,hw=>by
  rw[eC] at hw;have ht:=cn.oQ hok (s:=k) c
  have h0:0<=d.to k c:=by
   by_cases e:d.to k c<0
   · rw[kf d w e] at hw;omega
   · omega
  obtain⟨t,htt⟩:=Int.eq_ofNat_of_zero_le h0;rw[htt] at hw;have ih:=pU hok h w t (by omega) hw;cases ho:out.getD k false with
  |true=>rfl
  |false =>
   have:=h k hk ho;unfold dK at this;rw[Bool.or_eq_false_iff] at this;have h2:=List.any_eq_false.1 this.2 _ (I0 c hk);unfold fZ at h2;rw[htt,Int.toNat_natCast,ih] at h2;simp at h2
theorem tq {d:cn}(hok:d.Ok) (hk:k<d.next.length):(bK d).getD k false=true↔Gw d k:=by
 have h:=tu (d:=d) (d.next.length+1) (List.replicate d.next.length false) (by simp) (by
  have:gi (List.replicate d.next.length false)<=d.next.length:=by unfold gi;exact Nat.le_trans (List.length_filter_le _ _) (by simp)
  omega) (fun k hk=>by
   rw[List.getD_eq_getElem?_getD,List.getElem?_replicate] at hk;split at hk<;>cases hk)
 exact⟨h.1 k,fun⟨w,hw⟩=>pU hok h.2 w k hk hw⟩
structure CN (d:cn) (live:List Bool) (cls:List Int) (k:Nat) (seen:List (List Int)) (after:List Int):Prop where
 len:after.length=k
 once:seen.Nodup
 at_:∀j,j<k->∃i:Nat,after[j]? =some (i:Int)/\seen[i]? =some (fA d live cls j)
theorem ud:∀(ls:List (List Int)) (i:Nat) (l:List Int),jD i ls l=none->l∉ls
 | [],i,l,_=>List.not_mem_nil
 |x::r,i,l,h=>by
  rw[jD] at h;split at h
  · cases h
  · rename_i e;have:=ud r (i+1) l h;simp only[List.mem_cons,not_or];exact⟨e,this⟩
theorem jQ {d:cn}{live:List Bool}{cls:List Int}:∀(n k:Nat) (seen:List (List Int)) (after:List Int),CN d live cls k seen after->CN d live cls (k+n) (bF d live cls n k seen after).1 (bF d live cls n k seen after).2
 | 0,k,seen,after,h=>h
 |n+1,k,seen,after,h=>by
  rw[bF,show k+(n+1)=(k+1)+n by omega];split
  · rename_i i hi;have hi':=oy seen 0 i _ hi;refine jQ n (k+1) _ _ ⟨by simp[h.len],h.once,fun j hj=>?_⟩
    by_cases e:j=k
    · subst e;refine⟨i,?_,hi'.2⟩;rw[<-h.len,List.getElem?_concat_length]
    · obtain⟨i',h1,h2⟩:=h.at_ j (by omega);exact⟨i',by rw[List.getElem?_append_left (by rw[h.len];omega)];exact h1,h2⟩
  · rename_i hi;have hno:=ud seen 0 _ hi;refine jQ n (k+1) _ _ ⟨by simp[h.len],List.nodup_append.2 ⟨h.once,by simp,fun a ha b hb e=>?_⟩,fun j hj=>?_⟩
    · have:b=fA d live cls k:=by simpa using hb
      rw[e,this] at ha;exact hno ha
    · by_cases e:j=k
      · subst e;refine⟨seen.length,?_,by rw[List.getElem?_concat_length]⟩;rw[<-h.len,List.getElem?_concat_length]
      · obtain⟨i',h1,h2⟩:=h.at_ j (by omega);exact⟨i',by rw[List.getElem?_append_left (by rw[h.len];omega)];exact h1,by rw[List.getElem?_append_left (List.getElem?_eq_some_iff.1 h2).1];exact h2⟩
theorem jR {d:cn}{live:List Bool}(hs:s<d.next.length) (ht:t<d.next.length) :
 (bF d live cls d.next.length 0 [] []).2.getD s 0=(bF d live cls d.next.length 0 [] []).2.getD t 0↔fA d live cls s=fA d live cls t:=by
 have h:=jQ (d:=d) (live:=live) (cls:=cls) d.next.length 0 [] [] ⟨rfl,by simp,fun j hj=>absurd hj (Nat.not_lt_zero _)⟩
 rw[Nat.zero_add] at h;obtain⟨i,h1,h2⟩:=h.at_ s hs;obtain⟨j,h3,h4⟩:=h.at_ t ht;rw[List.getD_eq_getElem?_getD,List.getD_eq_getElem?_getD,h1,h3];constructor
 · intro e
   have:i=j:=by
    have e':(i:Int)=(j:Int):=e;omega
   subst this;rw[h2] at h4;exact Option.some.inj h4
 · intro e;rw[<-e] at h4;have hi:=(List.getElem?_eq_some_iff.1 h2)
   have hj:=(List.getElem?_eq_some_iff.1 h4)
   obtain⟨hi1,hi2⟩:=hi;obtain⟨hj1,hj2⟩:=hj
   have:i=j:=by
    rcases Nat.lt_trichotomy i j with e|e|e
    · exact absurd (hi2.trans hj2.symm) (List.pairwise_iff_getElem.1 h.once i j hi1 hj1 e)
    · exact e
    · exact absurd (hj2.trans hi2.symm) (List.pairwise_iff_getElem.1 h.once j i hj1 hi1 e)
   subst this;rfl
theorem rE:∀(m:Nat) (l:List Int),jt m l->l.length=m->l.Nodup
 | 0,l,_,hl=>by rw[List.length_eq_zero_iff.1 hl];exact List.Pairwise.nil
 |m+1,l,h,hl=>by
  have hm:=h m (Nat.lt_succ_self m);have h1:jt m (l.erase (m:Int)):=fun i hi=>(List.mem_erase_of_ne (by omega)).2 (h i (by omega))
  have h3:=List.length_erase_of_mem hm;have h2:=rE m _ h1 (by omega)
  have hno:(m:Int)∉l.erase (m:Int):=fun hin=>by
   have h4:jt m ((l.erase (m:Int)).erase (m:Int)):=fun i hi=>(List.mem_erase_of_ne (by omega)).2 (h1 i hi)
   have h5:=oB _ _ h4;have h6:=List.length_erase_of_mem hin;have h7:=List.length_pos_of_mem hin;omega
  exact(List.perm_cons_erase hm).nodup_iff.2 (List.nodup_cons.2 ⟨hno,h2⟩)
theorem oX {d:cn}(hs:s<d.next.length) (c:UInt8):(d.row s)[c.toNat]? =some (d.to s c):=by
 have hr:d.next[s]? =some (d.next[s]'hs):=List.getElem?_eq_getElem _
 obtain⟨x,hx,he,_⟩:=(d.next[s]'hs).at c;unfold cn.row cn.to;rw[hr];simp only;rw[he];exact hx
theorem xh {d:cn}(hs:s<d.next.length):(d.row s).length=256:=by
 have hr:d.next[s]? =some (d.next[s]'hs):=List.getElem?_eq_getElem _
 unfold cn.row;rw[hr];exact(d.next[s]'hs).len
theorem Cj {d:cn}(hs:s<d.next.length) (ht:t<d.next.length) (f:Int->Int):(d.row s).map f=(d.row t).map f↔∀c:UInt8,f (d.to s c)=f (d.to t c):=by
 constructor
 · intro e c;have:=congrArg (fun l=>l[c.toNat]?) e;simp only[List.getElem?_map,oX hs c,oX ht c,Option.map_some,Option.some.injEq] at this;exact this
 · intro h
   apply List.ext_getElem?
   intro i
   by_cases hi:i<256
   · have hc:(UInt8.ofNat i).toNat=i:=by simp;omega
     have h1:=oX hs (UInt8.ofNat i);have h2:=oX ht (UInt8.ofNat i);rw[hc] at h1 h2;rw[List.getElem?_map,List.getElem?_map,h1,h2,Option.map_some,Option.map_some,h]
   · rw[List.getElem?_eq_none (by rw[List.length_map,xh hs];omega),List.getElem?_eq_none (by rw[List.length_map,xh ht];omega)]
def Alike (d:cn) (a b:Int):Prop:=∀w,d.fM a w=d.fM b w
theorem Cf {d:cn}(hok:d.Ok) (a:Int) (w:By) : -1<=d.fM a w:=by
 unfold cn.fM;split
 · omega
 · unfold cn.ru;rw[List.getD_eq_getElem?_getD];cases h:d.rule[(d.go w a).toNat]? with
   |none=>decide
   |some x=>exact(hok.ru x (List.mem_of_getElem? h)).1
theorem ji {d:cn}(hok:d.Ok){a:Int}(ha:a<d.next.length):(a<0\/(bK d).getD a.toNat false=false)↔∀w,d.fM a w= -1:=by
 constructor
 · intro h w
   rcases h with h|h
   · exact kf d w h
   · by_cases hn:a<0
     · exact kf d w hn
     · obtain⟨k,rfl⟩:=Int.eq_ofNat_of_zero_le (show 0<=a by omega);have hl:=tq hok (k:=k) (by omega);have hg:=Cf hok (k:Int) w
       by_cases hw:0<=d.fM (k:Int) w
       · rw[Int.toNat_natCast,hl.2 ⟨w,hw⟩] at h;cases h
       · omega
 · intro h
   by_cases hn:a<0
   · exact .inl hn
   · right
     obtain⟨k,rfl⟩:=Int.eq_ofNat_of_zero_le (show 0<=a by omega);have hl:=tq hok (k:=k) (by omega);rw[Int.toNat_natCast];cases hb:(bK d).getD k false with
     |false=>rfl
     |true =>
      obtain⟨w,hw⟩:=hl.1 hb;have:=h w;omega
structure rK (d:cn) (cls:List Int):Prop where
 len:cls.length=d.next.length
 ge:∀k,-1<=cls.getD k 0
 alike:∀s t:Nat,s<d.next.length->t<d.next.length->Alike d s t->cls.getD s 0=cls.getD t 0
 rule:∀s t:Nat,s<d.next.length->t<d.next.length->cls.getD s 0=cls.getD t 0->d.ru s=d.ru t
theorem yy {d:cn}(hok:d.Ok) (k:rK d cls){a b:Int}(ha:a<d.next.length) (hb:b<d.next.length) (h:Alike d a b):cJ (bK d) cls a=cJ (bK d) cls b:=by
 by_cases hd:a<0\/(bK d).getD a.toNat false=false
 · have hd':b<0\/(bK d).getD b.toNat false=false:=(ji hok hb).2 fun w=>by rw[<-h w];exact(ji hok ha).1 hd w
   rw[cJ,if_pos hd,cJ,if_pos hd']
 · have hd':¬(b<0\/(bK d).getD b.toNat false=false):=fun e=>hd ((ji hok ha).2 fun w=>by rw[h w];exact(ji hok hb).1 e w)
   rw[cJ,if_neg hd,cJ,if_neg hd']
   have ha0:0<=a:=by
    by_cases e:a<0
    · exact absurd (.inl e) hd
    · omega
   have hb0:0<=b:=by
    by_cases e:b<0
    · exact absurd (.inl e) hd'
    · omega
   exact k.alike a.toNat b.toNat (by omega) (by omega) (by rw[Int.toNat_of_nonneg ha0,Int.toNat_of_nonneg hb0];exact h)
theorem DC {d:cn}(hok:d.Ok) (k:rK d cls) (hs:s<d.next.length) (ht:t<d.next.length) (h:Alike d s t):fA d (bK d) cls s=fA d (bK d) cls t:=by
 unfold fA;rw[k.alike s t hs ht h,(Cj hs ht _).2 fun c=>yy hok k (cn.oQ hok c).2 (cn.oQ hok c).2 fun w=>by rw[<-eC,<-eC];exact h (c::w)]
theorem Ar {d:cn}{live:List Bool}(h:fA d live cls s=fA d live cls t):cls.getD s 0=cls.getD t 0:=by
 unfold fA at h;exact(List.cons.inj h).1
theorem ES {d:cn}(hok:d.Ok) (k:rK d cls):rK d (bF d (bK d) cls d.next.length 0 [] []).2:=by
 have hend:=eW d (bK d) cls;refine⟨hend.len,fun j=>?_,fun s t hs ht h=>(jR hs ht).2 (DC hok k hs ht h),fun s t hs ht h=>k.rule s t hs ht (Ar ((jR hs ht).1 h))⟩;rw[List.getD_eq_getElem?_getD];cases hx:(bF d (bK d) cls d.next.length 0 [] []).2[j]? with
 |none=>decide
 |some x=>have:=hend.bound x (List.mem_of_getElem? hx);show -1<=x;omega
theorem rV {d:cn}(hok:d.Ok) (hs:s<d.next.length):d.rule.getD s 0=d.ru s:=by
 have hl:=hok.len;unfold cn.ru;rw[List.getD_eq_getElem?_getD,List.getD_eq_getElem?_getD,List.getElem?_eq_getElem (by omega)];rfl
theorem EM {d:cn}(hok:d.Ok):rK d d.rule:=by
 refine⟨hok.len,fun k=>?_,fun s t hs ht h=>?_,fun s t hs ht h=>?_⟩
 · rw[List.getD_eq_getElem?_getD];cases hx:d.rule[k]? with
   |none=>decide
   |some x=>exact(hok.ru x (List.mem_of_getElem? hx)).1
 · rw[rV hok hs,rV hok ht];have:=h []
   rwa [dS,dS] at this
 · rwa [rV hok hs,rV hok ht] at h
theorem oS {d:cn}(hok:d.Ok){cls:List Int}(k:rK d cls) (hst:∀s t,s<d.next.length->t<d.next.length->cls.getD s 0=cls.getD t 0->fA d (bK d) cls s=fA d (bK d) cls t):∀(w:By) (s t:Nat),s<d.next.length->t<d.next.length->cls.getD s 0=cls.getD t 0->d.fM (s:Int) w=d.fM (t:Int) w
 | [],s,t,hs,ht,h=>by rw[dS,dS];exact k.rule s t hs ht h
 |c::w,s,t,hs,ht,h=>by
  rw[eC,eC];have hk:=hst s t hs ht h;unfold fA at hk;have hb:=(Cj hs ht _).1 (List.cons.inj hk).2 c;have ha:=(cn.oQ hok (s:=s) c).2;have hb2:=(cn.oQ hok (s:=t) c).2;generalize d.to s c=a at *;generalize d.to t c=b at *
  by_cases hd:a<0\/(bK d).getD a.toNat false=false
  · have hd':b<0\/(bK d).getD b.toNat false=false:=by
     by_cases e:b<0\/(bK d).getD b.toNat false=false
     · exact e
     · rw[cJ,if_pos hd,cJ,if_neg e] at hb;have:=k.ge b.toNat;omega
    rw[(ji hok ha).1 hd w,(ji hok hb2).1 hd' w]
  · by_cases hd':b<0\/(bK d).getD b.toNat false=false
    · rw[cJ,if_neg hd,cJ,if_pos hd'] at hb;have:=k.ge a.toNat;omega
    · rw[cJ,if_neg hd,cJ,if_neg hd'] at hb
      have ha0:0<=a:=by
       by_cases e:a<0
       · exact absurd (.inl e) hd
       · omega
      have hb0:0<=b:=by
       by_cases e:b<0
       · exact absurd (.inl e) hd'
       · omega
      have ih:=oS hok k hst w a.toNat b.toNat (by omega) (by omega) hb
      rwa [Int.toNat_of_nonneg ha0,Int.toNat_of_nonneg hb0] at ih
theorem rG {d:cn}(hok:d.Ok):∀(n many:Nat) (cls:List Int),rK d cls->jt many cls->many<=d.next.length->d.next.length+1<=n+many->rK d (jS d (bK d) n many cls)/\∀s t:Nat,s<d.next.length->t<d.next.length->(jS d (bK d) n many cls).getD s 0=(jS d (bK d) n many cls).getD t 0->Alike d s t
 | 0,many,cls,k,hc,hm,hf=>by omega
 |n+1,many,cls,k,hc,hm,hf=>by
  have hend:=eW d (bK d) cls;have hmore:=mG (live:=bK d) hc k.len;have hp:=ES hok k;rw[jS];split
  · rename_i he;refine⟨hp,fun s t hs ht h w=>?_⟩;have hkey:=(jR hs ht).1 h;refine oS hok k (fun s t hs ht h=>?_) w s t hs ht (Ar hkey)
    have hcov:jt many ((bF d (bK d) cls d.next.length 0 [] []).1.map fun s=>s.getD 0 0):=fun i hi=>by
     obtain⟨k',hk'⟩:=List.getElem?_of_mem (hc i hi);have hkl:=(List.getElem?_eq_some_iff.1 hk').1;have:=hend.all k' (by have:=k.len;omega);refine List.mem_map.2 ⟨_,this,?_⟩;simp[fA,List.getD_eq_getElem?_getD,hk']
    have hon:=rE many _ hcov (by simpa using he);obtain⟨i,hi⟩:=List.getElem?_of_mem (hend.all s hs);obtain⟨j,hj⟩:=List.getElem?_of_mem (hend.all t ht);have h1:((bF d (bK d) cls d.next.length 0 [] []).1.map fun s=>s.getD 0 0)[i]? =some (cls.getD s 0):=by rw[List.getElem?_map,hi];rfl
    have h2:((bF d (bK d) cls d.next.length 0 [] []).1.map fun s=>s.getD 0 0)[j]? =some (cls.getD s 0):=by rw[List.getElem?_map,hj,h];rfl
    obtain⟨hi1,hi2⟩:=List.getElem?_eq_some_iff.1 h1;obtain⟨hj1,hj2⟩:=List.getElem?_eq_some_iff.1 h2
    have hij:i=j:=by
     rcases Nat.lt_trichotomy i j with e|e|e
     · exact absurd (hi2.trans hj2.symm) (List.pairwise_iff_getElem.1 hon i j hi1 hj1 e)
     · exact e
     · exact absurd (hj2.trans hi2.symm) (List.pairwise_iff_getElem.1 hon j i hj1 hi1 e)
    subst hij;rw[hi] at hj;exact Option.some.inj hj
  · rename_i hne;have hsz:=hend.size;exact rG hok n _ _ hp hend.nY hsz (by omega)
theorem mH {d:cn}(hok:d.Ok) (hs:s<d.next.length) (ht:t<d.next.length):(ef d (bK d)).getD s 0=(ef d (bK d)).getD t 0↔Alike d s t:=by
 have h:=rG hok (d.next.length+1) 0 d.rule (EM hok) (fun i hi=>absurd hi (Nat.not_lt_zero _)) (Nat.zero_le _) (by omega);exact⟨h.2 s t hs ht,h.1.alike s t hs ht⟩
def iF (B:Nat) (ss:List bT):Prop:=∀x∈ss,x.rule<=B
theorem iF.snoc {B:Nat}(k:iF B ss){x:bT}(h:x.rule<=B):iF B (ss++[x]):=fun y hy=>by
 rcases List.mem_append.1 hy with e|e
 · exact k y e
 · have:y=x:=by simpa using e
   rw[this];exact h
theorem iF.set {B:Nat}{ss:List bT}(k:iF B ss){x:bT}(h:x.rule<=B) (i:Nat):iF B (ss.set i x):=fun y hy=>by
 rcases List.mem_or_eq_of_mem_set hy with e|e
 · exact k y e
 · rw[e];exact h
end
mutual
theorem xK (B:Nat):∀(x:Nd) (ss:List bT) (to:Nat),iF B ss->iF B (lay x ss to).1
 |.mk k s kids,ss,to,h=>by
  rw[lay];split
  · exact h.snoc (Nat.zero_le _)
  · split
    · exact wk B kids ss to h
    · split
      · exact(wo B kids ss to h).snoc (Nat.zero_le _)
      · split
        · exact(wj B kids ss to h).snoc (Nat.zero_le _)
        · split
          · exact(wj B kids _ _ (h.snoc (Nat.zero_le _))).set (Nat.zero_le _) _
          · exact h
theorem wk (B:Nat):∀(l:List Nd) (ss:List bT) (to:Nat),iF B ss->iF B (bL l ss to).1
 | [],ss,to,h=>by rw[bL];exact h
 |x::r,ss,to,h=>by rw[bL];exact xK B x _ _ (wk B r ss to h)
theorem wo (B:Nat):∀(l:List Nd) (ss:List bT) (to:Nat),iF B ss->iF B (bC l ss to).1
 | [],ss,to,h=>by rw[bC];exact h
 |x::r,ss,to,h=>by rw[bC];exact wo B r _ to (xK B x ss to h)
theorem wj (B:Nat):∀(l:List Nd) (ss:List bT) (to:Nat),iF B ss->iF B (cF l ss to).1
 | [],ss,to,h=>by rw[cF];exact h
 |x::r,ss,to,h=>by rw[cF];exact xK B x ss to h
end
section
variable {ss:List bT}{st s k t:Nat}{cls:List Int}
theorem Ad (B:Nat):∀(i:Nat) (rules:List By) (ss:List bT) (t:List Nat) (ss':List bT) (t':List Nat),i+rules.length<=B->iF B ss->ku i rules ss t= .inr (ss',t')->iF B ss'
 |i,[],ss,t,ss',t',_,h,hm=>by
  rw[ku] at hm;cases hm;exact h
 |i,s::r,ss,t,ss',t',hB,h,hm=>by
  rw[List.length_cons] at hB;rw[ku] at hm;split at hm
  · cases hm
  · exact Ad B (i+1) r _ _ ss' t' (by omega) (xK B _ _ _ (h.snoc (by show i<=B;omega))) hm
theorem Fl {rules:List By}(h:fj rules= .inr (ss,st)):∀x∈ss,x.rule<=1000000:=by
 unfold fj at h;split at h
 · cases h
 · rename_i hn;split at h
   · cases h
   · rename_i ss1 t1 hg;split at h
     · cases h
     · cases h;have:=Ad 64 0 rules [] [] ss1 t1 (by omega) (fun x hx=>(by cases hx)) hg;intro x hx;have:=(this.snoc (x:=⟨0,0,t1,0⟩) (Nat.zero_le _)) x hx;omega
end
end Go.Proofs.YtmehdcdbeafljaaGreatDoor
namespace Go.Proofs.YtmehdcdbeafljaaGreatDoor
open Go Go.Lw
set_option maxRecDepth 20000
def lg (rules:List By):Int ⊕ cn:=match fj rules with
 |.inl e=>.inl e
 |.inr (ss,st)=>gj ss st
theorem mZ {rules:List By}{d:cn}(h:lg rules= .inr d):d.Ok/\0<d.next.length:=by
 unfold lg at h;split at h
 · cases h
 · rename_i ss st hm;refine⟨DR h (Fl hm),?_⟩;obtain⟨_,L,_,h2,h3⟩:=iM h;omega
theorem zf {rules:List By}{d:cn}(h:lg rules= .inr d) (s:By) (a:Int):((dD d s a).1,(dD d s a).2.1)=xD rules s a:=by
 have hd:=(mZ h).2;unfold lg at h;split at h
 · cases h
 · rename_i ss st hm;have hst:=(fY hm).stl;unfold xD Bs dD;rw[hm];simp only
   by_cases ha:a<0\/(s.length:Int)<a
   · rw[if_pos (.inr ha),if_pos (.inr ha)]
   · rw[if_neg (by omega),if_neg (by omega)];exact pS h (by omega) _
end Go.Proofs.YtmehdcdbeafljaaGreatDoor

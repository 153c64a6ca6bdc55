/- What the proof of the statement leans on (part 23). -/
import Derived.Lib.ItoaLen
import Derived.Test.YtmehdcdbeafljaaGreatDoorQv

namespace Go.Proofs.YtmehdcdbeafljaaGreatDoor
open Go
def gW (l:List Int):By:=l.flatMap fun n=>Lib.itoa n++[32]
theorem sw (u:Nat):∀c∈Lib.decDigits u,48<=c.toNat/\c.toNat<=57:=by
 induction u using Nat.strongRecOn with
 |_ u ih =>
  intro c hc;rw[Lib.decDigits] at hc;split at hc
  · rename_i h;simp at hc;subst hc;simp;omega
  · rename_i h
    rcases List.mem_append.1 hc with k|k
    · exact ih (u / 10) (by omega) c k
    · simp at k;subst k;have:u%10<10:=Nat.mod_lt _ (by decide);simp;omega
def HA (l:By):Nat:=l.foldl (fun a c=>a*10+(c.toNat-48)) 0
theorem uq (u:Nat):HA (Lib.decDigits u)=u:=by
 induction u using Nat.strongRecOn with
 |_ u ih =>
  rw[Lib.decDigits];split
  · rename_i h;simp[HA];omega
  · rename_i h;have h1:=ih (u / 10) (by omega);unfold HA at h1 ⊢;rw[List.foldl_append,h1];have:u%10<10:=Nat.mod_lt _ (by decide);simp;omega
theorem vE (n:Int):∀c∈Lib.itoa n,c≠32:=by
 intro c hc e;subst e;unfold Lib.itoa at hc;split at hc
 · rcases List.mem_cons.1 hc with k|k
   · cases k
   · have:=(sw _ _ k).1;simp at this
 · have:=(sw _ _ hc).1;simp at this
theorem Hg {m n:Int}(h:Lib.itoa m=Lib.itoa n):m=n:=by
 have neg:∀a b:Nat,45::Lib.decDigits a≠Lib.decDigits b:=fun a b e=>by
  have:(45:UInt8)∈Lib.decDigits b:=by rw[<-e];exact List.mem_cons_self
  have:=(sw _ _ this).1;simp at this
 unfold Lib.itoa at h;split at h<;>split at h
 · have h:=congrArg HA (List.cons.inj h).2;rw[uq,uq] at h;omega
 · exact absurd h (neg _ _)
 · exact absurd h.symm (neg _ _)
 · have h:=congrArg HA h;rw[uq,uq] at h;omega
theorem tJ:∀(a b r s:By),(∀c∈a,c≠32)->(∀c∈b,c≠32)->a++32::r=b++32::s->a=b/\r=s
 | [],[],r,s,_,_,h=>by simpa using h
 | [],d::b,r,s,_,hb,h=>by
  simp only[List.nil_append,List.cons_append,List.cons.injEq] at h;exact absurd h.1.symm (hb d List.mem_cons_self)
 |c::a,[],r,s,ha,_,h=>by
  simp only[List.nil_append,List.cons_append,List.cons.injEq] at h;exact absurd h.1 (ha c List.mem_cons_self)
 |c::a,d::b,r,s,ha,hb,h=>by
  simp only[List.cons_append,List.cons.injEq] at h;have:=tJ a b r s (fun x hx=>ha x (List.mem_cons_of_mem _ hx)) (fun x hx=>hb x (List.mem_cons_of_mem _ hx)) h.2;exact⟨by rw[h.1,this.1],this.2⟩
theorem key_inj:∀{l m:List Int},gW l=gW m->l=m
 | [],[],_=>rfl
 | [],n::m,h=>by
  have:=congrArg List.length h;simp[gW] at this
 |n::l,[],h=>by
  have:=congrArg List.length h;simp[gW] at this
 |n::l,k::m,h=>by
  have h':Lib.itoa n++32::gW l=Lib.itoa k++32::gW m:=by simpa [gW] using h
  obtain⟨h1,h2⟩:=tJ _ _ _ _ (vE n) (vE k) h';rw[Hg h1,key_inj h2]
theorem zJ:∀(l:List Int),(∀n∈l,-9223372036854775808<=n/\n<=9223372036854775807)->(gW l).length<=22*l.length
 | [],_=>by simp[gW]
 |n::l,h=>by
  have h1:=zJ l (fun x hx=>h x (List.mem_cons_of_mem _ hx));have hn:=h n List.mem_cons_self;have h2:=Lib.itoa_length_le n hn.1 hn.2;have e:gW (n::l)=Lib.itoa n++[32]++gW l:=rfl;have h3:(gW (n::l)).length=(Lib.itoa n).length+1+(gW l).length:=by rw[e,List.length_append,List.length_append];rfl
  rw[h3,List.length_cons];omega
theorem He (l:List Int) (n:Int):gW (l++[n])=gW l++Lib.itoa n++[32]:=by simp[gW]
end Go.Proofs.YtmehdcdbeafljaaGreatDoor
namespace Go.Proofs.YtmehdcdbeafljaaGreatDoor
open Go.Proofs.Tryz
open Go Go.Lw
set_option maxRecDepth 20000
section
variable {h:az}{b:Nat}{v:Value}{l:List UInt8}
theorem bInfo:∃j,Tryz.prog.info? 205=some j/\j.size≠0:=⟨_,rfl,by decide⟩
theorem Kb:∃i,Tryz.prog.info? 5=some i/\i.zero=some (.int .u8 0)/\i.size=1/\i.bytes=1:=⟨_,rfl,rfl,rfl,rfl⟩
theorem Mx:liesAt Tryz.prog Tryz.prog.depth 205 (2 / Tryz.prog.cellsOf 205) 0 205 1=true:=by kernel_rfl
theorem Ii:Tryz.prog.cellsOf 5=1:=by kernel_rfl
theorem tV (hb:bp h b 205 [.pointer none,v]) :
 ah Tryz.prog 141 #[.pointer (some ⟨b,0,none⟩)] h (dh fun _ h'=>bp h' b 205 [.pointer (some ⟨b,0,none⟩),v]/\Ext (fun i=>i=b) h h'/\h'.size=h.size):=by
 obtain⟨j,hj,hj0⟩:=bInfo;refine ah.of func141 rfl rfl ?_;refine bq func141 2 rfl ?_;refine xp rfl (af (off:=0) underlying205 rfl rfl H.AO rfl) ?_;refine xp rfl (ai H.HR rfl (hb.cell (i:=0) rfl)) ?_;refine xp rfl (aj.sr underlying203 rfl rfl) ?_;refine xd [0,6] rfl ?_;refine aI rfl rfl (fun _=>?_) (fun hc=>absurd hc (by decide));refine G.cz func141 rfl ?_;refine cD 2 rfl rfl (aj.FZ underlying203 underlying269 hj hj0 hb (by simp) rfl) ?_;refine xp rfl (aj.GH func170 (by decide +kernel) (by kernel_rfl) (by kernel_rfl) (by kernel_rfl) rfl) ?_;refine xp rfl (aj.C4 underlying269 underlying203 hj hb Mx rfl) ?_;refine cD 1 rfl rfl (af (off:=0) underlying205 rfl rfl H.AO rfl) ?_;refine RW.cu rfl rfl rfl (aA.bB H.AO rfl rfl hb (by first|decide|exact of_decide_eq_true rfl|(simp;done)|(simp;omega)) rfl) ?_;rintro _ h1 ⟨rfl,hb1,hx1,hs1⟩;refine xd [0,6] rfl ?_;refine G.vS func141 rfl ?_;exact⟨_,rfl,hb1,hx1,hs1⟩
theorem vZ (hb:bp h b 205 [.pointer (some ⟨b,0,none⟩),v]) :
 ah Tryz.prog 141 #[.pointer (some ⟨b,0,none⟩)] h (dh fun _ h'=>bp h' b 205 [.pointer (some ⟨b,0,none⟩),v]/\Ext (fun i=>i=b) h h'/\h'.size=h.size):=by
 obtain⟨j,hj,hj0⟩:=bInfo;refine ah.of func141 rfl rfl ?_;refine bq func141 2 rfl ?_;refine xp rfl (af (off:=0) underlying205 rfl rfl H.AO rfl) ?_;refine xp rfl (ai H.HR rfl (hb.cell (i:=0) rfl)) ?_;refine xp rfl (aj.sr underlying203 rfl rfl) ?_;refine xd [0,6] rfl ?_;refine aI rfl rfl (fun hc=>absurd hc Bool.false_ne_true) (fun _=>?_);refine bq func141 2 rfl ?_;refine xp rfl (af (off:=0) underlying205 rfl rfl H.AO rfl) ?_;refine xp rfl (ai H.HR rfl (hb.cell (i:=0) rfl)) ?_;refine cD 1 rfl rfl (aj.CM underlying203 hj rfl rfl) ?_;refine xd [0,6,19] rfl ?_;refine aI rfl rfl (fun hc=>absurd hc Bool.false_ne_true) (fun _=>?_);refine aC rfl ?_;refine G.vS func141 rfl ?_;exact⟨_,rfl,hb,Ext.refl _ _,rfl⟩
theorem jo {p:Value}(hb:bp h b 205 [p,v]) (hp:p= .pointer none\/p= .pointer (some ⟨b,0,none⟩)) :
 ah Tryz.prog 141 #[.pointer (some ⟨b,0,none⟩)] h (dh fun _ h'=>bp h' b 205 [.pointer (some ⟨b,0,none⟩),v]/\Ext (fun i=>i=b) h h'/\h'.size=h.size):=by
 rcases hp with rfl|rfl
 · exact tV hb
 · exact vZ hb
theorem ei (s:ByteArray) (hb:kP h b 205 5 l) (hl:l.length+s.size<=140737488355328) :
 ah Tryz.prog 99 #[.pointer (some ⟨b,0,none⟩),.string s] h (dh fun r h'=>r= .tuple #[.int .i64 s.size,.nilIface]/\kP h' b 205 5 (l++s.data.toList)/\Ext (fun i=>b<=i) h h'):=by
 obtain⟨i,hi,hi0,hi1,hi2⟩:=Kb;obtain⟨p,v,hk,hp,hv⟩:=hb;have hlt:=hk.lt;refine ah.of func99 rfl rfl ?_;refine aZ func99 2 [0,1,4,5] rfl ?_;refine bq func99 1 rfl ?_;refine xo rfl (aq (vs:=[_]) func141 rfl H.GO rfl (ah.bw (jo hk hp))) ?_;rintro _ h1 ⟨hk1,hx1,hs1⟩;refine xd [0,1,4,5] rfl ?_;refine bq func99 3 rfl ?_;refine xp rfl (af (off:=1) underlying205 rfl rfl H.pP rfl) ?_;have hv1:Dt h1 (b+1) 5 v l:=aQ.ext hx1 hv (fun g hg=>by have:=nB hv g hg.symm;omega);refine xp rfl (ai H.Am rfl (hk1.cell (i:=1) rfl)) ?_;refine bh 1 rfl ?_;refine xo rfl (aA.Fz underlying38 underlying9 hi hi0 hi1 hi2 rfl rfl hv1 hl (by omega)) ?_;rintro v2 h2 ⟨ho2,hx2⟩;refine cD 1 rfl rfl (af (off:=1) underlying205 rfl rfl H.pP rfl) ?_;have hk2:=hk1.ext hx2 (fun hm=>by have:=nB hv1 b hm;omega);obtain⟨oa2,c2,rfl,-⟩:=aQ.open ho2;refine RW.cu rfl rfl rfl (aA.bB H.pP rfl rfl hk2 (by first|decide|exact of_decide_eq_true rfl|(simp;done)|(simp;omega)) rfl) ?_;rintro _ h3 ⟨rfl,hk3,hx3,hs3⟩;refine xd [0,1,4,5] rfl ?_;refine bq func99 1 rfl ?_;refine xp rfl (aj.bM underlying9 rfl) ?_;refine aS 2 [0,1,4,5] rfl ?_;refine G.ret func99 rfl rfl ?_;have ho3:Dt h3 (b+1) 5 _ (l++s.data.toList):=aQ.ext hx3 ho2 (fun g hg=>by have:=nB ho2 g hg.symm;omega);exact⟨_,rfl,rfl,⟨_,_,hk3,.inr rfl,ho3⟩,((hx1.mono (fun _ _ k=>by show b<=_;omega)).trans (hx2.mono (fun g _ k=>by have:=nB hv1 g k;show b<=g;omega))).trans (hx3.mono (fun _ _ k=>by show b<=_;omega))⟩
theorem kP.ax {h h':az}{b:Nat}{l:List UInt8}(k:kP h b 205 5 l) (e:aD h h'):kP h' b 205 5 l:=by
 obtain⟨p,v,hk,hp,hv⟩:=k;exact⟨p,v,hk.ax e,hp,cZ.ax hv e⟩
theorem kO (hb:kP h b 205 5 l) (hl:l.length<=140737488355328) :
 ah Tryz.prog 102 #[.pointer (some ⟨b,0,none⟩)] h (dh fun r h'=>r= .string ⟨l.toArray⟩/\Ext (fun i=>b<=i) h h'):=by
 obtain⟨p,v,hk,hp,hv⟩:=hb;obtain⟨oa,c,rfl,hw⟩:=aQ.open hv;have hc1:=hk.cell (i:=1) rfl;refine ah.of func102 rfl rfl ?_;refine aZ func102 1 [0,2] rfl ?_;refine av rfl ?_;refine b6 (fun i=>b+1<=i) (fun i=>Nat.blt i 12) (sz:=12) (listed:= #[false,false,false,false,false,false,false,false,false,false,false,false]) func102 H.mixed rfl rfl rfl ?_;refine cg 0 1 (by kernel_rfl) rfl ?_;refine cg 1 3 (by kernel_rfl) rfl ?_;refine bL 2 7 (by kernel_rfl) rfl (fun h' e=>af (off:=1) underlying205 rfl rfl H.pP rfl) ?_;refine bL 3 15 (by kernel_rfl) rfl (fun h' e=>ai H.Am rfl (e.cell (by show ¬b+1<=b;omega) hc1)) ?_;refine cg 5 47 (by kernel_rfl) rfl ?_;refine cg 6 111 (by kernel_rfl) rfl ?_;refine bL 7 239 (by kernel_rfl) rfl (fun h' e=>af (off:=1) underlying205 rfl rfl H.pP rfl) ?_;refine bL 8 495 (by kernel_rfl) rfl (fun h' e=>ai H.Am rfl (e.cell (by show ¬b+1<=b;omega) hc1)) ?_;refine bL 9 1007 (by kernel_rfl) rfl (fun h' e=>aj.aJ underlying38 rfl) ?_;refine eM 4 1023 (by kernel_rfl) rfl (aA.EI underlying248 rfl hv) ?_;rintro u h1 ⟨⟨q,rfl,hs⟩,he⟩;refine⟨fun _=>he.of,?_⟩;refine eM 10 2047 (by kernel_rfl) rfl (sF underlying248 Ii rfl rfl hs hl) ?_;rintro _ h2 ⟨rfl,hx2⟩;refine⟨fun _=>hx2,?_⟩;refine cg 11 4095 (by kernel_rfl) rfl ?_;refine br (by kernel_rfl) ?_;refine xu [0,2] rfl ?_;refine G.ret func102 rfl rfl ?_;exact⟨_,rfl,rfl,(aD.of he).trans (hx2.mono (fun g _ k=>by have:b+1<=g:=k;show b<=g;omega))⟩
def ud (h:az):Prop:=AG Tryz.prog h "internal/strconv.uint64pow10" =some (Lib.pow10Tab.map fun z=>Value.int .u64 z).toArray
theorem ud.ax {h':az}(k:ud h) (e:aD h h'):ud h':=Co e k
theorem C1 (hg:ud h) (n:Int) (hn : -9223372036854775808<=n/\n<=9223372036854775807) :
 ah Tryz.prog 100 #[.int .i64 n] h (dh fun r h'=>r= .string (bs (Lib.itoa n))/\aD h h'):=by
 refine ah.zy fun w hw=>?_
 subst hw;refine(Tryz.strconv_Itoa n hn.1 hn.2 w hg).mono ?_;rintro e w' ⟨rfl,k,os,rfl⟩;refine⟨_,rfl,⟨rfl,?_⟩,rfl,rfl,rfl⟩;refine⟨by simp[Go.Sort.grow],fun b hb _=>?_⟩;simp[Go.Sort.grow,Array.getElem?_append_left hb]
theorem gv (c:UInt8) (hb:kP h b 205 5 l) (hl:l.length<=900000000) :
 ah Tryz.prog 101 #[.pointer (some ⟨b,0,none⟩),.int .u8 (c.toNat:Nat)] h (dh fun _ h'=>kP h' b 205 5 (l++[c])/\Ext (fun g=>b<=g) h h'):=by
 obtain⟨p,v,hk,hp,hv⟩:=hb;have hlt:=hk.lt;refine ah.of func101 rfl rfl ?_;refine aZ func101 1 [0,1,4] rfl ?_;refine bq func101 1 rfl ?_;refine xo rfl (aq (vs:=[_]) func141 rfl H.GO rfl (ah.bw (jo hk hp))) ?_;rintro _ h1 ⟨hk1,hx1,hs1⟩;refine xd [0,1,4] rfl ?_;refine bq func101 3 rfl ?_;refine xp rfl (af (off:=1) underlying205 rfl rfl H.pP rfl) ?_;have hv1:Dt h1 (b+1) 5 v l:=aQ.ext hx1 hv (fun g hg=>by have:=nB hv g hg.symm;omega);refine xp rfl (ai H.Am rfl (hk1.cell (i:=1) rfl)) ?_;refine bh 1 rfl ?_;refine xo rfl (aA.aX (us:=[_]) underlying38 H.MN rfl rfl (by decide) (by simp[Value.oneCell'])) ?_;rintro _ _ ⟨rfl,rfl⟩;refine xo rfl (aA.bS underlying38 H.MN rfl rfl (hv1) rfl rfl (by first|decide|simp[Value.oneCell']) (by omega) (by decide) (by omega)) ?_;rintro v2 h2 ⟨ho2,hx2,hx2',hv2⟩;have hk2:=hk1.ext hx2 (fun hm=>by have:=nB hv1 b hm;omega);have ho2':Dt h2 (b+1) 5 v2 (l++[c]):=cZ.of (ys:=[c]) ho2 rfl rfl rfl;obtain⟨oa2,c2,rfl,-⟩:=ho2.open;refine cD 1 rfl rfl (af (off:=1) underlying205 rfl rfl H.pP rfl) ?_;refine RW.cu rfl rfl rfl (aA.bB H.pP rfl rfl hk2 (by first|decide|exact of_decide_eq_true rfl|(simp;done)|(simp;omega)) rfl) ?_;rintro _ h3 ⟨rfl,hk3,hx3,hs3⟩;refine xd [0,1,4] rfl ?_;refine aZ func101 1 [0,1,4] rfl ?_;refine G.ret func101 rfl rfl ?_;exact⟨_,rfl,⟨_,_,hk3,.inr rfl,aQ.ext hx3 ho2' (fun g hg=>by have:=nB ho2' g hg.symm;omega)⟩,((hx1.mono (fun _ _ k=>by show b<=_;omega)).trans (hx2.mono (fun g _ k=>by have:=nB hv1 g k;show b<=g;omega))).trans (hx3.mono (fun _ _ k=>by show b<=_;omega))⟩
theorem sn {O:Nat->Prop}(hg:ud h){l:List Int}(hv:bX (.int .i64) h O v l) (hl:l.length<=1000000) (hb:∀n∈l,-9223372036854775808<=n/\n<=9223372036854775807) :
 ah Tryz.prog 52 #[v] h (dh fun r h'=>r= .string (bs (gW l))/\aD h h'):=by
 obtain⟨oa,n,c,rfl,hsl⟩:=hv.open;have hn:=hsl.len;refine ah.of func52 rfl rfl ?_;refine aZ func52 1 [0,2] rfl ?_;refine xr func52 rfl ?_;refine xo rfl (aA.aY H.FK) ?_;rintro _ h0 ⟨rfl,hk0,he0,hs0⟩;refine xd [0,2,3] rfl ?_;refine av rfl ?_;refine bq func52 1 rfl ?_;refine xp rfl (aj.aJ underlying127 rfl) ?_;refine aS 1 [0,2,3,6,7,8] rfl ?_;refine G.block rfl rfl ?_;have hb0:kP h0 h.size 205 5 []:=wU hk0;refine bG (σ:=Nat) (fun i=>[(3,.pointer (some ⟨h.size,0,none⟩)),(6,.slice oa n c),(7,.int .i64 (n:Nat)),(8,.int .i64 (i:Nat))]) (fun i h'=>i<=n/\aD h h'/\kP h' h.size 205 5 (gW (l.take i))/\h0.size<=h'.size) (fun i=>n-i) (0) rfl ⟨rfl,rfl,rfl,rfl,trivial⟩ ⟨Nat.zero_le _,he0,hb0,Nat.le_refl _⟩ ?_;rintro i g ⟨hi,eg,hbg,hgz⟩ ih;have hlen:=zJ (l.take i) (fun x hx=>hb x (List.mem_of_mem_take hx));rw[List.length_take] at hlen;refine aZ func52 1 [3,6,7,8,9] rfl ?_;refine av rfl ?_;refine aO rfl rfl (fun hlt=>?_) (fun hlt=>?_)
 · obtain⟨b1,o1,x,hoa,_,hx,hcx⟩:=(hsl.mv (Mv.ax eg)).at (show i<n by omega);have hbx:=hb x (List.mem_of_getElem? hx);have hil:=Lib.itoa_length_le x hbx.1 hbx.2;have hbsz:=bD (Lib.itoa x);have hbl:(bs (Lib.itoa x)).data.toList=Lib.itoa x:=by simp[bs]
   have hnx:gW (l.take (i+1))=gW (l.take i)++(bs (Lib.itoa x)).data.toList++[32]:=by rw[List.take_add_one,hx,Option.toList_some,He,hbl]
   refine aC rfl ?_;refine av rfl ?_;refine G.block rfl rfl ?_;refine xr func52 rfl ?_;refine xp rfl (aj.ay underlying127 H.cA rfl rfl i rfl hoa (by omega)) ?_;refine xp rfl (ai H.de rfl hcx) ?_;refine aS 1 [3,5,6,7,8,9] rfl ?_;refine bq func52 1 rfl ?_;refine xo rfl (aq (vs:=[_]) func100 rfl H.L5 rfl (ah.bw (C1 (hg.ax eg) x hbx))) ?_;rintro _ g1 ⟨rfl,e1⟩;refine xo rfl (aq (vs:=[_,_]) func99 rfl H.GI rfl (ah.bw (ei (bs (Lib.itoa x)) (kP.ax hbg e1) (by omega)))) ?_;rintro _ g2 ⟨rfl,hb2,hx2⟩;refine xd [3,5,6,7,8,9] rfl ?_;refine G.cz func52 rfl ?_;refine xo rfl (aq (vs:=[_,_]) func101 rfl H.DW rfl (ah.bw (gv 32 hb2 (by rw[List.length_append,hbl];omega)))) ?_;rintro _ g3 ⟨hb3,hx3⟩;refine xd [3,5,6,7,8,9] rfl ?_;refine G.aR ?_;refine G.cz func52 rfl ?_;refine xp rfl (aj.bE rfl rfl ⟨by omega,by omega⟩) ?_;refine aS 1 [3,5,6,7,8,9] rfl ?_;have z1:=e1.size;have z2:=hx2.size;have z3:=hx3.size;rw[<-hnx] at hb3
   have e3:aD h g3:=⟨by have:=eg.size;omega,fun b hb k=>by
    rw[hx3.block b (by have:=eg.size;omega) (by show ¬_<=_;omega),hx2.block b (by have:=eg.size;omega) (by show ¬_<=_;omega),e1.block b (by have:=eg.size;omega) (fun k=>k)];exact eg.block b hb k⟩
   exact ih (i+1) _ _ ⟨rfl,rfl,rfl,rfl,trivial⟩ ⟨by omega,e3,hb3,by omega⟩ (by omega)
 · have hie:l.take i=l:=List.take_of_length_le (by omega);rw[hie] at hbg;have hkl:=zJ l hb;refine bA rfl rfl ?_;refine xr func52 rfl ?_;refine xo rfl (aq (vs:=[_]) func102 rfl H.GQ rfl (ah.bw (kO hbg (by omega)))) ?_;rintro _ g1 ⟨rfl,hx1⟩;refine aS 1 [2,3,6,7,8,9] rfl ?_;refine G.ret func52 rfl rfl ?_;exact⟨_,rfl,rfl,⟨by have:=hx1.size;have:=eg.size;omega,fun b hb k=>by rw[hx1.block b (by have:=eg.size;omega) (by show ¬_<=_;omega)];exact eg.block b hb k⟩⟩
end
end Go.Proofs.YtmehdcdbeafljaaGreatDoor
namespace Go.Proofs.YtmehdcdbeafljaaGreatDoor
open Go
structure Row where
 v:List Int
 len:v.length=256
structure cv where
 next:List Row
 rule:List Int
def cv.to (d:cv) (s:Nat) (c:UInt8):Int:=match d.next[s]? with|some r=>r.v.getD c.toNat (-1)|none=> -1
def cv.ru (d:cv) (s:Nat):Int:=d.rule.getD s (-1)
structure cv.Ok (d:cv):Prop where
 len:d.rule.length=d.next.length
 size:d.next.length<=2000
 to:∀r∈d.next,∀x∈r.v,-1<=x/\x<d.next.length
 ru:∀x∈d.rule,-1<=x/\x<=1000000
theorem Row.at {r:Row}(c:UInt8):∃x,r.v[c.toNat]? =some x/\r.v.getD c.toNat (-1)=x/\x∈r.v:=by
 have h:=r.len;have hc:=c.toNat_lt;have hx:r.v[c.toNat]? =some (r.v[c.toNat]'(by omega)):=List.getElem?_eq_getElem (by omega);exact⟨_,hx,by rw[List.getD_eq_getElem?_getD,hx];rfl,List.getElem_mem _⟩
theorem cv.qD {d:cv}(k:d.Ok){s:Nat}(c:UInt8) : -1<=d.to s c/\d.to s c<d.next.length:=by
 unfold cv.to;cases h:d.next[s]? with
 |none=>simp only;omega
 |some r =>
  obtain⟨x,hx,he,hm⟩:=r.at c;simp only;rw[he];exact k.to r (List.mem_of_getElem? h) x hm
def bu (d:cv):By->Nat->Nat->Int×Int->Int×Int×Int
 | [],st,k,b=>if 0<=d.ru st then (k,d.ru st,k) else (b.1,b.2,k)
 |c::l,st,k,b =>
  if 0<=d.to st c then bu d l (d.to st c).toNat (k+1) (if 0<=d.ru st then (k,d.ru st) else b)
  else if 0<=d.ru st then (k,d.ru st,k) else (b.1,b.2,k)
def dO (d:cv) (s:By) (a:Int):Int×Int×Int:=if d.next.length=0\/a<0\/(s.length:Int)<a then (0,-1,0) else bu d (s.drop a.toNat) 0 0 (0,-1)
end Go.Proofs.YtmehdcdbeafljaaGreatDoor
namespace Go.Proofs.YtmehdcdbeafljaaGreatDoor
open Go.Proofs.Tryz
open Go Go.Lw
set_option maxRecDepth 20000
section
variable {h:az}
def cw (r:Row):List Value:=r.v.map (.int .i64)
@[simp] theorem mD (r:Row):(cw r).length=256:=by simp[cw,r.len]
def Ea:iA Row:=.record 256 (by decide) cw mD (fun r v hv=>by simp[cw] at hv;obtain⟨_,_,rfl⟩:=hv;rfl)
def pH (h:az) (db:Nat) (d:cv):Prop :=
 ∃vn vr,bp h db 149 [vn,vr]/\bX Ea h (fun _=>False) vn d.next/\bX (.int .i64) h (fun _=>False) vr d.rule
theorem pH.ax {h h':az}{db:Nat}{d:cv}(k:pH h db d) (e:aD h h'):pH h' db d:=by
 obtain⟨vn,vr,h1,h2,h3⟩:=k;exact⟨vn,vr,h1.ax e,h2.mv (Mv.ax e),h3.mv (Mv.ax e)⟩
def J4 (h:az) (p:Value) (d:cv):Prop:=(p= .pointer none/\d=⟨[],[]⟩)\/∃db,p= .pointer (some ⟨db,0,none⟩)/\pH h db d
theorem Fm:ah Tryz.prog 55 #[.pointer none] h (dh fun r h'=>r= .bool true/\h'=h):=by
 refine ah.of func55 rfl rfl ?_;refine aZ func55 1 [0,2] rfl ?_;refine av rfl ?_;refine G.bF [(2,.bool true)] [(0,_)] ⟨rfl,trivial⟩ func55 rfl ?_ ?_
 · refine cD 1 rfl rfl (aj.sr underlying89 rfl rfl) ?_;refine bh 1 rfl ?_;refine RW.dw (d:=5) (b':=true) rfl (rfl) ?_;refine bh 8 rfl ?_;refine aE rfl ?_;exact⟨rfl,aF rfl (rfl),rfl,trivial⟩
 · refine G.ret func55 rfl rfl ?_;exact⟨_,rfl,rfl,rfl⟩
theorem BQ {db:Nat}{d:cv}(k:pH h db d):ah Tryz.prog 55 #[.pointer (some ⟨db,0,none⟩)] h (dh fun r h'=>r= .bool (decide (d.next.length=0))/\h'=h):=by
 obtain⟨vn,vr,hk,⟨na,nn,nc,rfl,hnl,_⟩,h2⟩:=k;refine ah.of func55 rfl rfl ?_;refine aZ func55 1 [0,2] rfl ?_;refine av rfl ?_;refine G.bF [(2,.bool (decide (d.next.length=0)))] [(0,_)] ⟨rfl,trivial⟩ func55 rfl ?_ ?_
 · refine cD 1 rfl rfl (aj.sr underlying89 rfl rfl) ?_;refine bh 1 rfl ?_;refine RW.dw (d:=5) (b':=false) rfl (rfl) ?_;refine cD 2 rfl rfl (af (off:=0) underlying149 rfl rfl H.kV rfl) ?_;refine xp rfl (ai H.rE rfl (hk.cell (i:=0) rfl)) ?_;refine xp rfl (aj.aJ underlying147 rfl) ?_;refine bh 3 rfl ?_;refine aE rfl ?_;exact⟨rfl,aF rfl (by simp only[decide_eq_decide];omega),rfl,trivial⟩
 · refine G.ret func55 rfl rfl ?_;exact⟨_,rfl,rfl,rfl⟩
theorem BP {p:Value}{d:cv}(k:J4 h p d):ah Tryz.prog 55 #[p] h (dh fun r h'=>r= .bool (decide (d.next.length=0))/\h'=h):=by
 rcases k with ⟨rfl,rfl⟩|⟨db,rfl,k⟩
 · exact Fm
 · exact BQ k
theorem zY {p:Value}{d:cv}{s:By}{a:Int}(k:J4 h p d) (hok:d.Ok) (hs:s.length<=1000000) :
 ah Tryz.prog 110 #[p,.string (bs s),.int .i64 a] h (dh fun r h'=>r= .tuple #[.int .i64 (dO d s a).1,.int .i64 (dO d s a).2.1,.int .i64 (dO d s a).2.2]/\h'=h):=by
 have hbs:=bD s;refine ah.of func110 rfl rfl ?_;refine aZ func110 3 [0,1,2,6,7,8] rfl ?_;refine aZ func110 1 [0,1,2,6,7,8] rfl ?_;refine av rfl ?_;refine av rfl ?_;refine G.bF [(22,.bool (decide (d.next.length=0\/a<0\/(s.length:Int)<a)))] [(0,_),(1,_),(2,_),(6,_),(7,_),(8,_)] ⟨rfl,rfl,rfl,rfl,rfl,rfl,trivial⟩ func110 rfl ?_ ?_
 · refine bh 1 rfl ?_;refine xo rfl (aq (vs:=[_]) func55 rfl H.Lz rfl (ah.bw (BP k))) ?_;rintro _ h0 ⟨rfl,hh0⟩;subst hh0;refine bh 1 rfl ?_;refine aP (d:=13) rfl (fun hg=>?_) (fun hg=>?_)
   · have hg':=of_decide_eq_true hg;refine bh 9 rfl ?_;refine aE rfl ?_;exact⟨rfl,aF rfl (by simp[hg']),rfl,rfl,rfl,rfl,rfl,rfl,trivial⟩
   · have hg':=of_decide_eq_false hg;refine bh 4 rfl ?_;refine aP (d:=17) rfl (fun hg2=>?_) (fun hg2=>?_)
     · have hg2':=of_decide_eq_true hg2;refine bh 5 rfl ?_;refine aE rfl ?_;exact⟨rfl,aF rfl (by simp[hg2']),rfl,rfl,rfl,rfl,rfl,rfl,trivial⟩
     · have hg2':=of_decide_eq_false hg2;refine cD 2 rfl rfl (aj.bM underlying9 rfl) ?_;refine bh 2 rfl ?_;refine aE rfl ?_;exact⟨rfl,aF rfl (by simp only[decide_eq_decide];omega),rfl,rfl,rfl,rfl,rfl,rfl,trivial⟩
 · refine aO rfl rfl (fun hz=>?_) (fun hz=>?_)
   · refine aZ func110 4 [0,1,2,6,7,8,22] rfl ?_;refine G.ret func110 rfl rfl ?_;rw[dO,if_pos hz];exact⟨_,rfl,rfl,rfl⟩
   · obtain⟨k0,rfl⟩:=Int.eq_ofNat_of_zero_le (show 0<=a by omega);have hk0:k0<=s.length:=by omega
     have hma:dO d s (k0:Nat)=bu d (s.drop k0) 0 0 (0,-1):=by rw[dO,if_neg hz];rfl
     rw[hma];generalize htgt:bu d (s.drop k0) 0 0 (0,-1)=tgt
     rcases k with ⟨_,rfl⟩|⟨db,rfl,vn,vr,hk,⟨na,nn,nc,rfl,hnl,_,_,hgetn⟩,⟨ra,rn,rc,rfl,hrl,_,_,hgetr⟩⟩
     exact absurd (.inl rfl) hz;have hlen:=hok.len;have hsize:=hok.size;refine aC rfl ?_;refine av rfl ?_;refine aZ func110 1 [0,1,2,6,7,8,9,22] rfl ?_;refine G.block rfl rfl ?_;refine bG (σ:=Int×Nat×Int×Int) (fun q=>[(0,.pointer (some ⟨db,0,none⟩)),(1,.string (bs s)),(2,.int .i64 (k0:Nat)),(6,.int .i64 q.2.2.1),(7,.int .i64 q.2.2.2),(8,.int .i64 (q.2.1:Nat)),(9,.int .i64 q.1)]) (fun q h'=>h'=h/\k0+q.2.1<=s.length/\(0<=q.1->q.1<d.next.length/\bu d (s.drop (k0+q.2.1)) q.1.toNat q.2.1 q.2.2=tgt)/\(q.1<0->(q.2.2.1,q.2.2.2,(q.2.1:Int))=tgt)) (fun q=>2*(s.length-(k0+q.2.1))+(if 0<=q.1 then 1 else 0)) ((0,0,0,-1)) rfl ⟨rfl,rfl,rfl,rfl,rfl,rfl,rfl,trivial⟩ ⟨rfl,by simpa using hk0,fun _=>⟨by show (0:Int)<_;omega,by simpa using htgt⟩,fun k=>absurd k (by decide)⟩ ?_;rintro⟨st,i,b1,b2⟩ g ⟨rfl,hki,hpos,hneg⟩ ih
     try dsimp only
     dsimp only at hki hpos hneg;refine av rfl ?_;refine aZ func110 2 [0,1,2,6,7,8,9,25] rfl ?_;refine aO rfl rfl (fun hst=>?_) (fun hst=>?_)
     · obtain⟨hlt,hcon⟩:=hpos hst;obtain⟨j,rfl⟩:=Int.eq_ofNat_of_zero_le hst;have hcon:bu d (s.drop (k0+i)) j i (b1,b2)=tgt:=hcon;obtain⟨x,hx⟩:∃x,d.rule[j]? =some x:=⟨_,List.getElem?_eq_getElem (by omega)⟩
       have hru:d.ru j=x:=by unfold cv.ru;rw[List.getD_eq_getElem?_getD,hx];rfl
       obtain⟨b,o,cs,ha,_,hrow,rfl⟩:=hgetr j x hx;refine aC rfl ?_;refine G.block rfl rfl ?_;refine av rfl ?_;refine bq func110 2 rfl ?_;refine xp rfl (af (off:=1) underlying149 rfl rfl H.iB rfl) ?_;refine xp rfl (ai H.pG rfl (hk.cell (i:=1) rfl)) ?_;refine cD 1 rfl rfl (aj.ay underlying127 H.cA rfl rfl j rfl ha (by omega)) ?_;refine xp rfl (ai H.de rfl (hrow 0 _ rfl)) ?_;refine aS 1 [0,1,2,6,7,8,9,10,25] rfl ?_;refine aZ func110 2 [0,1,2,6,7,8,9,10,25,34] rfl ?_
       have fin:∀(c1 c2:Int) (h':az) (ρ':Env),Sub [(0,.pointer (some ⟨db,0,none⟩)),(1,.string (bs s)),(2,.int .i64 (k0:Nat)),(6,.int .i64 c1),(7,.int .i64 c2),(8,.int .i64 (i:Nat)),(9,.int .i64 (j:Nat))] ρ'->h'=g->(c1,c2)=(if 0<=d.ru j then ((i:Int),d.ru j) else (b1,b2))->G Tryz.prog 110 f110 [.code [1,0,1,0,0,1,0,1,1,1],.blk 1,.loop [0,0,1,0,1,1,1],.blk 0,.code [1,1,1,1]] ρ' h' (dh fun r h'=>r= .tuple #[.int .i64 tgt.1,.int .i64 tgt.2.1,.int .i64 tgt.2.2]/\h'=g):=by
        rintro c1 c2 g1 ρ' hsub rfl hc;refine G.sub (ρ':=[(0,.pointer (some ⟨db,0,none⟩)),(1,.string (bs s)),(2,.int .i64 (k0:Nat)),(6,.int .i64 c1),(7,.int .i64 c2),(8,.int .i64 (i:Nat)),(9,.int .i64 (j:Nat))]) hsub ?_;refine av rfl ?_;refine bq func110 2 rfl ?_;refine xp rfl (aj.bE rfl rfl ⟨by omega,by omega⟩) ?_;refine cD 1 rfl rfl (aj.bM underlying9 rfl) ?_;refine aS 1 [0,1,2,6,7,8,9,42] rfl ?_;refine aO rfl rfl (fun hend=>?_) (fun hend=>?_)
        · have hd:s.drop (k0+i)=[]:=List.drop_of_length_le (by omega);rw[hd,bu] at hcon
          have hcon:(c1,c2,(i:Int))=tgt:=by
           rw[<-hcon]
           by_cases h0:0<=d.ru j
           · rw[if_pos h0] at hc ⊢;cases hc;rfl
           · rw[if_neg h0] at hc ⊢;cases hc;rfl
          refine bA rfl rfl ?_;refine aZ func110 6 [0,1,2,6,7,8,9,42] rfl ?_;refine G.ret func110 rfl rfl ?_;exact⟨_,rfl,by rw[<-hcon];rfl,rfl⟩
        · have hki2:k0+i<s.length:=by omega
          have hd:s.drop (k0+i)=s[k0+i]::s.drop (k0+i+1):=List.drop_eq_getElem_cons hki2;rw[hd,bu,<-hc] at hcon;obtain⟨r,hr⟩:∃r,d.next[j]? =some r:=⟨_,List.getElem?_eq_getElem (by omega)⟩
          obtain⟨b3,o3,cs3,ha3,_,hrow3,rfl⟩:=hgetn j r hr;obtain⟨y,hy,he,_⟩:=r.at s[k0+i];have hc8:=s[k0+i].toNat_lt;have hto:d.to j s[k0+i]=y:=by unfold cv.to;rw[hr];exact he
          have hb:=cv.qD hok (s:=j) s[k0+i];rw[hto] at hcon hb;have hcell:cellAt g1 ⟨b3,o3+j*256+s[k0+i].toNat*1,none⟩=some (.int .i64 y):=by rw[Nat.mul_one];exact hrow3 _ _ (by simp[cw,hy])
          refine aC rfl ?_;refine av rfl ?_;refine G.eY func110 H.mixed rfl (by kernel_rfl) ?_;refine RQ.au rfl rfl rfl rfl (aL rfl) ?_;refine RQ.au rfl rfl rfl rfl (aM rfl) ?_;refine RQ.au rfl rfl rfl rfl (af (off:=0) underlying149 rfl rfl H.kV rfl) ?_;refine RQ.au rfl rfl rfl rfl (ai H.rE rfl (hk.cell (i:=0) rfl)) ?_;refine RQ.au rfl rfl rfl rfl (aL rfl) ?_;refine RQ.au rfl rfl rfl rfl (aL rfl) ?_;refine RQ.au rfl rfl rfl rfl (aL rfl) ?_;refine RQ.au rfl rfl rfl rfl (aL rfl) ?_;refine RQ.au rfl rfl rfl rfl (aj.bE rfl rfl ⟨by omega,by omega⟩) ?_;refine RQ.au rfl rfl rfl rfl (aj.dz underlying9 rfl rfl (k0+i) (by omega) (iD (List.getElem?_eq_getElem hki2))) ?_;refine RQ.au rfl rfl rfl rfl (aj.ay underlying147 H.kU rfl rfl j rfl ha3 (by omega)) ?_;refine RQ.au rfl rfl rfl rfl (aj.cX underlying153 H.cA rfl rfl s[k0+i].toNat rfl (by omega)) ?_;refine RQ.au rfl rfl rfl rfl (ai H.de rfl hcell) ?_;refine RQ.au rfl rfl rfl rfl (aj.assign rfl) ?_;refine cP rfl ?_;refine xu [0,1,2,6,7,8,9,42] rfl ?_;refine aZ func110 2 [0,1,2,6,7,8,9,42,57] rfl ?_;refine aO rfl rfl (fun hy0=>?_) (fun hy0=>?_)
          · rw[if_pos hy0] at hcon;obtain⟨j2,rfl⟩:=Int.eq_ofNat_of_zero_le hy0;refine G.cz func110 rfl ?_;refine cD 1 rfl rfl (aj.bE rfl rfl ⟨by omega,by omega⟩) ?_;refine aS 1 [0,1,2,6,7,8,9,42,57] rfl ?_;refine G.aR ?_;exact ih ((j2:Int),i+1,c1,c2) _ _ ⟨rfl,rfl,rfl,rfl,rfl,rfl,rfl,trivial⟩ ⟨rfl,by show k0+(i+1)<=s.length;omega,fun _=>⟨hb.2,by show bu d (s.drop (k0+(i+1))) _ _ _=tgt;rw[show k0+(i+1)=k0+i+1 by omega];exact hcon⟩,fun k=>absurd k (by show ¬(j2:Int)<0;omega)⟩ (by show 2*(s.length-(k0+(i+1)))+(if (0:Int)<=(j2:Nat) then 1 else 0)<2*(s.length-(k0+i))+(if (0:Int)<=(j:Nat) then 1 else 0);rw[if_pos (by omega),if_pos (by omega)];omega)
          · rw[if_neg hy0] at hcon;refine aC rfl ?_;refine G.aR ?_;exact ih (y,i,c1,c2) _ _ ⟨rfl,rfl,rfl,rfl,rfl,rfl,rfl,trivial⟩ ⟨rfl,hki,fun k=>absurd k hy0,fun _=>by show (c1,c2,(i:Int))=tgt;rw[<-hcon];by_cases h0:0<=d.ru j;(rw[if_pos h0] at hc ⊢;cases hc;rfl);(rw[if_neg h0] at hc ⊢;cases hc;rfl)⟩ (by show 2*(s.length-(k0+i))+(if (0:Int)<=y then 1 else 0)<2*(s.length-(k0+i))+(if (0:Int)<=(j:Nat) then 1 else 0);rw[if_neg hy0,if_pos (by omega)];omega)
       refine aO rfl rfl (fun hr=>?_) (fun hr=>?_)
       · refine G.cz func110 rfl ?_;refine aS 4 [0,1,2,6,7,8,9,10,25,34] rfl ?_;exact fin _ _ _ _ ⟨rfl,rfl,rfl,rfl,rfl,rfl,rfl,trivial⟩ rfl (by rw[hru,if_pos hr])
       · refine aC rfl ?_;exact fin _ _ _ _ ⟨rfl,rfl,rfl,rfl,rfl,rfl,rfl,trivial⟩ rfl (by rw[hru,if_neg hr])
     · have hcon:=hneg (by omega);refine bA rfl rfl ?_;refine aZ func110 6 [0,1,2,6,7,8,9,25] rfl ?_;refine G.ret func110 rfl rfl ?_;exact⟨_,rfl,by rw[<-hcon];rfl,rfl⟩
end
end Go.Proofs.YtmehdcdbeafljaaGreatDoor
namespace Go.Proofs.YtmehdcdbeafljaaGreatDoor
open Go
def zK (l:List Nat):By:=gW (l.map Int.ofNat)
theorem Hf {l m:List Nat}(h:zK l=zK m):l=m:=by
 have:=key_inj h
 have hi:∀a b:List Nat,a.map Int.ofNat=b.map Int.ofNat->a=b:=by
  intro a
  induction a with
  |nil=>intro b h;cases b with
   |nil=>rfl
   |cons y b=>simp at h
  |cons x a ih=>intro b h;cases b with
   |nil=>simp at h
   |cons y b =>
    simp only[List.map_cons,List.cons.injEq] at h;rw[ih b h.2];have:=h.1;simp only[Int.ofNat_eq_natCast] at this;rw[show x=y by omega]
 exact hi _ _ this
def oZ:Nat->List (List Nat)->List Nat->Option Nat
 |_,[],_=>none
 |i,x::r,l=>if l=x then some i else oZ (i+1) r l
theorem qe:∀(ls:List (List Nat)) (i j:Nat) (l:List Nat),oZ i ls l=some j->i<=j/\ls[j-i]? =some l
 | [],i,j,l,h=>by cases h
 |x::r,i,j,l,h=>by
  rw[oZ] at h;split at h
  · rename_i e;cases h;subst e;exact⟨Nat.le_refl _,by simp⟩
  · have:=qe r (i+1) j l h;refine⟨by omega,?_⟩;rw[show j-i=(j-(i+1))+1 by omega,List.getElem?_cons_succ];exact this.2
theorem vN:∀(ls:List (List Nat)) (i:Nat) (l:List Nat),oZ i ls l=none->l∉ls
 | [],i,l,_=>List.not_mem_nil
 |x::r,i,l,h=>by
  rw[oZ] at h;split at h
  · cases h
  · rename_i e;have:=vN r (i+1) l h;simp only[List.mem_cons,not_or];exact⟨e,this⟩
def dY (ss:List bT) (cur:List Nat) (lists:List (List Nat)) (b:Nat):List (List Nat)×Int :=
 if (cB ss (UInt8.ofNat b) cur).length=0 then (lists,-1)
 else match oZ 0 lists (cB ss (UInt8.ofNat b) cur) with
  |some i=>(lists,(i:Int))
  |none=>(lists++[cB ss (UInt8.ofNat b) cur],(lists.length:Int))
def l9 (ss:List bT) (cur:List Nat):Nat->Nat->List (List Nat)->List Int->List (List Nat)×List Int
 | 0,_,lists,row=>(lists,row)
 |n+1,b,lists,row=>l9 ss cur n (b+1) (dY ss cur lists b).1 (row++[(dY ss cur lists b).2])
def kC (l:List Int):Row:=⟨(l++List.replicate 256 (-1)).take 256,by rw[List.length_take,List.length_append,List.length_replicate];omega⟩
theorem uj {l:List Int}(h:l.length=256):(kC l).v=l:=by
 unfold kC;simp only;rw[List.take_append_of_le_length (by omega),List.take_of_length_le (by omega)]
def kK (ss:List bT):Nat->Nat->List (List Nat)->List Row->List Int->Option cv
 | 0,_,_,_,_=>none
 |n+1,k,lists,next,rule =>
  match lists[k]? with
  |none=>some ⟨next,rule⟩
  |some cur =>
   if 2000<(l9 ss cur 256 0 lists []).1.length then none
   else kK ss n (k+1) (l9 ss cur 256 0 lists []).1 (next++[kC (l9 ss cur 256 0 lists []).2]) (rule++[bg ss cur])
def gO (ss:List bT) (st:Nat):Int ⊕ cv :=
 if (cG ss st).length=0 then .inl 1
 else match kK ss 2002 0 [cG ss st] [] [] with
  |none=>.inl 70
  |some d=>.inr d
end Go.Proofs.YtmehdcdbeafljaaGreatDoor
namespace Go.Proofs.YtmehdcdbeafljaaGreatDoor
open Go.Proofs.Tryz
open Go Go.Lw
set_option maxRecDepth 20000
def ME (h:az) (O:Nat->Prop) (cs:List Value) (x:List Nat):Prop:=∃v,cs=[v]/\bX jm h O v x
def C7:iA (List Nat):=⟨1,by decide,ME,fun h=>by obtain⟨v,rfl,_⟩:=h;rfl,fun h=>by
 obtain⟨v,rfl,hv⟩:=h;intro u hu;simp at hu;subst hu;exact bX.JQ hv,fun h m=>by
 obtain⟨v,hc,hv⟩:=h;exact⟨v,hc,hv.mv m⟩⟩
def nq:Nat->List (List Nat)->List (ByteArray×Int)
 |_,[]=>[]
 |i,x::r=>(bs (zK x),(i:Int))::nq (i+1) r
theorem xT:∀(ls:List (List Nat)) (i:Nat) (l:List Nat),nq i (ls++[l])=nq i ls++[(bs (zK l),((i+ls.length:Nat):Int))]
 | [],i,l=>by simp[nq]
 |x::r,i,l=>by
  simp only[List.cons_append,nq];rw[xT r (i+1) l,List.length_cons,show i+1+r.length=i+(r.length+1) by omega]
theorem wz:∀(ls:List (List Nat)) (i:Nat) (l:List Nat),lQ (bs (zK l)) (nq i ls)=(oZ i ls l).map fun j=>(j:Int)
 | [],i,l=>rfl
 |x::r,i,l=>by
  rw[nq,lQ,oZ]
  by_cases h:l=x
  · subst h;rw[if_pos rfl,if_pos rfl];rfl
  · have hk:¬bs (zK l)=bs (zK x):=fun e=>h (Hf (eT e))
    rw[if_neg hk,if_neg h];exact wz r (i+1) l
theorem B9 {h:az}{O:Nat->Prop}{v:Value}{l:List Nat}(k:bX jm h O v l):bX (.int .i64) h O v (l.map Int.ofNat):=by
 obtain⟨oa,n,c,rfl,hl,hnc,hc,hg⟩:=k;refine⟨oa,n,c,rfl,by simpa using hl,hnc,hc,fun i x hx=>?_⟩;rw[List.getElem?_map] at hx;cases hs:l[i]? with
 |none=>rw[hs] at hx;cases hx
 |some s =>
  rw[hs] at hx;simp only[Option.map_some,Option.some.injEq] at hx;subst hx;obtain⟨b,o,cs,h1,h2,h3,h4⟩:=hg i s hs;exact⟨b,o,cs,h1,h2,h3,h4⟩
structure jr (h0 h:az) (C:Nat->Prop) (db mb:Nat) (vl vn vr:Value) (lists:List (List Nat)) (next:List Row) (rule:List Int):Prop where
 ext:aD h0 h
 dblk:bp h db 149 [vn,vr]
 nx:lR 256 cw h h0.size 153 vn next
 ru:cZ (Value.int .i64) h h0.size 3 vr rule
 mp:gi Value.string (Value.int .i64) h mb (nq 0 lists)
 ls:dH C7 (fun b=>¬C b) h h0.size 127 vl lists
 cty:∀b,C b->dP h b 3
 cr:∀b,vr.ownBlock=some b->¬C b
 dge:h0.size<=db
 mge:h0.size<=mb
section
variable {h0 h:az}{C:Nat->Prop}{db mb:Nat}{vl vn vr:Value}{lists:List (List Nat)}{next:List Row}{rule:List Int}
theorem jr.GZ (k:jr h0 h C db mb vl vn vr lists next rule):∀b,vl.ownBlock=some b->dP h b 127:=fun b hb=>by
 obtain⟨css,_,h2,_⟩:=k.ls;exact h2.ty hb
theorem jr.EX (k:jr h0 h C db mb vl vn vr lists next rule):∀b,vn.ownBlock=some b->dP h b 153:=fun _ hb=>aQ.ty k.nx hb
theorem jr.DL (k:jr h0 h C db mb vl vn vr lists next rule):∀b,vr.ownBlock=some b->dP h b 3:=fun _ hb=>aQ.ty k.ru hb
theorem jr.Of (k:jr h0 h C db mb vl vn vr lists next rule):∀b,vl.ownBlock=some b->h0.size<=b:=fun b hb=>by
 obtain⟨css,_,h2,_⟩:=k.ls;exact(h2.lt hb).1
theorem jr.ax {h':az}(k:jr h0 h C db mb vl vn vr lists next rule) (e:aD h h'):jr h0 h' C db mb vl vn vr lists next rule :=
 ⟨k.ext.trans e,k.dblk.ax e,lR.ax k.nx e,cZ.ax k.ru e,k.mp.ext e (fun k=>k),k.ls.ax e,fun b hb=>(k.cty b hb).ext e (fun k=>k),k.cr,k.dge,k.mge⟩
theorem jr.put {h':az}{x:Nat}(k:jr h0 h C db mb vl vn vr lists next rule) (e:Ext (fun b=>b=x) h h') (hx:dP h x 153) (hn:vn.ownBlock≠some x) (hge:h0.size<=x):jr h0 h' C db mb vl vn vr lists next rule:=by
 have hd:¬db=x:=k.dblk.ty.ne hx (by decide);have hm:¬mb=x:=k.mp.ne hx;have hl:∀b,vl.ownBlock=some b->¬b=x:=fun b hb=>(k.GZ b hb).ne hx (by decide)
 have hr:∀b,vr.ownBlock=some b->¬b=x:=fun b hb=>(k.DL b hb).ne hx (by decide)
 have hc:∀b,C b->¬b=x:=fun b hb=>(k.cty b hb).ne hx (by decide)
 exact⟨aD.only k.ext e hge,k.dblk.ext e hd,aQ.ext e k.nx (fun b hb hbx=>hn (by subst hbx;exact hb)),aQ.ext e k.ru hr,k.mp.ext e hm,
  k.ls.pV e hl (fun b _ hb hC=>hc b hC hb) (fun _ _ k=>k),fun b hb=>(k.cty b hb).ext e (hc b hb),k.cr,k.dge,k.mge⟩
end
section
variable {h0 h:az}{C:Nat->Prop}{db mb:Nat}{vl vn vr:Value}{lists:List (List Nat)}{next:List Row}{rule:List Int}
theorem jr.Kh {g3 g4:az}{v3:Value}{r:Row}{n:Nat}(k:jr h0 h C db mb vl vn vr lists next rule) (hn:n=next.length) (ho:aQ g3 h0.size 153 256 v3 (n+1) (next.flatMap cw++cw r)) (hx:Ext (dB vn.ownBlock) h g3) (hd:bp g4 db 149 [v3,vr]) (x4:Ext (fun b=>b=db) g3 g4) :
 jr h0 g4 C db mb vl v3 vr lists (next++[r]) rule:=by
 have nne:∀{b:Nat}{t:TypeId},dP h b t->153≠t->¬dB vn.ownBlock b:=fun kt ht e=>(k.EX _ e.symm).ne kt ht rfl
 have d3:=k.dblk.ext hx (nne k.dblk.ty (by decide));have dne:∀{b:Nat}{t:TypeId},dP g3 b t->149≠t->¬b=db:=fun kt ht e=>by subst e;exact d3.ty.ne kt ht rfl
 have mne:¬dB vn.ownBlock mb:=fun e=>k.mp.ne (k.EX _ e.symm) rfl
 have hm3:=k.mp.ext hx mne;have hdlt:=k.dblk.lt;have ru3:=aQ.ext hx k.ru (fun b hb=>nne (k.DL b hb) (by decide));have ls3:dH C7 (fun b=>¬C b) g3 h0.size 127 vl lists:=k.ls.pV hx (fun b hb=>nne (k.GZ b hb) (by decide)) (fun b _ hb hC=>nne (k.cty b hC) (by decide) hb) (fun _ _ k=>k);have lty3:∀b,vl.ownBlock=some b->dP g3 b 127:=fun b hb=>(k.GZ b hb).ext hx (nne (k.GZ b hb) (by decide))
 have cty3:∀b,C b->dP g3 b 3:=fun b hb=>(k.cty b hb).ext hx (nne (k.cty b hb) (by decide))
 refine⟨⟨by have:=k.ext.size;have:=hx.size;have:=x4.size;omega,fun b hb kk=>?_⟩,hd,?_,aQ.ext x4 ru3 (fun b hb=>dne (aQ.ty ru3 hb) (by decide)),hm3.ext x4 (hm3.ne d3.ty),ls3.pV x4 (fun b hb=>dne (lty3 b hb) (by decide)) (fun b _ hb hC=>dne (cty3 b hC) (by decide) hb) (fun _ _ k=>k),fun b hb=>(cty3 b hb).ext x4 (dne (cty3 b hb) (by decide)),k.cr,k.dge,k.mge⟩
 · rw[x4.block b (by have:=k.ext.size;have:=hx.size;omega) (by have:=k.dge;omega),hx.block b (by have:=k.ext.size;omega) (fun e=>by have:=(aQ.lt k.nx e.symm).1;omega)];exact k.ext.block b hb kk
 · exact aQ.ext x4 (lR.of ho hn rfl) (fun b hb=>dne (aQ.ty ho hb) (by decide))
theorem jr.Kg {g3 g4:az}{v3:Value}{x:Int}{n:Nat}(k:jr h0 h C db mb vl vn vr lists next rule) (hn:n=rule.length) (ho:aQ g3 h0.size 3 1 v3 (n+1) (rule.map (Value.int .i64)++[.int .i64 x])) (hx:Ext (dB vr.ownBlock) h g3) (hv:∀b,v3.ownBlock=some b->vr.ownBlock=some b\/h.size<=b) (hd:bp g4 db 149 [vn,v3]) (x4:Ext (fun b=>b=db) g3 g4) :
 jr h0 g4 C db mb vl vn v3 lists next (rule++[x]):=by
 have nne:∀{b:Nat}{t:TypeId},dP h b t->3≠t->¬dB vr.ownBlock b:=fun kt ht e=>(k.DL _ e.symm).ne kt ht rfl
 have cne:∀{b:Nat},C b->¬dB vr.ownBlock b:=fun hC e=>k.cr _ e.symm hC
 have d3:=k.dblk.ext hx (nne k.dblk.ty (by decide));have dne:∀{b:Nat}{t:TypeId},dP g3 b t->149≠t->¬b=db:=fun kt ht e=>by subst e;exact d3.ty.ne kt ht rfl
 have mne:¬dB vr.ownBlock mb:=fun e=>k.mp.ne (k.DL _ e.symm) rfl
 have hm3:=k.mp.ext hx mne;have nx3:=aQ.ext hx k.nx (fun b hb=>nne (k.EX b hb) (by decide));have ls3:dH C7 (fun b=>¬C b) g3 h0.size 127 vl lists:=k.ls.pV hx (fun b hb=>nne (k.GZ b hb) (by decide)) (fun b _ hb hC=>cne hC hb) (fun _ _ k=>k);have lty3:∀b,vl.ownBlock=some b->dP g3 b 127:=fun b hb=>(k.GZ b hb).ext hx (nne (k.GZ b hb) (by decide))
 have cty3:∀b,C b->dP g3 b 3:=fun b hb=>(k.cty b hb).ext hx (cne hb)
 refine⟨⟨by have:=k.ext.size;have:=hx.size;have:=x4.size;omega,fun b hb kk=>?_⟩,hd,aQ.ext x4 nx3 (fun b hb=>dne (aQ.ty nx3 hb) (by decide)),?_,hm3.ext x4 (hm3.ne d3.ty),ls3.pV x4 (fun b hb=>dne (lty3 b hb) (by decide)) (fun b _ hb hC=>dne (cty3 b hC) (by decide) hb) (fun _ _ k=>k),fun b hb=>(cty3 b hb).ext x4 (dne (cty3 b hb) (by decide)),fun b hb hC=>?_,k.dge,k.mge⟩
 · rw[x4.block b (by have:=k.ext.size;have:=hx.size;omega) (by have:=k.dge;omega),hx.block b (by have:=k.ext.size;omega) (fun e=>by have:=(aQ.lt k.ru e.symm).1;omega)];exact k.ext.block b hb kk
 · exact aQ.ext x4 (cZ.of (ys:=[x]) ho hn rfl rfl) (fun b hb=>dne (aQ.ty ho hb) (by decide))
 · rcases hv b hb with e|e
   · exact k.cr b e hC
   · have:=(k.cty b hC).lt;omega
end
def Ar (res:Int ⊕ cv) (h':az) (r:Value):Prop:=match res with
 |.inl e=>r= .tuple #[.pointer none,.int .i64 e]
 |.inr d=>∃db,r= .tuple #[.pointer (some ⟨db,0,none⟩),.int .i64 0]/\pH h' db d
theorem BR {h:az}{O:Nat->Prop}{nb:Nat}{v:Value}{ss:List bT}{st:Nat}(htens:ud h) (hn:cF h O nb v ss st) (hgood:Good ss) (hss:ss.length<=30000) (hst:st<ss.length) (hpot1:1+sX ss (List.replicate ss.length false)<=1000000)
 (hpot:∀c now,List.Sublist now (List.range ss.length)->(stepG ss c now []).length+sX ss (List.replicate ss.length false)<=1000000) :
 ah Tryz.prog 29 #[.pointer (some ⟨nb,0,none⟩)] h (dh fun r h'=>Ar (gO ss st) h' r/\aD h h'):=by
 generalize hres:gO ss st=res
 have hint:∀l:List Nat,l.Sublist (List.range ss.length)->(l.map Int.ofNat).length<=1000000/\∀n∈l.map Int.ofNat,-9223372036854775808<=n/\n<=9223372036854775807:=fun l hl=>by
  have h1:=hl.length_le;rw[List.length_range] at h1;refine⟨by rw[List.length_map];omega,fun n hn=>?_⟩;obtain⟨j,hj,rfl⟩:=List.mem_map.1 hn;have:=List.mem_range.1 (hl.subset hj);simp only[Int.ofNat_eq_natCast];omega
 refine ah.of func29 rfl rfl ?_;refine aZ func29 2 [0,2,3] rfl ?_;refine bq func29 1 rfl ?_;refine xo rfl (aq (vs:=[_]) func51 rfl H.Nn rfl (ah.bw (AR hn hgood (by omega) (.inr hst) hpot1))) ?_;rintro w4 h1 ⟨ho1,e1⟩;have hsub0:=Cz ss st;generalize hl0:cG ss st=l0 at *;have hi0:=hint l0 hsub0;obtain⟨wa,wc,rfl,_⟩:=(show aQ h1 h.size 3 1 w4 l0.length (l0.map eS) from ho1).open;refine aS 1 [0,2,3,4] rfl ?_;refine av rfl ?_;refine bq func29 1 rfl ?_;refine xp rfl (aj.aJ underlying127 rfl) ?_;refine aS 1 [0,2,3,4,18] rfl ?_;refine aO rfl rfl (fun hz=>?_) (fun hz=>?_)
 · refine aZ func29 2 [0,2,3,4,18] rfl ?_;refine G.ret func29 rfl rfl ?_;have:res= .inl 1:=by rw[<-hres,gO,hl0,if_pos (by omega)]
   subst this;exact⟨_,rfl,rfl,e1⟩
 · have hres':res=match kK ss 2002 0 [l0] [] [] with|none=>.inl 70|some d=>.inr d:=by rw[<-hres,gO,hl0,if_neg (by omega)]<;>rfl
   refine aC rfl ?_;refine xr func29 rfl ?_;refine xp rfl (aN (H.HK ) rfl) ?_;refine xo rfl (aA.gP rfl) ?_;rintro _ h2 ⟨rfl,k2,e2,z2⟩;refine aS 1 [0,2,3,4,5,18] rfl ?_;refine xr func29 rfl ?_;refine xo rfl (oe (ek:=Value.string) (ev:=Value.int .i64)) ?_;rintro _ h3 ⟨rfl,hm3,e3,z3⟩;have k2:bp h2 h1.size 149 [.slice none 0 0,.slice none 0 0]:=k2;have e13:=e2.trans e3;have hz1:=e1.size;refine bh 1 rfl ?_;refine xo rfl (aq (vs:=[_]) func52 rfl H.Iz rfl (ah.bw (sn ((htens.ax e1).ax e13) (B9 (bX.mv (cZ.read (O:=fun _=>False) (h1:=fun _=>rfl) ho1 (fun _ _ k=>k)) (Mv.ax e13))) hi0.1 hi0.2))) ?_;rintro _ h4 ⟨rfl,e4⟩;have hm4:=hm3.ext e4 (fun k=>k);have z4:=e4.size;refine RW.cu rfl rfl rfl (wP (v:=(0:Int)) jY underlying151 underlying9 rfl rfl rfl rfl rfl hm4 (rfl:lQ (bs (gW (l0.map Int.ofNat))) []=none)) ?_;rintro _ h5 ⟨rfl,hm5,x5,z5⟩;have hm5:gi Value.string (Value.int .i64) h5 h2.size (nq 0 [l0]):=hm5;have e05:aD h h5:=aD.only ((e1.trans e13).trans e4) x5 (by omega);have ho5:cZ eS h5 h.size 3 (.slice wa l0.length wc) l0:=aQ.ext x5 (cZ.ax (cZ.ax ho1 e13) e4) (fun b hb (e:b=h2.size)=>by have:=(aQ.lt ho1 hb).2;omega);have k5:bp h5 h1.size 149 [.slice none 0 0,.slice none 0 0]:=((k2.ax e3).ax e4).ext x5 (by show ¬_=_;omega);refine aS 2 [0,2,3,4,5,6,18] rfl ?_;refine bq func29 1 rfl ?_;refine xo rfl (aA.aX (us:=[_]) underlying152 H.Hz rfl rfl (by decide) (by simp[Value.oneCell'])) ?_;rintro _ _ ⟨rfl,rfl⟩;refine aS 1 [0,2,3,4,5,6,7,18] rfl ?_;refine av rfl ?_;refine aZ func29 1 [0,2,3,4,5,6,7,8,18] rfl ?_;refine G.block rfl rfl ?_;have e56:aD h5 (h5.push (.cells #[.slice wa l0.length wc] 127)):=Ext.push _ _ _
   have ls6:dH C7 (fun b=>¬dB (Value.slice wa l0.length wc).ownBlock b) (h5.push (.cells #[.slice wa l0.length wc] 127)) h.size 127 (.slice (some ⟨h5.size,0,none⟩) 1 1) [l0] :=
    dH.oU (e:=C7) (cs:=[.slice wa l0.length wc]) ⟨_,rfl,aQ.Jw (h1:=fun _=>rfl) ho5 (fun b hb k=>k hb.symm)⟩ e05.size
   generalize h5.push (.cells #[.slice wa l0.length wc] 127)=h6 at *
   have mk6:jr h h6 (dB (Value.slice wa l0.length wc).ownBlock) h1.size h2.size (.slice (some ⟨h5.size,0,none⟩) 1 1) (.slice none 0 0) (.slice none 0 0) [l0] [] [] :=
    ⟨e05.trans e56,k5.ax e56,lR.nil _ _ _ _ _,cZ.nil _ _ _ _,hm5.ext e56 (fun k=>k),ls6,fun b hb=>dP.ext (aQ.ty ho5 hb.symm) e56 (fun k=>k),fun b hb=>(by cases hb),hz1,by omega⟩
   refine bG (σ:=Nat×Value) (fun q=>[(0,.pointer (some ⟨nb,0,none⟩)),(5,.pointer (some ⟨h1.size,0,none⟩)),(6,.map (some h2.size)),(7,q.2),(8,.int .i64 (q.1:Nat))]) (fun q h'=>∃C vn vr lists next rule,jr h h' C h1.size h2.size q.2 vn vr lists next rule/\q.1<=lists.length/\lists.length<=2000/\(next.length=q.1/\rule.length=q.1)/\(∀l∈lists,l.Sublist (List.range ss.length))/\res=(match kK ss (2002-q.1) q.1 lists next rule with|none=>.inl 70|some d=>.inr d)) (fun q=>2002-q.1) ((0,.slice (some ⟨h5.size,0,none⟩) 1 1)) rfl ⟨rfl,rfl,rfl,rfl,rfl,trivial⟩ ⟨_,_,_,[l0],[],[],mk6,Nat.zero_le _,by simp,⟨rfl,rfl⟩,fun l hl=>by simp at hl;subst hl;exact hsub0,hres'⟩ ?_;rintro⟨i,vl⟩ g ⟨C,vn,vr,lists,next,rule,mk,hi,hl2,⟨hnl,hrl⟩,hsl,hcon⟩ ih
   try dsimp only
   dsimp only at mk hi hnl hrl hcon;obtain⟨css,hc1,hc2,hc3⟩:=id mk.ls;obtain⟨la,lc,rfl,_⟩:=hc2.open;have hng:cF g O nb v ss st:=hn.ax mk.ext (fun _ _ k=>k);have mkg:=mk;refine av rfl ?_;refine bq func29 2 rfl ?_;refine xp rfl (aj.aJ underlying152 rfl) ?_;refine aS 1 [0,5,6,7,8,30] rfl ?_;refine aO rfl rfl (fun hlt=>?_) (fun hlt=>?_)
   · have hil:i<lists.length:=by omega
     obtain⟨cur,hcur⟩:∃cur,lists[i]? =some cur:=⟨_,List.getElem?_eq_getElem hil⟩
     have hcsub:=hsl cur (List.mem_of_getElem? hcur);obtain⟨n,hnn⟩:∃n,2002-i=n+1:=⟨2001-i,by omega⟩
     rw[hnn,kK,hcur] at hcon;simp only at hcon;generalize hrow:l9 ss cur 256 0 lists []=tgt at hcon;refine aC rfl ?_;refine av rfl ?_;refine G.block rfl rfl ?_;refine xr func29 rfl ?_;refine xo rfl (aA.aY H.DA) ?_;rintro _ g1 ⟨rfl,kz,ez,zz⟩;have kz:bp g1 g.size 153 (([]:List Int).map (Value.int .i64)++List.replicate (256-0) (Value.int .i64 0)):=kz;have IC:=mk.ax ez;have hvz:vn.ownBlock≠some g.size:=fun e=>by have:=(mk.EX _ e).lt;omega
     refine xd [0,5,6,7,8,9,30] rfl ?_;refine av rfl ?_;refine aZ func29 1 [0,5,6,7,8,9,30,33] rfl ?_;refine G.block rfl rfl ?_;refine bG (σ:=Nat×Value) (fun q=>[(0,.pointer (some ⟨nb,0,none⟩)),(5,.pointer (some ⟨h1.size,0,none⟩)),(6,.map (some h2.size)),(7,q.2),(8,.int .i64 (i:Nat)),(9,.pointer (some ⟨g.size,0,none⟩)),(33,.int .i64 (q.1:Nat))]) (fun q h'=>∃C lists' row,jr h h' C h1.size h2.size q.2 vn vr lists' next rule/\(q.1<=256/\row.length=q.1/\lists'.length<=2000+q.1)/\bp h' g.size 153 (row.map (Value.int .i64)++List.replicate (256-q.1) (Value.int .i64 0))/\lists'[i]? =some cur/\(∀l∈lists',l.Sublist (List.range ss.length))/\l9 ss cur (256-q.1) q.1 lists' row=tgt) (fun q=>256-q.1) ((0,.slice la lists.length lc)) rfl ⟨rfl,rfl,rfl,rfl,rfl,rfl,rfl,trivial⟩ ⟨C,lists,[],IC,⟨Nat.zero_le _,rfl,by simp;omega⟩,kz,hcur,hsl,hrow⟩ ?_;rintro⟨b,vl⟩ g2 ⟨C,lists,row,mk,⟨hb,hrlen,hlb⟩,kz,hcur,hsl,hrow⟩ ih2
     try dsimp only
     dsimp only at mk hb hrlen hlb kz hrow;have hng:cF g2 O nb v ss st:=hn.ax mk.ext (fun _ _ k=>k);refine aZ func29 1 [0,5,6,7,8,9,33,34] rfl ?_;refine av rfl ?_;refine aO rfl rfl (fun hb256=>?_) (fun hb256=>?_)
     · obtain⟨m,hm⟩:∃m,256-b=m+1:=⟨255-b,by omega⟩
       rw[hm,l9] at hrow;obtain⟨g',c',cs,hv',_,_,hrowv,_,⟨w,rfl,hw⟩,_⟩:=mk.ls.put hcur;subst hv';have hnlt:∀j∈cur,j<ss.length:=fun j hj=>List.mem_range.1 (hcsub.subset hj)
       have hcl:=hcsub.length_le;rw[List.length_range] at hcl;have hub:(UInt8.ofNat b).toNat=b:=by simp;omega
       have hwr:bX jm g2 (fun _=>False) w cur:=rI hw (fun _ k=>k.elim);have hstep:=Cy (UInt8.ofNat b) hng hgood (by omega) hwr hnlt (by omega) (hpot _ _ hcsub);rw[hub] at hstep;have hlsub:=ED ss (UInt8.ofNat b) cur;refine aC rfl ?_;refine av rfl ?_;refine G.block rfl rfl ?_;refine aZ func29 2 [0,5,6,7,8,9,10,33,34] rfl ?_;refine bq func29 3 rfl ?_;refine xp rfl (aj.ay underlying152 H.iB rfl rfl i rfl rfl (by have:=(List.getElem?_eq_some_iff.1 hcur).1;omega)) ?_;refine xp rfl (ai H.pG rfl (hrowv 0 _ rfl)) ?_;refine cD 1 rfl rfl (aj.we underlying3 underlying5 rfl (wrap_u8 ⟨by omega,by omega⟩)) ?_;refine xo rfl (aq (vs:=[_,_,_]) func53 rfl H.Nl rfl (ah.bw (hstep))) ?_;rintro w11 g3 ⟨ho3,e3⟩;generalize hl:cB ss (UInt8.ofNat b) cur=l at *;have hsN:dY ss cur lists b=if l.length=0 then (lists,-1) else match oZ 0 lists l with|some i=>(lists,(i:Int))|none=>(lists++[l],(lists.length:Int)):=by unfold dY;rw[hl]<;>rfl
       have hil:=hint l hlsub;obtain⟨l11a,l11c,rfl,_⟩:=(show aQ g3 g2.size 3 1 w11 l.length (l.map eS) from ho3).open;have mk3:=mk.ax e3;have kz3:=kz.ax e3;have hkey:∀{gg:az},aD g3 gg->ah Tryz.prog 52 #[.slice l11a l.length l11c] gg (dh fun r h'=>r= .string (bs (zK l))/\aD gg h'):=fun e=>sn (htens.ax (mk3.ext.trans e)) (B9 (bX.mv (cZ.read (O:=fun _=>False) (h1:=fun _=>rfl) ho3 (fun _ _ k=>k)) (Mv.ax e))) hil.1 hil.2
       refine aS 1 [0,5,6,7,8,9,10,11,33,34] rfl ?_;refine bq func29 2 rfl ?_;refine xo rfl (aq (vs:=[_]) func52 rfl H.Iz rfl (ah.bw (hkey (Ext.refl _ _)))) ?_;rintro _ g4 ⟨rfl,e4⟩;have mk4:=mk3.ax e4;have kz4:=kz3.ax e4;refine xp rfl (aj.vi (z:=.int .i64 0) jY underlying151 underlying9 (by kernel_rfl) rfl rfl rfl mk4.mp) ?_;rw[wz];refine aS 5 [0,5,6,7,8,9,10,11,12,13,33,34] rfl ?_;refine av rfl ?_;refine G.block rfl rfl ?_;refine bq func29 1 rfl ?_;refine xp rfl (aj.aJ underlying127 rfl) ?_;refine aS 2 [0,5,6,7,8,9,10,11,12,13,33,34,51] rfl ?_
       have fin:∀(to:Int) (vl2:Value) (h':az) (ρ':Env),Sub [(0,.pointer (some ⟨nb,0,none⟩)),(5,.pointer (some ⟨h1.size,0,none⟩)),(6,.map (some h2.size)),(7,vl2),(8,.int .i64 (i:Nat)),(9,.pointer (some ⟨g.size,0,none⟩)),(10,.int .i64 (b:Nat)),(12,.int .i64 to),(33,.int .i64 (b:Nat))] ρ'->(∃C2,jr h h' C2 h1.size h2.size vl2 vn vr (dY ss cur lists b).1 next rule)->to=(dY ss cur lists b).2->bp h' g.size 153 (row.map (Value.int .i64)++List.replicate (256-b) (Value.int .i64 0))->G Tryz.prog 29 f29 [.code [1,1,1,1,0,0,1,1,0,0,1,0,1,0,0,1,0,0,1,0,1,1,1,1,1,1],.blk 3,.code [1,1,1,0,0,1,0,1,0,0,1,0,0,1,0,1,1,1,1,1,1],.loop [0,0,1,0,1,0,0,1,0,0,1,0,1,1,1,1,1,1],.blk 2,.code [1,1,0,0,1,0,0,1,0,1,1,1,1,1,1],.blk 1,.code [1,1,0,0,1,0,1,1,1,1,1,1],.loop [0,0,1,0,1,1,1,1,1,1],.blk 0,.code [1,1,1,1,1,1,1]] ρ' h' (dh fun r h'=>Ar res h' r/\aD h h'):=by
        rintro to vl2 g5 ρ' hsub ⟨C2,mk5⟩ hto kz5;refine G.sub (ρ':=[(0,.pointer (some ⟨nb,0,none⟩)),(5,.pointer (some ⟨h1.size,0,none⟩)),(6,.map (some h2.size)),(7,vl2),(8,.int .i64 (i:Nat)),(9,.pointer (some ⟨g.size,0,none⟩)),(10,.int .i64 (b:Nat)),(12,.int .i64 to),(33,.int .i64 (b:Nat))]) hsub ?_
        have hrs:(dY ss cur lists b).1.length<=lists.length+1/\(dY ss cur lists b).1[i]? =some cur/\∀x∈(dY ss cur lists b).1,x.Sublist (List.range ss.length):=by
         rw[hsN];split
         · exact⟨Nat.le_succ _,hcur,hsl⟩
         · split
           · exact⟨Nat.le_succ _,hcur,hsl⟩
           · refine⟨by simp,by rw[List.getElem?_append_left (List.getElem?_eq_some_iff.1 hcur).1];exact hcur,fun x hx=>?_⟩
             rcases List.mem_append.1 hx with k|k
             · exact hsl x k
             · have:x=l:=by simpa using k
               rw[this];exact hlsub
        have hcells:(row.map (Value.int .i64)++List.replicate (256-b) (Value.int .i64 0)).length=256:=by simp[hrlen];omega
        have hset:(row.map (Value.int .i64)++List.replicate (256-b) (Value.int .i64 0)).set (0+b*1) (.int .i64 to)=(row++[to]).map (Value.int .i64)++List.replicate (256-(b+1)) (Value.int .i64 0):=by
         rw[Nat.zero_add,Nat.mul_one,List.set_append_right _ _ (by simp;omega),show 256-b=(256-(b+1))+1 by omega,List.replicate_succ];have:b-(row.map (Value.int .i64)).length=0:=by simp;omega
         rw[this,List.set_cons_zero];simp
        have hblt:0+b*1<(row.map (Value.int .i64)++List.replicate (256-b) (Value.int .i64 0)).length:=by rw[hcells];omega
        refine G.cz func29 rfl ?_;refine cD 2 rfl rfl (aj.cX underlying153 H.cA rfl rfl b rfl (by omega)) ?_;refine RW.cu rfl rfl rfl (cL H.cA rfl rfl rfl (kz5.cell (List.getElem?_eq_getElem hblt)) kz5.nf) ?_;rintro _ g6 ⟨rfl,hg6⟩;have k6:=kz5.set (0+b*1) (.int .i64 to);rw[<-hg6,hset] at k6;have x6:Ext (fun y=>y=g.size) g5 g6:=by rw[hg6];exact Ext.eJ _ _ _ rfl
        have hzge:h.size<=g.size:=mkg.ext.size;have mk6:=mk5.put x6 kz5.ty hvz hzge;refine xd [0,5,6,7,8,9,10,12,33] rfl ?_;refine G.aR ?_;refine G.cz func29 rfl ?_;refine xp rfl (aj.bE rfl rfl ⟨by omega,by omega⟩) ?_;refine aS 1 [0,5,6,7,8,9,10,12,33] rfl ?_;exact ih2 (b+1,vl2) _ _ ⟨rfl,rfl,rfl,rfl,rfl,rfl,rfl,trivial⟩ ⟨C2,_,row++[to],mk6,⟨by show b+1<=256;omega,by simp[hrlen],by show _<=2000+(b+1);omega⟩,k6,hrs.2.1,hrs.2.2,by show l9 ss cur (256-(b+1)) (b+1) _ _=tgt;rw[show 256-(b+1)=m by omega,hto];exact hrow⟩ (by show 256-(b+1)<256-b;omega)
       refine aO rfl rfl (fun hz11=>?_) (fun hz11=>?_)
       · have hl0':l.length=0:=by omega
         refine G.cz func29 rfl ?_;refine aS 1 [0,5,6,7,8,9,10,11,12,13,33,34,51] rfl ?_;refine G.aR ?_;exact fin (-1) _ _ _ ⟨rfl,rfl,rfl,rfl,rfl,rfl,rfl,rfl,rfl,trivial⟩ (by rw[hsN,if_pos hl0'];exact⟨C,mk4⟩) (by rw[hsN,if_pos hl0']) kz4
       · have hl0':¬l.length=0:=by omega
         rcases hfind:oZ 0 lists l with _|j
         · refine aZ func29 3 [0,5,6,7,8,9,10,11,12,13,33,34,51,55] rfl ?_;refine aI rfl rfl (fun _=>?_) (fun hc=>absurd hc (by simp));refine bq func29 1 rfl ?_;refine xp rfl (aj.aJ underlying152 rfl) ?_;refine aS 1 [0,5,6,7,8,9,10,11,12,13,33,34,51,55] rfl ?_;refine bq func29 2 rfl ?_;refine xo rfl (aq (vs:=[_]) func52 rfl H.Iz rfl (ah.bw (hkey e4))) ?_;rintro _ g5 ⟨rfl,e5⟩;have mk5:=mk4.ax e5;have hnone:lQ (bs (zK l)) (nq 0 lists)=none:=by rw[wz,hfind];rfl
           refine bh 1 rfl ?_;refine RW.cu rfl rfl rfl (aA.mapUpdate (v:=(lists.length:Int)) jY underlying151 underlying9 rfl rfl rfl rfl rfl mk5.mp hnone) ?_;rintro _ g6 ⟨rfl,hm6,x6,z6⟩;have hm6:gi Value.string (Value.int .i64) g6 h2.size (nq 0 (lists++[l])):=by rw[xT,Nat.zero_add];exact hm6
           have mapne:∀{b:Nat}{t:TypeId},dP g5 b t->¬b=h2.size:=fun k e=>mk5.mp.ne k e.symm
           have e35:=e4.trans e5;have ho5w:cZ eS g5 g2.size 3 (.slice l11a l.length l11c) l:=cZ.ax ho3 e35;have kz5:=kz4.ax e5;have kz6:=kz5.ext x6 (mapne kz5.ty);have d6:=mk5.dblk.ext x6 (mapne mk5.dblk.ty);have nx6:=aQ.ext x6 mk5.nx (fun b hb=>mapne (mk5.EX b hb));have ru6:=aQ.ext x6 mk5.ru (fun b hb=>mapne (mk5.DL b hb));have ho6w:cZ eS g6 g2.size 3 (.slice l11a l.length l11c) l:=aQ.ext x6 ho5w (fun b hb=>mapne (aQ.ty ho5w hb))
           have ls6:dH C7 (fun b=>¬(C b\/dB (Value.slice l11a l.length l11c).ownBlock b)) g6 h.size 127 (.slice (some ⟨g',0,none⟩) lists.length c') lists :=
            mk5.ls.pV x6 (fun b hb=>mapne (mk5.GZ b hb)) (fun b _ hb hC=>mapne (mk5.cty b hC) hb) (fun b _ hb hC=>hb (.inl hC))
           have lty6:dP g6 g' 127:=(mk5.GZ g' rfl).ext x6 (mapne (mk5.GZ g' rfl));obtain⟨css,hc1,hc2,hc3⟩:=id ls6;have hz5:=mk5.ext.size;have hz2g:=mk.ext.size;refine xd [0,5,6,7,8,9,10,11,12,13,33,34,51,55] rfl ?_;refine G.cz func29 rfl ?_;refine bh 2 rfl ?_;refine xo rfl (aA.aX (us:=[_]) underlying152 H.Hz rfl rfl (by decide) (by simp[Value.oneCell'])) ?_;rintro _ _ ⟨rfl,rfl⟩;refine xo rfl (aA.bS underlying152 H.Hz rfl rfl (hc2) rfl rfl (by first|decide|simp[Value.oneCell']) (by omega) (by decide) (by omega)) ?_;rintro v7 g7 ⟨ho7,hx7,hx7',hv7⟩
           have lne:∀{b:Nat}{t:TypeId},dP g6 b t->127≠t->¬dB (Value.slice (some ⟨g',0,none⟩) lists.length c').ownBlock b:=fun k ht e=>by
            simp only[dB,Value.ownBlock,Option.some.injEq] at e;subst e;exact lty6.ne k ht rfl
           have hsz3:=e3.size;have hsz35:=e35.size;have ty6:∀{b:Nat}{t:TypeId},dP g5 b t->dP g6 b t:=fun k=>k.ext x6 (mapne k)
           have hls7:dH C7 (fun b=>¬(C b\/dB (Value.slice l11a l.length l11c).ownBlock b)) g7 h.size 127 v7 (lists++[l]) :=
            dH.gF (h:=g6) (v:=.slice (some ⟨g',0,none⟩) lists.length c') (css:=css) (cs:=[.slice l11a l.length l11c]) hc1 hc3 ho7 hx7 hv7 ⟨_,rfl,aQ.Jw (h1:=fun _=>rfl) ho6w (fun b hb k=>by
             rcases k with k|k
             · exact lne (aQ.ty ho6w hb) (by decide) k
             · exact k (.inr hb.symm))⟩
           have hmb6:¬dB (Value.slice (some ⟨g',0,none⟩) lists.length c').ownBlock h2.size:=fun e=>by
            simp only[dB,Value.ownBlock,Option.some.injEq] at e;exact hm6.ne (e▸lty6) rfl
           have hext7:aD h g7:=⟨by have:=hx7.size;omega,fun b hb k=>by
            rw[hx7.block b (by omega) (fun e=>by
             simp only[dB,Value.ownBlock,Option.some.injEq] at e;have:=mk5.Of g' rfl;omega),x6.block b (by omega) (by have:=mk5.mge;omega)]
            exact mk5.ext.block b hb k⟩
           have mk7:jr h g7 (fun b=>C b\/dB (Value.slice l11a l.length l11c).ownBlock b) h1.size h2.size v7 vn vr (lists++[l]) next rule :=
            ⟨hext7,d6.ext hx7 (lne d6.ty (by decide)),aQ.ext hx7 nx6 (fun b hb=>lne (aQ.ty nx6 hb) (by decide)),aQ.ext hx7 ru6 (fun b hb=>lne (aQ.ty ru6 hb) (by decide)),hm6.ext hx7 hmb6,hls7,
             fun b hb=>by
              rcases hb with hb|hb
              · exact dP.ext (ty6 (mk5.cty b hb)) hx7 (lne (ty6 (mk5.cty b hb)) (by decide))
              · exact dP.ext (aQ.ty ho6w hb.symm) hx7 (lne (aQ.ty ho6w hb.symm) (by decide)),
             fun b hb hC=>by
              rcases hC with hC|hC
              · exact mk5.cr b hb hC
              · have h1':=(mk.DL b hb).lt;have h2':=(aQ.lt ho6w hC.symm).1;omega,mk5.dge,mk5.mge⟩
           obtain⟨v7a,v7c,rfl,_⟩:=ho7.open;refine aS 1 [0,5,6,7,8,9,10,11,12,13,33,34,51,55] rfl ?_;refine G.aR ?_;exact fin (lists.length:Int) _ _ _ ⟨rfl,rfl,rfl,rfl,rfl,rfl,rfl,rfl,rfl,trivial⟩ (by rw[hsN,if_neg hl0',hfind];exact⟨_,mk7⟩) (by rw[hsN,if_neg hl0',hfind]) (kz6.ext hx7 (lne kz6.ty (by decide)))
         · have hj:=qe lists 0 j l hfind;refine aZ func29 3 [0,5,6,7,8,9,10,11,12,13,33,34,51,55] rfl ?_;refine aI rfl rfl (fun hc=>absurd hc (by simp)) (fun _=>?_);refine aC rfl ?_;refine G.aR ?_;exact fin (j:Int) _ _ _ ⟨rfl,rfl,rfl,rfl,rfl,rfl,rfl,rfl,rfl,trivial⟩ (by rw[hsN,if_neg hl0',hfind];exact⟨C,mk4⟩) (by rw[hsN,if_neg hl0',hfind]) kz4
     · obtain rfl:b=256:=by omega
       rw[Nat.sub_self,l9] at hrow;subst hrow;simp only at hcon;obtain⟨css2,hd1,hd2,hd3⟩:=id mk.ls;obtain⟨la2,lc2,rfl,_⟩:=hd2.open;have hencr:cw (kC row)=row.map (Value.int .i64):=by rw[cw,uj hrlen]
       rw[Nat.sub_self,List.replicate_zero,List.append_nil,<-hencr] at kz;refine bA rfl rfl ?_;refine av rfl ?_;refine bq func29 1 rfl ?_;refine xp rfl (aj.aJ underlying152 rfl) ?_;refine aS 1 [0,5,6,7,8,9,33,34,74] rfl ?_;refine aO rfl rfl (fun hbigl=>?_) (fun hbigl=>?_)
       · rw[if_pos (by omega)] at hcon;refine aZ func29 2 [0,2,3,5,6,7,8,9,33,34,74] rfl ?_;refine G.ret func29 rfl rfl ?_;exact⟨_,rfl,by rw[hcon];rfl,mk.ext⟩
       · rw[if_neg (by omega)] at hcon
         have nne:∀{b:Nat}{t:TypeId},dP g2 b t->153≠t->¬(dB vn.ownBlock b\/Array.size g2<=b):=fun kt ht e=>by
          rcases e with e|e
          · exact(mk.EX _ e.symm).ne kt ht rfl
          · have:=kt.lt;omega
         have hzM:¬(dB vn.ownBlock g.size\/Array.size g2<=g.size):=by
          rintro(e|e)
          · exact hvz e.symm
          · have:=kz.lt;omega
         have hdM:=nne mk.dblk.ty (by decide);have hnx:aQ g2 h.size 153 256 vn next.length (next.flatMap cw):=mk.nx
         have hone:∀u∈cw (kC row),u.oneCell'=true:=fun u hu=>by simp[cw] at hu;obtain⟨_,_,rfl⟩:=hu;rfl
         have hg2:=mk.ext.size;refine aC rfl ?_;refine av rfl ?_;refine b6 (fun b=>dB vn.ownBlock b\/Array.size g2<=b) (fun i=>Nat.blt i 10) (sz:=11) (listed:= #[false,false,false,false,false,false,false,false,false,false,false]) func29 H.mixed rfl rfl rfl ?_;refine cg 0 1 (by kernel_rfl) rfl ?_;refine cg 1 3 (by kernel_rfl) rfl ?_;refine cg 2 7 (by kernel_rfl) rfl ?_;refine bL 3 15 (by kernel_rfl) rfl (fun h' e=>af (off:=0) underlying149 rfl rfl H.kV rfl) ?_;refine bL 4 31 (by kernel_rfl) rfl (fun h' e=>ai H.rE rfl (e.cell hdM (mk.dblk.cell (i:=0) rfl))) ?_;refine bL 5 63 (by kernel_rfl) rfl (fun h' e=>aj.aH H.wF H.kU rfl (e.rowAt hzM kz.row) (by first|rfl|(simp;done)|(simp;omega))) ?_;refine eM 6 127 (by kernel_rfl) rfl (aA.cE (cs:=cw (kC row)) underlying147 H.D9 rfl (mD _) (by decide)) ?_;rintro _ _ ⟨rfl,rfl⟩;refine⟨fun _=>(Ext.push _ _ _),?_⟩;refine eM 7 255 (by kernel_rfl) rfl (aA.yE underlying147 H.D9 rfl rfl hnx rfl (by simp) hone (by simp only[maxLen];omega) (by omega) hg2) ?_;rintro v3 g3 ⟨ho3,hx3,hx3',hv3⟩;refine⟨fun _=>hx3'.mono (fun _ _ k=>.inl k),?_⟩;obtain⟨a3,c3,rfl,_⟩:=ho3.open;refine eM 8 511 (by kernel_rfl) rfl (aj.bw (aM rfl)) ?_;rintro _ hq_ ⟨rfl,hqe_⟩;replace hqe_:=hqe_.symm;subst hqe_;refine⟨fun _=>Ext.refl _ _,?_⟩;refine bL 9 1023 (by kernel_rfl) rfl (fun h' e=>af (off:=0) underlying149 rfl rfl H.kV rfl) ?_;refine mN 10 2047 (by kernel_rfl) rfl (aA.bB H.kV rfl rfl (mk.dblk.ext hx3 (fun e=>hdM (.inl e))) (by first|decide|exact of_decide_eq_true rfl|(simp;done)|(simp;omega)) rfl) ?_;rintro _ g4 ⟨rfl,k4,x4,z4⟩;refine⟨fun hk=>(nomatch hk),?_⟩;have mk4:=mk.Kh (r:=kC row) rfl ho3 hx3 k4 x4;obtain⟨g',c',cs,hv',_,_,hrowv,_,⟨w,rfl,hw⟩,_⟩:=mk4.ls.put hcur;cases hv';have hng4:cF g4 O nb v ss st:=hn.ax mk4.ext (fun _ _ k=>k);have hwr:bX jm g4 (fun _=>False) w cur:=rI hw (fun _ k=>k.elim);have hnlt:∀j∈cur,j<ss.length:=fun j hj=>List.mem_range.1 (hcsub.subset hj)
         have hcl:=hcsub.length_le;rw[List.length_range] at hcl
         have rne:∀{b:Nat}{t:TypeId},dP g4 b t->3≠t->¬(dB vr.ownBlock b\/Array.size g4<=b):=fun kt ht e=>by
          rcases e with e|e
          · exact(mk4.DL _ e.symm).ne kt ht rfl
          · have:=kt.lt;omega
         have hdM4:=rne mk4.dblk.ty (by decide);have hlM4:=rne (mk4.GZ g' rfl) (by decide);have hru:aQ g4 h.size 3 1 vr rule.length (rule.map (Value.int .i64)):=mk4.ru;have hg4s:=mk4.ext.size;have hli:i<lists.length:=(List.getElem?_eq_some_iff.1 hcur).1;refine br (by kernel_rfl) ?_;refine xu [0,5,6,7,8,9,33,34,74] rfl ?_;refine b6 (fun b=>dB vr.ownBlock b\/Array.size g4<=b) (fun i=>Nat.blt i 15) (sz:=16) (listed:= #[false,false,false,false,false,false,false,false,false,false,false,false,false,false,false,false]) func29 H.mixed rfl rfl rfl ?_;refine cg 0 1 (by kernel_rfl) rfl ?_;refine cg 1 3 (by kernel_rfl) rfl ?_;refine cg 2 7 (by kernel_rfl) rfl ?_;refine bL 3 15 (by kernel_rfl) rfl (fun h' e=>af (off:=1) underlying149 rfl rfl H.iB rfl) ?_;refine bL 4 31 (by kernel_rfl) rfl (fun h' e=>ai H.pG rfl (e.cell hdM4 (mk4.dblk.cell (i:=1) rfl))) ?_;refine cg 5 63 (by kernel_rfl) rfl ?_;refine cg 6 127 (by kernel_rfl) rfl ?_;refine cg 7 255 (by kernel_rfl) rfl ?_;refine bL 8 511 (by kernel_rfl) rfl (fun h' e=>aj.ay underlying152 H.iB rfl rfl i rfl rfl (by omega)) ?_;refine bL 9 1023 (by kernel_rfl) rfl (fun h' e=>ai H.pG rfl (e.cell hlM4 (hrowv 0 _ rfl))) ?_;refine eM 10 2047 (by kernel_rfl) rfl (aq (vs:=[_,_]) func54 rfl H.Nk rfl (ah.bw (xF hng4 (by omega) hwr hnlt (by omega)))) ?_;rintro _ g5 ⟨rfl,hg5⟩;refine⟨fun _=>by subst hg5;exact Ext.refl _ _,?_⟩;subst hg5;refine eM 11 4095 (by kernel_rfl) rfl (aA.aX (us:=[_]) underlying127 H.rq rfl rfl (by decide) (by simp[Value.oneCell'])) ?_;rintro _ _ ⟨rfl,rfl⟩;refine⟨fun _=>by first|exact Ext.push _ _ _|assumption,?_⟩;refine eM 12 8191 (by kernel_rfl) rfl (aA.bS underlying127 H.rq rfl rfl (hru) rfl rfl (by first|decide|simp[Value.oneCell']) (by omega) (by decide) (by omega)) ?_;rintro v6 g6 ⟨ho6,hx6,hx6',hv6⟩;refine⟨fun _=>hx6'.mono (fun _ _ k=>.inl k),?_⟩;obtain⟨a6,c6,rfl,_⟩:=ho6.open;refine eM 13 16383 (by kernel_rfl) rfl (aj.bw (aM rfl)) ?_;rintro _ hq_ ⟨rfl,hqe_⟩;replace hqe_:=hqe_.symm;subst hqe_;refine⟨fun _=>Ext.refl _ _,?_⟩;refine bL 14 32767 (by kernel_rfl) rfl (fun h' e=>af (off:=1) underlying149 rfl rfl H.iB rfl) ?_;refine mN 15 65535 (by kernel_rfl) rfl (aA.bB H.iB rfl rfl (mk4.dblk.ext hx6 (fun e=>hdM4 (.inl e))) (by first|decide|exact of_decide_eq_true rfl|(simp;done)|(simp;omega)) rfl) ?_;rintro _ g7 ⟨rfl,k7,x7,z7⟩;refine⟨fun hk=>(nomatch hk),?_⟩;have mk7:=mk4.Kg (x:=bg ss cur) rfl ho6 hx6 hv6 k7 x7;refine br (by kernel_rfl) ?_;refine xu [0,5,6,7,8,9,33,34,74] rfl ?_;refine G.aR ?_;refine G.cz func29 rfl ?_;refine cD 1 rfl rfl (aj.bE rfl rfl ⟨by omega,by omega⟩) ?_;refine aS 1 [0,5,6,7,8,9,33,34,74] rfl ?_;exact ih (i+1,_) _ _ ⟨rfl,rfl,rfl,rfl,rfl,trivial⟩ ⟨C,_,_,lists,next++[kC row],rule++[bg ss cur],mk7,by show i+1<=lists.length;omega,by omega,⟨by simp[hnl],by simp[hrl]⟩,hsl,by rw[hcon,show 2002-(i+1)=n by omega]⟩ (by show 2002-(i+1)<2002-i;omega)
   · have hie:i=lists.length:=by omega
     have hnone:lists[i]? =none:=List.getElem?_eq_none (by omega);obtain⟨n,hnn⟩:∃n,2002-i=n+1:=⟨2001-i,by omega⟩
     rw[hnn,kK,hnone] at hcon;simp only at hcon;refine bA rfl rfl ?_;refine aZ func29 3 [0,2,3,5,6,7,8,30] rfl ?_;refine G.ret func29 rfl rfl ?_;refine⟨_,rfl,?_,mk.ext⟩;rw[hcon];exact⟨h1.size,rfl,vn,vr,mk.dblk,lR.read mk.nx (fun _ _ k=>k),cZ.read (h1:=fun _=>rfl) mk.ru (fun _ _ k=>k)⟩
end Go.Proofs.YtmehdcdbeafljaaGreatDoor
namespace Go.Proofs.YtmehdcdbeafljaaGreatDoor
open Go
def cv.row (d:cv) (k:Nat):List Int:=match d.next[k]? with|some r=>r.v|none=>[]
def gL (out:List Bool) (t:Int):Bool:=decide (0<=t) && out.getD t.toNat false
def dW (d:cv) (out:List Bool) (k:Nat):Bool:=decide (0<=d.ru k) ||(d.row k).any (gL out)
def cI (d:cv):Nat->Nat->List Bool->Bool->List Bool×Bool
 | 0,_,out,ag=>(out,ag)
 |n+1,k,out,ag=>if out.getD k false=true then cI d n (k+1) out ag else cI d n (k+1) (out.set k (dW d out k)) (ag ||dW d out k)
def gN (out:List Bool):Nat:=(out.filter fun b=> !b).length
def qU (d:cv):Nat->List Bool->List Bool
 | 0,out=>out
 |n+1,out=>if (cI d d.next.length 0 out false).2=true then qU d n (cI d d.next.length 0 out false).1 else (cI d d.next.length 0 out false).1
def bK (d:cv):List Bool:=qU d (d.next.length+1) (List.replicate d.next.length false)
theorem vR:∀(out:List Bool) (k:Nat) (b:Bool),out[k]? =some false->gN (out.set k b)+(if b then 1 else 0)=gN out
 | [],k,b,h=>by simp at h
 |x::r,0,b,h=>by simp at h;subst h;cases b<;>simp[gN]
 |x::r,k+1,b,h=>by
  have:=vR r k b (by simpa using h);unfold gN at this ⊢;rw[List.set_cons_succ];cases x<;>simp at this ⊢ <;>omega
theorem ij (d:cv):∀(n k:Nat) (out:List Bool) (ag:Bool),(cI d n k out ag).1.length=out.length
 | 0,_,_,_=>rfl
 |n+1,k,out,ag=>by
  rw[cI];split
  · exact ij d n _ _ _
  · rw[ij d n];simp
theorem iV (d:cv):∀(n k:Nat) (out:List Bool) (ag:Bool),k+n<=out.length->gN (cI d n k out ag).1<=gN out/\((cI d n k out ag).2=true->ag=true\/gN (cI d n k out ag).1<gN out)
 | 0,_,out,ag,_=>⟨Nat.le_refl _,fun h=>.inl h⟩
 |n+1,k,out,ag,hk=>by
  rw[cI];split
  · exact iV d n (k+1) out ag (by omega)
  · rename_i h
    have hf:out[k]? =some false:=by
     rw[List.getD_eq_getElem?_getD,List.getElem?_eq_getElem (by omega)] at h;rw[List.getElem?_eq_getElem (by omega)];simpa using h
    have h1:=vR out k (dW d out k) hf;have h2:=iV d n (k+1) (out.set k (dW d out k)) (ag ||dW d out k) (by simp;omega);refine⟨by omega,fun ht=>?_⟩
    rcases h2.2 ht with h3|h3
    · cases hb:dW d out k with
      |true=>rw[hb,if_pos rfl] at h1;right;rw[hb] at h2;omega
      |false=>rw[hb,Bool.or_false] at h3;exact .inl h3
    · right;omega
end Go.Proofs.YtmehdcdbeafljaaGreatDoor
namespace Go.Proofs.YtmehdcdbeafljaaGreatDoor
open Go.Proofs.Tryz
open Go Go.Lw
set_option maxRecDepth 20000
theorem Bg (r:Row):over (List.replicate 256 (Value.int .i64 0)) 0 (cw r)=cw r:=by
 unfold over;rw[List.take_zero,List.nil_append,mD,List.drop_of_length_le (by simp),List.append_nil]
theorem CS {h:az}{db:Nat}{d:cv}(k:pH h db d) (hok:d.Ok) :
 ah Tryz.prog 56 #[.pointer (some ⟨db,0,none⟩)] h (dh fun r h'=>cZ Value.bool h' h.size 4 r (bK d)/\aD h h'):=by
 obtain⟨vn,vr,hk,⟨na,nn,nc,rfl,hnl,hnc,hnm,hgetn⟩,⟨ra,rn,rc,rfl,hrl,hrc,hrm,hgetr⟩⟩:=k;have hlen:=hok.len;have hsize:=hok.size;have hslN:bX Ea h (fun _=>False) (.slice na nn nc) d.next:=⟨_,_,_,rfl,hnl,hnc,hnm,hgetn⟩
 have hslR:bX (.int .i64) h (fun _=>False) (.slice ra rn rc) d.rule:=⟨_,_,_,rfl,hrl,hrc,hrm,hgetr⟩
 subst hnl;generalize htgt:bK d=tgt;refine ah.of func56 rfl rfl ?_;refine aZ func56 1 [0,2] rfl ?_;refine bq func56 2 rfl ?_;refine xp rfl (af (off:=0) underlying149 rfl rfl H.kV rfl) ?_;refine xp rfl (ai H.rE rfl (hk.cell (i:=0) rfl)) ?_;refine xp rfl (aj.aJ underlying147 rfl) ?_;refine xo rfl (aA.qT underlying157 H.NS H.NM rfl rfl rfl (by omega) (by decide)) ?_;rintro _ h1 ⟨rfl,k1,e1⟩;have k1:cZ Value.bool h1 h.size 4 (.slice (some ⟨h.size,0,none⟩) d.next.length d.next.length) (List.replicate d.next.length false):=by unfold cZ;simpa using k1
 have hf0:gN (List.replicate d.next.length false)<=d.next.length:=by unfold gN;exact Nat.le_trans (List.length_filter_le _ _) (by simp)
 refine aS 1 [0,2,3] rfl ?_;refine av rfl ?_;refine aZ func56 1 [0,2,3,4] rfl ?_;refine G.block rfl rfl ?_;refine bG (σ:=Nat×Bool×List Bool) (fun q=>[(0,.pointer (some ⟨db,0,none⟩)),(3,.slice (some ⟨h.size,0,none⟩) d.next.length d.next.length),(4,.bool q.2.1)]) (fun q h'=>aD h h'/\cZ Value.bool h' h.size 4 (.slice (some ⟨h.size,0,none⟩) d.next.length d.next.length) q.2.2/\q.2.2.length=d.next.length/\(q.2.1=true->gN q.2.2<q.1/\qU d q.1 q.2.2=tgt)/\(q.2.1=false->q.2.2=tgt)) (fun q=>q.1+(if q.2.1 then 1 else 0)) ((d.next.length+1,true,List.replicate d.next.length false)) rfl ⟨rfl,rfl,rfl,trivial⟩ ⟨e1,k1,by simp,fun _=>⟨Nat.lt_succ_of_le hf0,htgt⟩,fun k=>(by cases k)⟩ ?_;rintro⟨n,ag,out⟩ g ⟨eg,ho,hol,hT,hF⟩ ih
 try dsimp only
 dsimp only at ho hol hT hF;refine av rfl ?_;refine aZ func56 1 [0,3,4,15] rfl ?_;refine aI rfl rfl (fun hag=>?_) (fun hag=>?_)
 · subst hag;obtain⟨hfn,hcon⟩:=hT rfl;obtain⟨n,rfl⟩:∃m,n=m+1:=⟨n-1,by omega⟩
   rw[qU] at hcon;have hless:=iV d d.next.length 0 out false (by omega)
   generalize hps:cI d d.next.length 0 out false=ps at hcon hless
   refine aC rfl ?_;refine G.block rfl rfl ?_;refine aZ func56 1 [0,3,4,15] rfl ?_;refine bq func56 2 rfl ?_;refine xp rfl (af (off:=0) underlying149 rfl rfl H.kV rfl) ?_;refine xp rfl (ai H.rE rfl ((hk.ax eg).cell (i:=0) rfl)) ?_;refine xp rfl (aj.aJ underlying147 rfl) ?_;refine aS 1 [0,3,4,15,19,20,21] rfl ?_;refine G.block rfl rfl ?_;refine bG (σ:=Nat×Bool×List Bool) (fun q=>[(0,.pointer (some ⟨db,0,none⟩)),(3,.slice (some ⟨h.size,0,none⟩) d.next.length d.next.length),(4,.bool q.2.1),(19,.slice na d.next.length nc),(20,.int .i64 (d.next.length:Nat)),(21,.int .i64 (q.1:Nat))]) (fun q h'=>aD h h'/\cZ Value.bool h' h.size 4 (.slice (some ⟨h.size,0,none⟩) d.next.length d.next.length) q.2.2/\q.2.2.length=d.next.length/\q.1<=d.next.length/\cI d (d.next.length-q.1) q.1 q.2.2 q.2.1=ps) (fun q=>d.next.length-q.1) ((0,false,out)) rfl ⟨rfl,rfl,rfl,rfl,rfl,rfl,trivial⟩ ⟨eg,ho,hol,Nat.zero_le _,hps⟩ ?_;rintro⟨k,ag,out⟩ g2 ⟨eg2,ho,hol,hkl,hcon2⟩ ih2
   try dsimp only
   dsimp only at ho hol hkl hcon2;refine aZ func56 1 [0,3,4,19,20,21,22] rfl ?_;refine av rfl ?_;refine aO rfl rfl (fun hlt=>?_) (fun hlt=>?_)
   · have hkN:k<d.next.length:=by omega
     obtain⟨m,hm⟩:∃m,d.next.length-k=m+1:=⟨d.next.length-k-1,by omega⟩
     rw[hm,cI] at hcon2;obtain⟨r,hr⟩:∃r,d.next[k]? =some r:=⟨_,List.getElem?_eq_getElem hkN⟩
     obtain⟨oa',n',c',hv',_,_,_,hgetn⟩:=id (hslN.mv (Mv.ax eg2));cases hv';obtain⟨b1,o1,cs1,ha1,_,hrow1,rfl⟩:=hgetn k r hr;have hone:∀u∈cw r,u.oneCell'=true:=fun u hu=>by simp[cw] at hu;obtain⟨_,_,rfl⟩:=hu;rfl
     obtain⟨bx,hbx⟩:∃bx,out[k]? =some bx:=⟨_,List.getElem?_eq_getElem (by omega)⟩
     have hgd:out.getD k false=bx:=by rw[List.getD_eq_getElem?_getD,hbx];rfl
     rw[hgd] at hcon2;refine aC rfl ?_;refine av rfl ?_;refine G.block rfl rfl ?_;refine bq func56 1 rfl ?_;refine xp rfl (aj.ay underlying147 H.kU rfl rfl k rfl ha1 (by omega)) ?_;refine xp rfl (aj.aH H.wF H.kU rfl hrow1 (by first|rfl|(simp;done)|(simp;omega))) ?_;refine xo rfl (aA.aY H.DA) ?_;rintro _ g3 ⟨rfl,k6,e3,z3⟩;have k6:bp g3 g2.size 153 (List.replicate 256 (Value.int .i64 0)):=k6;refine bh 1 rfl ?_;refine RW.cu rfl rfl rfl (aA.aB H.kU rfl rfl k6 (by first|rfl|(simp;done)|(simp;omega)) (by first|decide|exact of_decide_eq_true rfl|(simp;done)|(simp;omega)) (hone)) ?_;rintro _ g4 ⟨rfl,k7,x7,z7⟩;have k7:bp g4 g2.size 153 (cw r):=by rw[<-Bg r];exact k7
     have e4:aD g2 g4:=aD.only e3 x7 (Nat.le_refl _);have eg4:=eg2.trans e4;have ho4:=cZ.ax ho e4;obtain⟨gg,c4,hv4,hgb,hglt,hcell,hfz,hset⟩:=ho4.at hbx;rw[hol] at hv4;cases hv4;refine xd [0,3,4,5,6,19,20,21,22] rfl ?_;refine av rfl ?_;refine bq func56 2 rfl ?_;refine xp rfl (aj.ay underlying157 H.mX rfl rfl k rfl rfl (by omega)) ?_;refine xp rfl (ai H.wE rfl hcell) ?_;refine xd [0,3,4,5,6,19,20,21,22,29] rfl ?_;refine aI rfl rfl (fun hb=>?_) (fun hb=>?_)
     · subst hb;rw[if_pos rfl] at hcon2;refine bA rfl rfl ?_;refine G.cz func56 rfl ?_;refine xp rfl (aj.bE rfl rfl ⟨by omega,by omega⟩) ?_;refine aS 1 [0,3,4,5,6,19,20,21,22,29] rfl ?_;exact ih2 (k+1,ag,out) _ _ ⟨rfl,rfl,rfl,rfl,rfl,rfl,trivial⟩ ⟨eg4,ho4,hol,hkN,by show cI d (d.next.length-(k+1)) _ _ _=ps;rw[show d.next.length-(k+1)=m by omega];exact hcon2⟩ (by show d.next.length-(k+1)<d.next.length-k;omega)
     · subst hb;rw[if_neg (by decide)] at hcon2;obtain⟨x,hx⟩:∃x,d.rule[k]? =some x:=⟨_,List.getElem?_eq_getElem (by omega)⟩
       have hru:d.ru k=x:=by unfold cv.ru;rw[List.getD_eq_getElem?_getD,hx];rfl
       have hrow:d.row k=r.v:=by unfold cv.row;rw[hr]
       obtain⟨oa',n',c',hv',_,_,_,hgetr⟩:=id (hslR.mv (Mv.ax eg4));cases hv';obtain⟨b2,o2,cs2,ha2,_,hrow2,rfl⟩:=hgetr k x hx;refine aC rfl ?_;refine bq func56 4 rfl ?_;refine xp rfl (af (off:=1) underlying149 rfl rfl H.iB rfl) ?_;refine xp rfl (ai H.pG rfl ((hk.ax eg4).cell (i:=1) rfl)) ?_;refine cD 1 rfl rfl (aj.ay underlying127 H.cA rfl rfl k rfl ha2 (by omega)) ?_;refine xp rfl (ai H.de rfl (hrow2 0 _ rfl)) ?_;refine cD 1 rfl rfl (aj.ay underlying157 H.mX rfl rfl k rfl rfl (by omega)) ?_;refine RW.cu rfl rfl rfl (cL H.mX rfl rfl rfl hcell hfz) ?_;rintro _ g5 ⟨rfl,hg5⟩;have hset:=hset (decide (0<=x));rw[<-hg5] at hset;have x5:Ext (fun b=>b=h.size) g4 g5:=by rw[hg5];exact Ext.eJ _ _ _ rfl
       have e5:aD h g5:=aD.only eg4 x5 (Nat.le_refl _);have hz2:=eg2.size;have hlt2:h.size<g2.size:=(aQ.lt ho rfl).2;have k8:=k7.ext x5 (by show ¬_=_;omega);refine xd [0,3,4,5,6,19,20,21,22,29] rfl ?_;refine av rfl ?_;refine xr func56 rfl ?_;refine xp rfl (aj.aH H.wF H.kU rfl k8.row (by first|rfl|(simp;done)|(simp;omega))) ?_;refine aS 1 [0,3,4,5,6,19,20,21,22,29,41,42] rfl ?_;refine G.block rfl rfl ?_;refine bG (σ:=Nat) (fun j=>[(0,.pointer (some ⟨db,0,none⟩)),(3,.slice (some ⟨h.size,0,none⟩) d.next.length d.next.length),(4,.bool ag),(5,.int .i64 (k:Nat)),(19,.slice na d.next.length nc),(20,.int .i64 (d.next.length:Nat)),(21,.int .i64 (k:Nat)),(41,.agg (cw r).toArray),(42,.int .i64 (j:Nat))]) (fun j h'=>aD h h'/\cZ Value.bool h' h.size 4 (.slice (some ⟨h.size,0,none⟩) d.next.length d.next.length) (out.set k (decide (0<=x) ||(r.v.take j).any (gL out)))/\j<=256) (fun j=>256-j) (0) rfl ⟨rfl,rfl,rfl,rfl,rfl,rfl,rfl,rfl,rfl,trivial⟩ ⟨e5,by simpa using hset,Nat.zero_le _⟩ ?_;rintro j g6 ⟨eg6,ho6,hj⟩ ih3;refine aZ func56 1 [0,3,4,5,19,20,21,41,42,43] rfl ?_;refine av rfl ?_;refine aO rfl rfl (fun hlt3=>?_) (fun hlt3=>?_)
       · have hj2:j<256:=by omega
         obtain⟨t,ht⟩:∃t,r.v[j]? =some t:=⟨_,List.getElem?_eq_getElem (by rw[r.len];exact hj2)⟩
         have htr:(r.v.take (j+1)).any (gL out)=((r.v.take j).any (gL out) ||gL out t):=by rw[List.take_add_one,ht,List.any_append];simp
         have htm:=hok.to r (List.mem_of_getElem? hr) t (List.mem_of_getElem? ht);generalize hc:(decide (0<=x) ||(r.v.take j).any (gL out))=cb at ho6;have hcell6:(out.set k cb)[k]? =some cb:=by rw[List.getElem?_set_self (by rw[hol];exact hkN)]
         obtain⟨gg,c6,hv6,_,_,hcc6,hfz6,hset6⟩:=ho6.at hcell6;rw[List.length_set,hol] at hv6;cases hv6
         have fin:∀y g7,y=(decide (0<=x) ||(r.v.take (j+1)).any (gL out))->g7=eJ g6 ⟨h.size,0+k*1,none⟩ (.bool y)->aD h g7/\cZ Value.bool g7 h.size 4 (.slice (some ⟨h.size,0,none⟩) d.next.length d.next.length) (out.set k (decide (0<=x) ||(r.v.take (j+1)).any (gL out)))/\j+1<=256:=by
          rintro y g7 rfl rfl;have k9:=hset6 (decide (0<=x) ||(r.v.take (j+1)).any (gL out));rw[List.set_set] at k9;exact⟨aD.only eg6 (Ext.eJ (M:=fun b=>b=h.size) g6 _ _ rfl) (Nat.le_refl _),k9,hj2⟩
         refine aC rfl ?_;refine av rfl ?_;refine G.block rfl rfl ?_;refine xr func56 rfl ?_;refine xp rfl (aj.vG underlying153 H.cA H.de rfl rfl j rfl hj2 (show (cw r).toArray[j]? =some (Value.int .i64 t) by simp[cw,ht])) ?_;refine aS 1 [0,3,4,5,8,19,20,21,41,42,43] rfl ?_;refine G.cz func56 rfl ?_;refine cD 4 rfl rfl (aj.ay underlying157 H.mX rfl rfl k rfl rfl (by omega)) ?_;refine xp rfl (ai H.wE rfl hcc6) ?_;refine bh 1 rfl ?_;refine aP (d:=51) rfl (fun hg=>?_) (fun hg=>?_)
         · refine cD 9 rfl rfl (aj.ay underlying157 H.mX rfl rfl k rfl rfl (by omega)) ?_;refine RW.cu rfl rfl rfl (cL H.mX rfl rfl rfl hcc6 hfz6) ?_;rintro _ g7 ⟨rfl,hg7⟩;refine xd [0,3,4,5,8,19,20,21,41,42,43] rfl ?_;refine G.aR ?_;refine G.cz func56 rfl ?_;refine xp rfl (aj.bE rfl rfl ⟨by omega,by omega⟩) ?_;refine aS 1 [0,3,4,5,8,19,20,21,41,42,43] rfl ?_;exact ih3 (j+1) _ _ ⟨rfl,rfl,rfl,rfl,rfl,rfl,rfl,rfl,rfl,trivial⟩ (fin true g7 (by rw[htr,<-Bool.or_assoc,hc,hg];rfl) hg7) (by omega)
         · refine bh 3 rfl ?_;refine aP (d:=54) rfl (fun hg2=>?_) (fun hg2=>?_)
           · have hg2':=of_decide_eq_true hg2;obtain⟨t2,rfl⟩:=Int.eq_ofNat_of_zero_le hg2';obtain⟨bt,hbt⟩:∃bt,(out.set k cb)[t2]? =some bt:=⟨_,List.getElem?_eq_getElem (by rw[List.length_set,hol];omega)⟩
             obtain⟨gg,c6,hv6,_,_,hct,_,_⟩:=ho6.at hbt;rw[List.length_set,hol] at hv6;cases hv6
             have hlt2:gL out (t2:Nat)=bt:=by
              unfold gL;rw[decide_eq_true (show (0:Int)<=(t2:Nat) by omega),Bool.true_and,Int.toNat_natCast,List.getD_eq_getElem?_getD]
              by_cases e:k=t2
              · subst e;rw[hcell6] at hbt;cases hbt;rw[hbx,hg];rfl
              · rw[List.getElem?_set_ne e] at hbt;rw[hbt];rfl
             refine cD 2 rfl rfl (aj.ay underlying157 H.mX rfl rfl t2 rfl rfl (by omega)) ?_;refine xp rfl (ai H.wE rfl hct) ?_;refine cD 2 rfl rfl (aj.ay underlying157 H.mX rfl rfl k rfl rfl (by omega)) ?_;refine RW.cu rfl rfl rfl (cL H.mX rfl rfl rfl hcc6 hfz6) ?_;rintro _ g7 ⟨rfl,hg7⟩;refine xd [0,3,4,5,8,19,20,21,41,42,43] rfl ?_;refine G.aR ?_;refine G.cz func56 rfl ?_;refine xp rfl (aj.bE rfl rfl ⟨by omega,by omega⟩) ?_;refine aS 1 [0,3,4,5,8,19,20,21,41,42,43] rfl ?_;exact ih3 (j+1) _ _ ⟨rfl,rfl,rfl,rfl,rfl,rfl,rfl,rfl,rfl,trivial⟩ (fin bt g7 (by rw[htr,<-Bool.or_assoc,hc,hg,hlt2,Bool.false_or]) hg7) (by omega)
           · have hg2':=of_decide_eq_false hg2;refine cD 6 rfl rfl (aj.ay underlying157 H.mX rfl rfl k rfl rfl (by omega)) ?_;refine RW.cu rfl rfl rfl (cL H.mX rfl rfl rfl hcc6 hfz6) ?_;rintro _ g7 ⟨rfl,hg7⟩;refine xd [0,3,4,5,8,19,20,21,41,42,43] rfl ?_;refine G.aR ?_;refine G.cz func56 rfl ?_;refine xp rfl (aj.bE rfl rfl ⟨by omega,by omega⟩) ?_;refine aS 1 [0,3,4,5,8,19,20,21,41,42,43] rfl ?_;exact ih3 (j+1) _ _ ⟨rfl,rfl,rfl,rfl,rfl,rfl,rfl,rfl,rfl,trivial⟩ (fin false g7 (by rw[htr,<-Bool.or_assoc,hc,hg];unfold gL;rw[decide_eq_false hg2'];rfl) hg7) (by omega)
       · have hje:j=256:=by omega
         have hla:(decide (0<=x) ||(r.v.take j).any (gL out))=dW d out k:=by
          unfold dW;rw[hru,hrow,hje,List.take_of_length_le (by rw[r.len];exact Nat.le_refl _)]
         rw[hla] at ho6;have hcell6:(out.set k (dW d out k))[k]? =some (dW d out k):=by rw[List.getElem?_set_self (by rw[hol];exact hkN)]
         obtain⟨gg,c6,hv6,_,_,hcc6,hfz6,_⟩:=ho6.at hcell6;rw[List.length_set,hol] at hv6;cases hv6;refine bA rfl rfl ?_;refine G.bF [(4,.bool (ag ||dW d out k))] [(0,_),(3,_),(5,_),(19,_),(20,_),(21,_),(41,_),(42,_),(43,_)] ⟨rfl,rfl,rfl,rfl,rfl,rfl,rfl,rfl,rfl,trivial⟩ func56 rfl ?_ ?_
         · refine bh 2 rfl ?_;refine aP (d:=64) rfl (fun hg=>?_) (fun hg=>?_)
           · refine bh 6 rfl ?_;refine aE rfl ?_;exact⟨rfl,aF rfl (by rw[hg];rfl),rfl,rfl,rfl,rfl,rfl,rfl,rfl,rfl,rfl,trivial⟩
           · refine cD 2 rfl rfl (aj.ay underlying157 H.mX rfl rfl k rfl rfl (by omega)) ?_;refine xp rfl (ai H.wE rfl hcc6) ?_;refine bh 2 rfl ?_;refine aE rfl ?_;exact⟨rfl,aF rfl (by rw[hg];rfl),rfl,rfl,rfl,rfl,rfl,rfl,rfl,rfl,rfl,trivial⟩
         · refine G.aR ?_;refine G.cz func56 rfl ?_;refine xp rfl (aj.bE rfl rfl ⟨by omega,by omega⟩) ?_;refine aS 1 [0,3,4,5,19,20,21,41,42,43] rfl ?_;exact ih2 (k+1,ag ||dW d out k,out.set k (dW d out k)) _ _ ⟨rfl,rfl,rfl,rfl,rfl,rfl,trivial⟩ ⟨eg6,ho6,by show (out.set k _).length=_;rw[List.length_set];exact hol,hkN,by show cI d (d.next.length-(k+1)) _ _ _=ps;rw[show d.next.length-(k+1)=m by omega];exact hcon2⟩ (by show d.next.length-(k+1)<d.next.length-k;omega)
   · have hke:d.next.length-k=0:=by omega
     rw[hke,cI] at hcon2;subst hcon2;simp only at hcon hless;refine bA rfl rfl ?_;refine G.aR ?_
     exact ih (n,ag,out) _ _ ⟨rfl,rfl,rfl,trivial⟩ ⟨eg2,ho,hol,fun ht=>by
      subst ht;rw[if_pos rfl] at hcon
      rcases hless.2 rfl with k|k
      · cases k
      · exact⟨by show gN out<n;omega,hcon⟩,fun hf=>by
      subst hf;rw[if_neg (by decide)] at hcon;exact hcon⟩ (by show n+(if ag=true then 1 else 0)<n+1+(if true=true then 1 else 0);rw[if_pos rfl];split<;>omega)
 · subst hag;have hcon:=hF rfl;refine bA rfl rfl ?_;refine aZ func56 2 [0,2,3,4,15] rfl ?_;refine G.ret func56 rfl rfl ?_;exact⟨_,rfl,by rw[<-hcon];unfold cZ at ho ⊢;rw[hol] at ho ⊢;exact ho,eg⟩
end Go.Proofs.YtmehdcdbeafljaaGreatDoor
namespace Go.Proofs.YtmehdcdbeafljaaGreatDoor
open Go
def kE:Nat->List (List Int)->List Int->Option Nat
 |_,[],_=>none
 |i,x::r,l=>if l=x then some i else kE (i+1) r l
theorem qf:∀(ls:List (List Int)) (i j:Nat) (l:List Int),kE i ls l=some j->i<=j/\ls[j-i]? =some l
 | [],i,j,l,h=>by cases h
 |x::r,i,j,l,h=>by
  rw[kE] at h;split at h
  · rename_i e;cases h;subst e;exact⟨Nat.le_refl _,by simp⟩
  · have:=qf r (i+1) j l h;refine⟨by omega,?_⟩;rw[show j-i=(j-(i+1))+1 by omega,List.getElem?_cons_succ];exact this.2
def cN (live:List Bool) (cls:List Int) (t:Int):Int:=if t<0\/live.getD t.toNat false=false then -2 else cls.getD t.toNat 0
def fR (d:cv) (live:List Bool) (cls:List Int) (k:Nat):List Int:=cls.getD k 0::(d.row k).map (cN live cls)
def bI (d:cv) (live:List Bool) (cls:List Int):Nat->Nat->List (List Int)->List Int->List (List Int)×List Int
 | 0,_,seen,after=>(seen,after)
 |n+1,k,seen,after =>
  match kE 0 seen (fR d live cls k) with
  |some i=>bI d live cls n (k+1) seen (after++[(i:Int)])
  |none=>bI d live cls n (k+1) (seen++[fR d live cls k]) (after++[(seen.length:Int)])
def kN (d:cv) (live:List Bool):Nat->Nat->List Int->List Int
 | 0,_,cls=>cls
 |n+1,many,cls =>
  if (bI d live cls d.next.length 0 [] []).1.length=many then (bI d live cls d.next.length 0 [] []).2
  else kN d live n (bI d live cls d.next.length 0 [] []).1.length (bI d live cls d.next.length 0 [] []).2
def eG (d:cv) (live:List Bool):List Int:=kN d live (d.next.length+1) 0 d.rule
def j8 (m:Nat) (l:List Int):Prop:=∀i,i<m->(i:Int)∈l
theorem qj:∀(m:Nat) (l:List Int),j8 m l->m<=l.length
 | 0,_,_=>Nat.zero_le _
 |m+1,l,h=>by
  have hm:=h m (Nat.lt_succ_self m);have h1:j8 m (l.erase (m:Int)):=fun i hi=>(List.mem_erase_of_ne (by omega)).2 (h i (by omega))
  have h2:=qj m _ h1;have h3:=List.length_erase_of_mem hm;have h4:0<l.length:=List.length_pos_of_mem hm;omega
structure Dq (d:cv) (live:List Bool) (cls:List Int) (k:Nat) (seen:List (List Int)) (after:List Int):Prop where
 len:after.length=k
 size:seen.length<=k
 nums:j8 seen.length after
 bound:∀x∈after,0<=x/\x<seen.length
 all:∀j,j<k->fR d live cls j∈seen
theorem mF {d:cv}{live:List Bool}{cls:List Int}:∀(n k:Nat) (seen:List (List Int)) (after:List Int),Dq d live cls k seen after->Dq d live cls (k+n) (bI d live cls n k seen after).1 (bI d live cls n k seen after).2
 | 0,k,seen,after,h=>h
 |n+1,k,seen,after,h=>by
  rw[bI,show k+(n+1)=(k+1)+n by omega];split
  · rename_i i hi;have hi':=qf seen 0 i _ hi;have hil:=(List.getElem?_eq_some_iff.1 hi'.2).1
    exact mF n (k+1) _ _ ⟨by simp[h.len],by have:=h.size;omega,fun j hj=>List.mem_append_left _ (h.nums j hj),fun x hx=>by
     rcases List.mem_append.1 hx with e|e
     · exact h.bound x e
     · have:x=(i:Int):=by simpa using e
       rw[this];omega,fun j hj=>by
     by_cases e:j=k
     · subst e;exact List.mem_of_getElem? hi'.2
     · exact h.all j (by omega)⟩
  · exact mF n (k+1) _ _ ⟨by simp[h.len],by have:=h.size;simp;omega,fun j hj=>by
     simp only[List.length_append,List.length_singleton] at hj
     by_cases e:j=seen.length
     · subst e;simp
     · exact List.mem_append_left _ (h.nums j (by omega)),fun x hx=>by
     simp only[List.length_append,List.length_singleton]
     rcases List.mem_append.1 hx with e|e
     · have:=h.bound x e;omega
     · have:x=(seen.length:Int):=by simpa using e
       omega,fun j hj=>by
     by_cases e:j=k
     · subst e;simp
     · exact List.mem_append_left _ (h.all j (by omega))⟩
theorem fC (d:cv) (live:List Bool) (cls:List Int):Dq d live cls d.next.length (bI d live cls d.next.length 0 [] []).1 (bI d live cls d.next.length 0 [] []).2:=by
 have:=mF (d:=d) (live:=live) (cls:=cls) d.next.length 0 [] [] ⟨rfl,Nat.le_refl _,fun i hi=>absurd hi (Nat.not_lt_zero _),fun x hx=>(by cases hx),fun j hj=>absurd hj (Nat.not_lt_zero _)⟩
 rwa [Nat.zero_add] at this
theorem nW {d:cv}{live:List Bool}{cls:List Int}{many:Nat}(hc:j8 many cls) (hl:cls.length=d.next.length):many<=(bI d live cls d.next.length 0 [] []).1.length:=by
 have h:=fC d live cls
 have:j8 many ((bI d live cls d.next.length 0 [] []).1.map fun s=>s.getD 0 0):=fun i hi=>by
  obtain⟨k,hk⟩:=List.getElem?_of_mem (hc i hi);have hkl:=(List.getElem?_eq_some_iff.1 hk).1;have:=h.all k (by omega);refine List.mem_map.2 ⟨_,this,?_⟩;simp[fR,List.getD_eq_getElem?_getD,hk]
 have:=qj _ _ this;simpa using this
end Go.Proofs.YtmehdcdbeafljaaGreatDoor
namespace Go.Proofs.YtmehdcdbeafljaaGreatDoor
open Go.Proofs.Tryz
open Go Go.Lw
set_option maxRecDepth 20000
section
variable {live:List Bool}{cls:List Int}
def iC:Nat->List (List Int)->List (ByteArray×Int)
 |_,[]=>[]
 |i,x::r=>(bs (gW x),(i:Int))::iC (i+1) r
theorem uN:∀(ls:List (List Int)) (i:Nat) (l:List Int),iC i (ls++[l])=iC i ls++[(bs (gW l),((i+ls.length:Nat):Int))]
 | [],i,l=>by simp[iC]
 |x::r,i,l=>by
  simp only[List.cons_append,iC];rw[uN r (i+1) l,List.length_cons,show i+1+r.length=i+(r.length+1) by omega]
theorem rV:∀(ls:List (List Int)) (i:Nat),(iC i ls).length=ls.length
 | [],_=>rfl
 |x::r,i=>by rw[iC,List.length_cons,List.length_cons,rV r (i+1)]
theorem lI:∀(ls:List (List Int)) (i:Nat) (l:List Int),lQ (bs (gW l)) (iC i ls)=(kE i ls l).map fun j=>(j:Int)
 | [],i,l=>rfl
 |x::r,i,l=>by
  rw[iC,lQ,kE]
  by_cases h:l=x
  · subst h;rw[if_pos rfl,if_pos rfl];rfl
  · have hk:¬bs (gW l)=bs (gW x):=fun e=>h (key_inj (eT e))
    rw[if_neg hk,if_neg h];exact lI r (i+1) l
theorem wq {t:Int}(h:t<0\/live.getD t.toNat false=false):cN live cls t= -2:=if_pos h
theorem Dh {t:Int}(h:¬(t<0\/live.getD t.toNat false=false)):cN live cls t=cls.getD t.toNat 0:=if_neg h
theorem tq (hcb:∀x∈cls,-1<=x/\x<=1000000) (k:Nat) : -1<=cls.getD k 0/\cls.getD k 0<=1000000:=by
 rw[List.getD_eq_getElem?_getD];cases hk:cls[k]? with
 |none=>simp
 |some x=>exact hcb x (List.mem_of_getElem? hk)
theorem yX {d:cv}(hcb:∀x∈cls,-1<=x/\x<=1000000) (k:Nat):∀x∈fR d live cls k,-9223372036854775808<=x/\x<=9223372036854775807:=by
 intro x hx
 rcases List.mem_cons.1 hx with e|e
 · have:=tq hcb k;omega
 · obtain⟨t,_,rfl⟩:=List.mem_map.1 e;unfold cN;split
   · omega
   · have:=tq hcb t.toNat;omega
theorem vO:∀(ls:List (List Int)) (i:Nat) (l:List Int),kE i ls l=none->kE i (ls++[l]) l=some (i+ls.length)
 | [],i,l,_=>by simp[kE]
 |x::r,i,l,h=>by
  rw[kE] at h;split at h
  · cases h
  · rename_i hn;rw[List.cons_append,kE,if_neg hn,vO r (i+1) l h,List.length_cons]
    congr 1;omega
theorem xA {h:az}{db:Nat}{d:cv}{lv:Value}(htens:ud h) (k:pH h db d) (hok:d.Ok) (hlv:bX .bool h (fun _=>False) lv live) (hll:live.length=d.next.length) :
 ah Tryz.prog 57 #[.pointer (some ⟨db,0,none⟩),lv] h (dh fun r h'=>cZ (Value.int .i64) h' h.size 3 r (eG d live)/\aD h h'):=by
 obtain⟨vn,vr,hk,⟨na,nn,nc,rfl,hnl,hnc,hnm,hgetn⟩,⟨ra,rn,rc,rfl,hrl,hrc,hrm,hgetr⟩⟩:=k;obtain⟨va,vm,vc,rfl,hvl,hvc,hvm,hgetv⟩:=hlv;have hlen:=hok.len;have hsize:=hok.size;have hslN:bX Ea h (fun _=>False) (.slice na nn nc) d.next:=⟨_,_,_,rfl,hnl,hnc,hnm,hgetn⟩
 have hslR:bX (.int .i64) h (fun _=>False) (.slice ra rn rc) d.rule:=⟨_,_,_,rfl,hrl,hrc,hrm,hgetr⟩
 have hslV:bX .bool h (fun _=>False) (.slice va vm vc) live:=⟨_,_,_,rfl,hvl,hvc,hvm,hgetv⟩
 subst hnl;generalize htgt:eG d live=tgt;refine ah.of func57 rfl rfl ?_;refine aZ func57 1 [0,1,4] rfl ?_;refine bq func57 2 rfl ?_;refine xp rfl (af (off:=0) underlying149 rfl rfl H.kV rfl) ?_;refine xp rfl (ai H.rE rfl (hk.cell (i:=0) rfl)) ?_;refine xp rfl (aj.aJ underlying147 rfl) ?_;refine xo rfl (aA.qT underlying127 H.rq H.MS rfl rfl rfl (by omega) (by decide)) ?_;rintro _ h1 ⟨rfl,k1,e1⟩;have k1:cZ (Value.int .i64) h1 h.size 3 (.slice (some ⟨h.size,0,none⟩) d.next.length d.next.length) (List.replicate d.next.length 0):=by unfold cZ;simpa using k1
 refine aS 1 [0,1,4,5] rfl ?_;refine av rfl ?_;refine bq func57 1 rfl ?_;refine xp rfl (aj.aJ underlying127 rfl) ?_;refine aS 1 [0,1,4,5,25,26] rfl ?_;refine G.block rfl rfl ?_;refine bG (σ:=Nat) (fun i=>[(0,.pointer (some ⟨db,0,none⟩)),(1,.slice va vm vc),(5,.slice (some ⟨h.size,0,none⟩) d.next.length d.next.length),(25,.int .i64 (d.next.length:Nat)),(26,.int .i64 (i:Nat))]) (fun i h'=>aD h h'/\cZ (Value.int .i64) h' h.size 3 (.slice (some ⟨h.size,0,none⟩) d.next.length d.next.length) (d.rule.take i++List.replicate (d.next.length-i) 0)/\i<=d.next.length) (fun i=>d.next.length-i) (0) rfl ⟨rfl,rfl,rfl,rfl,rfl,trivial⟩ ⟨e1,by simpa using k1,Nat.zero_le _⟩ ?_;rintro i g ⟨eg,ho,hi⟩ ih;refine aZ func57 1 [0,1,5,25,26,27] rfl ?_;refine av rfl ?_;refine aO rfl rfl (fun hlt=>?_) (fun hlt=>?_)
 · have hiN:i<d.next.length:=by omega
   obtain⟨x,hx⟩:∃x,d.rule[i]? =some x:=⟨_,List.getElem?_eq_getElem (by omega)⟩
   have hxe:d.rule[i]'(by omega)=x:=(List.getElem?_eq_some_iff.1 hx).2;obtain⟨oa',n',c',hv',_,_,_,hgetr⟩:=id (hslR.mv (Mv.ax eg));cases hv';obtain⟨b2,o2,cs2,ha2,_,hrow2,rfl⟩:=hgetr i x hx;obtain⟨gg,c4,hv4,hgb,hglt,hcell,hfz,hset⟩:=ho.at (Hs (z:=(0:Int)) hlen hiN);rw[Hr hlen hi] at hv4;cases hv4;refine aC rfl ?_;refine av rfl ?_;refine G.block rfl rfl ?_;refine aZ func57 2 [0,1,5,6,25,26,27] rfl ?_;refine G.cz func57 rfl ?_;refine cD 4 rfl rfl (af (off:=1) underlying149 rfl rfl H.iB rfl) ?_;refine xp rfl (ai H.pG rfl ((hk.ax eg).cell (i:=1) rfl)) ?_;refine cD 1 rfl rfl (aj.ay underlying127 H.cA rfl rfl i rfl ha2 (by omega)) ?_;refine xp rfl (ai H.de rfl (hrow2 0 _ rfl)) ?_;refine xp rfl (aj.ay underlying127 H.cA rfl rfl i rfl rfl (by omega)) ?_;refine RW.cu rfl rfl rfl (cL H.cA rfl rfl rfl hcell hfz) ?_;rintro _ g2 ⟨rfl,hg2⟩;have hset:=hset x;rw[<-hg2,<-hxe,Hq hlen hiN] at hset;have x2:Ext (fun b=>b=h.size) g g2:=by rw[hg2];exact Ext.eJ _ _ _ rfl
   have e2:aD h g2:=aD.only eg x2 (Nat.le_refl _);refine xd [0,1,5,6,25,26,27] rfl ?_;refine G.aR ?_;refine G.cz func57 rfl ?_;refine xp rfl (aj.bE rfl rfl ⟨by omega,by omega⟩) ?_;refine aS 1 [0,1,5,6,25,26,27] rfl ?_;exact ih (i+1) _ _ ⟨rfl,rfl,rfl,rfl,rfl,trivial⟩ ⟨e2,hset,hiN⟩ (by show d.next.length-(i+1)<d.next.length-i;omega)
 · obtain rfl:i=d.next.length:=by omega
   rw[Nat.sub_self,List.replicate_zero,List.append_nil,List.take_of_length_le (by omega)] at ho;refine bA rfl rfl ?_;refine aZ func57 1 [0,1,5,7,25,26,27] rfl ?_;refine G.block rfl rfl ?_;refine bG (σ:=Nat×Nat×Value×List Int) (fun q=>[(0,.pointer (some ⟨db,0,none⟩)),(1,.slice va vm vc),(5,q.2.2.1),(7,.int .i64 (q.2.1:Nat))]) (fun q h'=>aD h h'/\cZ (Value.int .i64) h' h.size 3 q.2.2.1 q.2.2.2/\q.2.2.2.length=d.next.length/\(∀x∈q.2.2.2,-1<=x/\x<=1000000)/\(q.2.1<=d.next.length/\j8 q.2.1 q.2.2.2/\d.next.length+1<=q.1+q.2.1)/\kN d live q.1 q.2.1 q.2.2.2=tgt) (fun q=>q.1) ((d.next.length+1,0,.slice (some ⟨h.size,0,none⟩) d.next.length d.next.length,d.rule)) rfl ⟨rfl,rfl,rfl,rfl,trivial⟩ ⟨eg,ho,hlen,hok.ru,⟨Nat.zero_le _,fun i hi=>absurd hi (Nat.not_lt_zero _),by simp⟩,htgt⟩ ?_;rintro⟨n,many,vcl,cls⟩ g ⟨eg,ho,hcl,hcb,⟨hmN,hcov,hfuel⟩,hcon⟩ ih
   try dsimp only
   dsimp only at ho hcl hcb hmN hcov hfuel hcon;obtain⟨n,rfl⟩:∃m,n=m+1:=⟨n-1,by omega⟩
   rw[kN] at hcon;have hmore:=nW (d:=d) (live:=live) hcov hcl;have hend:=fC d live cls;generalize hps:bI d live cls d.next.length 0 [] []=ps at hcon hmore hend
   obtain⟨la,lc,rfl,_⟩:=(show aQ g h.size 3 1 vcl cls.length (cls.map (Value.int .i64)) from ho).open;rw[hcl] at ho;have hown:∀b,(Value.slice la d.next.length lc).ownBlock=some b->b<g.size:=fun b hb=>(aQ.lt ho hb).2
   rw[hcl];refine G.block rfl rfl ?_;refine xr func57 rfl ?_;refine xo rfl (oe (ek:=Value.string) (ev:=Value.int .i64)) ?_;rintro _ g1 ⟨rfl,hm1,e1',z1⟩;refine aS 1 [0,1,5,7,8] rfl ?_;refine bq func57 1 rfl ?_;refine xp rfl (aj.aJ underlying127 rfl) ?_;refine xo rfl (aA.qT underlying127 H.rq H.MS rfl rfl rfl (by omega) (by decide)) ?_;rintro _ g2 ⟨rfl,k2,e2⟩;have k2:cZ (Value.int .i64) g2 g1.size 3 (.slice (some ⟨g1.size,0,none⟩) d.next.length d.next.length) (List.replicate d.next.length 0):=by unfold cZ;simpa using k2
   have hm2:=hm1.ext e2 (fun k=>k);have e12:=e1'.trans e2;refine aS 1 [0,1,5,7,8,9] rfl ?_;refine av rfl ?_;refine bq func57 2 rfl ?_;refine xp rfl (af (off:=0) underlying149 rfl rfl H.kV rfl) ?_;refine xp rfl (ai H.rE rfl ((hk.ax (eg.trans e12)).cell (i:=0) rfl)) ?_;refine xp rfl (aj.aJ underlying147 rfl) ?_;refine aS 1 [0,1,5,7,8,9,47,48,49] rfl ?_;refine G.block rfl rfl ?_;refine bG (σ:=Nat×List (List Int)×List Int) (fun q=>[(0,.pointer (some ⟨db,0,none⟩)),(1,.slice va vm vc),(5,.slice la d.next.length lc),(7,.int .i64 (many:Nat)),(8,.map (some g.size)),(9,.slice (some ⟨g1.size,0,none⟩) d.next.length d.next.length),(47,.slice na d.next.length nc),(48,.int .i64 (d.next.length:Nat)),(49,.int .i64 (q.1:Nat))]) (fun q h'=>aD g h'/\gi Value.string (Value.int .i64) h' g.size (iC 0 q.2.1)/\cZ (Value.int .i64) h' g1.size 3 (.slice (some ⟨g1.size,0,none⟩) d.next.length d.next.length) (q.2.2++List.replicate (d.next.length-q.1) 0)/\(q.1<=d.next.length/\q.2.2.length=q.1/\q.2.1.length<=q.1)/\bI d live cls (d.next.length-q.1) q.1 q.2.1 q.2.2=ps) (fun q=>d.next.length-q.1) ((0,[],[])) rfl ⟨rfl,rfl,rfl,rfl,rfl,rfl,rfl,rfl,rfl,trivial⟩ ⟨e12,hm2,k2,⟨Nat.zero_le _,rfl,Nat.le_refl _⟩,hps⟩ ?_;rintro⟨k,seen,after⟩ g3 ⟨e3,hmp,haf,⟨hkN,hal,hsl⟩,hcon2⟩ ih2
   try dsimp only
   dsimp only at hmp haf hkN hal hsl hcon2;have eg3:=eg.trans e3;have ho3:=cZ.ax ho e3;refine aZ func57 1 [0,1,5,7,8,9,47,48,49,50] rfl ?_;refine av rfl ?_;refine aO rfl rfl (fun hlt=>?_) (fun hlt=>?_)
   · have hkN:k<d.next.length:=by omega
     obtain⟨m,hm⟩:∃m,d.next.length-k=m+1:=⟨d.next.length-k-1,by omega⟩
     rw[hm,bI] at hcon2;obtain⟨r,hr⟩:∃r,d.next[k]? =some r:=⟨_,List.getElem?_eq_getElem hkN⟩
     obtain⟨oa',n',c',hv',_,_,_,hgetn⟩:=id (hslN.mv (Mv.ax eg3));cases hv';obtain⟨b1,o1,cs1,ha1,_,hrow1,rfl⟩:=hgetn k r hr;have hone:∀u∈cw r,u.oneCell'=true:=fun u hu=>by simp[cw] at hu;obtain⟨_,_,rfl⟩:=hu;rfl
     have hrow:d.row k=r.v:=by unfold cv.row;rw[hr]
     refine aC rfl ?_;refine av rfl ?_;refine G.block rfl rfl ?_;refine bq func57 1 rfl ?_;refine xp rfl (aj.ay underlying147 H.kU rfl rfl k rfl ha1 (by omega)) ?_;refine xp rfl (aj.aH H.wF H.kU rfl hrow1 (by first|rfl|(simp;done)|(simp;omega))) ?_;refine xo rfl (aA.aY H.DA) ?_;rintro _ g4 ⟨rfl,k4,e4,z4⟩;have k4:bp g4 g3.size 153 (List.replicate 256 (Value.int .i64 0)):=k4;refine bh 1 rfl ?_;refine RW.cu rfl rfl rfl (aA.aB H.kU rfl rfl k4 (by first|rfl|(simp;done)|(simp;omega)) (by first|decide|exact of_decide_eq_true rfl|(simp;done)|(simp;omega)) (hone)) ?_;rintro _ g5 ⟨rfl,k5,x5,z5⟩;have k5:bp g5 g3.size 153 (cw r):=by rw[<-Bg r];exact k5
     have e5:aD g3 g5:=aD.only e4 x5 (Nat.le_refl _);have ho5:=cZ.ax ho3 e5;obtain⟨c,hc⟩:∃c,cls[k]? =some c:=⟨_,List.getElem?_eq_getElem (by omega)⟩
     have hgd:cls.getD k 0=c:=by rw[List.getD_eq_getElem?_getD,hc];rfl
     obtain⟨gg,c4,hv4,hgb,hglt,hcell,hfz,hset⟩:=ho5.at hc;rw[hcl] at hv4;have hla:la=some ⟨gg,0,none⟩:=by cases hv4;rfl
     refine xd [0,1,5,7,8,9,10,11,47,48,49,50] rfl ?_;refine bq func57 2 rfl ?_;refine xp rfl (aj.ay underlying127 H.cA rfl rfl k rfl hla (by omega)) ?_;refine xp rfl (ai H.de rfl hcell) ?_;have e56:aD g5 (g5.push (.cells #[.int .i64 c] 3)):=Ext.push _ _ _;have hl6:cZ (Value.int .i64) (g5.push (.cells #[.int .i64 c] 3)) g5.size 3 (.slice (some ⟨g5.size,0,none⟩) 1 1) [c]:=lN (Value.int .i64) g5 3 [c] 1 rfl (by decide) g5.size (Nat.le_refl _) rfl;refine xo rfl (aA.aX (us:=[_]) underlying127 H.rq rfl rfl (by decide) (by simp[Value.oneCell'])) ?_;rintro _ _ ⟨rfl,rfl⟩;refine aS 1 [0,1,5,7,8,9,10,11,12,47,48,49,50] rfl ?_;refine av rfl ?_;refine xr func57 rfl ?_;generalize g5.push (.cells #[.int .i64 c] 3)=g6 at *;have k6:=k5.ax e56;have e36:aD g3 g6:=e5.trans e56;have ho6:=cZ.ax ho5 e56;have hz5:=e5.size;refine xp rfl (aj.aH H.wF H.kU rfl k6.row (by first|rfl|(simp;done)|(simp;omega))) ?_;refine aS 1 [0,1,5,7,8,9,10,11,12,47,48,49,50,59,60] rfl ?_;refine G.block rfl rfl ?_;refine bG (σ:=Nat×Value) (fun q=>[(0,.pointer (some ⟨db,0,none⟩)),(1,.slice va vm vc),(5,.slice la d.next.length lc),(7,.int .i64 (many:Nat)),(8,.map (some g.size)),(9,.slice (some ⟨g1.size,0,none⟩) d.next.length d.next.length),(10,.int .i64 (k:Nat)),(12,q.2),(47,.slice na d.next.length nc),(48,.int .i64 (d.next.length:Nat)),(49,.int .i64 (k:Nat)),(59,.agg (cw r).toArray),(60,.int .i64 (q.1:Nat))]) (fun q h'=>aD g3 h'/\cZ (Value.int .i64) h' g5.size 3 q.2 (c::(r.v.take q.1).map (cN live cls))/\q.1<=256/\g5.size<=h'.size) (fun q=>256-q.1) ((0,.slice (some ⟨g5.size,0,none⟩) 1 1)) rfl ⟨rfl,rfl,rfl,rfl,rfl,rfl,rfl,rfl,rfl,rfl,rfl,rfl,rfl,trivial⟩ ⟨e36,hl6,Nat.zero_le _,e56.size⟩ ?_;rintro⟨j,vl⟩ g7 ⟨e7,hl7,hj,hz7⟩ ih3
     try dsimp only
     dsimp only at hl7 hj;have eg7:=eg3.trans e7;have ho7:=cZ.ax ho3 e7;have hlen7:(c::(r.v.take j).map (cN live cls)).length=j+1:=by simp[r.len];omega
     refine aZ func57 1 [0,1,5,7,8,9,10,12,47,48,49,59,60,61] rfl ?_;refine av rfl ?_;refine aO rfl rfl (fun hlt3=>?_) (fun hlt3=>?_)
     · have hj2:j<256:=by omega
       obtain⟨t,ht⟩:∃t,r.v[j]? =some t:=⟨_,List.getElem?_eq_getElem (by rw[r.len];exact hj2)⟩
       have htm:=hok.to r (List.mem_of_getElem? hr) t (List.mem_of_getElem? ht);have htr:c::(r.v.take (j+1)).map (cN live cls)=(c::(r.v.take j).map (cN live cls))++[cN live cls t]:=by rw[List.take_add_one,ht];simp
       have hlo:aQ g7 g5.size 3 1 vl (c::(r.v.take j).map (cN live cls)).length ((c::(r.v.take j).map (cN live cls)).map (Value.int .i64)):=hl7;have hlo2:=hlo;rw[hlen7] at hlo2;obtain⟨wa,wc,rfl,_⟩:=hlo2.open;have hl8:cZ (Value.int .i64) g7 g5.size 3 (.slice wa (j+1) wc) (c::(r.v.take j).map (cN live cls)):=hl7
       have fin:∀v8 g8 x,aQ g8 g5.size 3 1 v8 (j+1+1) ((c::(r.v.take j).map (cN live cls)).map (Value.int .i64)++[.int .i64 x])->Ext (dB (Value.slice wa (j+1) wc).ownBlock) g7 g8->x=cN live cls t->aD g3 g8/\cZ (Value.int .i64) g8 g5.size 3 v8 (c::(r.v.take (j+1)).map (cN live cls))/\j+1<=256/\g5.size<=g8.size:=by
        rintro v8 g8 x ho hx rfl;refine⟨cZ.grown e7 hl8 hz5 hx,?_,hj2,Nat.le_trans hz7 hx.size⟩;rw[htr];exact cZ.of ho hlen7.symm rfl rfl
       refine aC rfl ?_;refine av rfl ?_;refine G.block rfl rfl ?_;refine xr func57 rfl ?_;refine xp rfl (aj.vG underlying153 H.cA H.de rfl rfl j rfl hj2 (show (cw r).toArray[j]? =some (Value.int .i64 t) by simp[cw,ht])) ?_;refine aS 1 [0,1,5,7,8,9,10,12,14,47,48,49,59,60,61] rfl ?_;refine bq func57 3 rfl ?_;refine aP (d:=65) rfl (fun hg=>?_) (fun hg=>?_)
       · have hg':=of_decide_eq_true hg;refine aS 6 [0,1,5,7,8,9,10,12,14,47,48,49,59,60,61,71] rfl ?_;refine aI rfl rfl (fun _=>?_) (fun hc=>absurd hc (by simp));refine G.cz func57 rfl ?_;refine bh 1 rfl ?_;refine xo rfl (aA.aX (us:=[_]) underlying127 H.rq rfl rfl (by decide) (by simp[Value.oneCell'])) ?_;rintro _ _ ⟨rfl,rfl⟩;refine xo rfl (aA.bS underlying127 H.rq rfl rfl (hlo2) rfl rfl (by first|decide|simp[Value.oneCell']) (by omega) (by decide) (by omega)) ?_;rintro v8 g8 ⟨ho8,hx8,hx8',hv8⟩;have ff:=fin v8 g8 (-2) ho8 hx8 (wq (.inl hg')).symm;obtain⟨v8a,v8c,rfl,_⟩:=ho8.open;refine aS 1 [0,1,5,7,8,9,10,12,14,47,48,49,59,60,61,71] rfl ?_;refine G.aR ?_;refine G.cz func57 rfl ?_;refine xp rfl (aj.bE rfl rfl ⟨by omega,by omega⟩) ?_;refine aS 1 [0,1,5,7,8,9,10,12,14,47,48,49,59,60,61,71] rfl ?_;exact ih3 (j+1,_) _ _ ⟨rfl,rfl,rfl,rfl,rfl,rfl,rfl,rfl,rfl,rfl,rfl,rfl,rfl,trivial⟩ ff (by show 256-(j+1)<256-j;omega)
       · have hg':=of_decide_eq_false hg;obtain⟨t2,rfl⟩:=Int.eq_ofNat_of_zero_le (show 0<=t by omega);obtain⟨bt,hbt⟩:∃bt,live[t2]? =some bt:=⟨_,List.getElem?_eq_getElem (by omega)⟩
         have hlt2:live.getD t2 false=bt:=by rw[List.getD_eq_getElem?_getD,hbt];rfl
         obtain⟨oa',n',c',hv',_,_,_,hgetv⟩:=id (hslV.mv (Mv.ax eg7));cases hv';obtain⟨b3,o3,cs3,ha3,_,hrow3,rfl⟩:=hgetv t2 bt hbt;refine cD 2 rfl rfl (aj.ay underlying157 H.mX rfl rfl t2 rfl ha3 (by omega)) ?_;refine xp rfl (ai H.wE rfl (hrow3 0 _ rfl)) ?_;refine aS 2 [0,1,5,7,8,9,10,12,14,47,48,49,59,60,61,71] rfl ?_;refine aI rfl rfl (fun hb=>?_) (fun hb=>?_)
         · have hb':bt=false:=by simpa using hb
           refine G.cz func57 rfl ?_;refine bh 1 rfl ?_;refine xo rfl (aA.aX (us:=[_]) underlying127 H.rq rfl rfl (by decide) (by simp[Value.oneCell'])) ?_;rintro _ _ ⟨rfl,rfl⟩;refine xo rfl (aA.bS underlying127 H.rq rfl rfl (hlo2) rfl rfl (by first|decide|simp[Value.oneCell']) (by omega) (by decide) (by omega)) ?_;rintro v8 g8 ⟨ho8,hx8,hx8',hv8⟩;have ff:=fin v8 g8 (-2) ho8 hx8 (wq (.inr (by show live.getD t2 false=false;rw[hlt2,hb']))).symm;obtain⟨v8a,v8c,rfl,_⟩:=ho8.open;refine aS 1 [0,1,5,7,8,9,10,12,14,47,48,49,59,60,61,71] rfl ?_;refine G.aR ?_;refine G.cz func57 rfl ?_;refine xp rfl (aj.bE rfl rfl ⟨by omega,by omega⟩) ?_;refine aS 1 [0,1,5,7,8,9,10,12,14,47,48,49,59,60,61,71] rfl ?_;exact ih3 (j+1,_) _ _ ⟨rfl,rfl,rfl,rfl,rfl,rfl,rfl,rfl,rfl,rfl,rfl,rfl,rfl,trivial⟩ ff (by show 256-(j+1)<256-j;omega)
         · have hb':bt=true:=by simpa using hb
           obtain⟨c2,hc2⟩:∃c2,cls[t2]? =some c2:=⟨_,List.getElem?_eq_getElem (by omega)⟩
           have hgd2:cls.getD t2 0=c2:=by rw[List.getD_eq_getElem?_getD,hc2];rfl
           obtain⟨gg2,c42,hv42,hgb2,hglt2,hcell2,hfz2,hset2⟩:=ho7.at hc2;rw[hcl] at hv42;have hla2:la=some ⟨gg2,0,none⟩:=by cases hv42;rfl
           refine G.cz func57 rfl ?_;refine cD 3 rfl rfl (aj.ay underlying127 H.cA rfl rfl t2 rfl hla2 (by omega)) ?_;refine xp rfl (ai H.de rfl hcell2) ?_;refine xo rfl (aA.aX (us:=[_]) underlying127 H.rq rfl rfl (by decide) (by simp[Value.oneCell'])) ?_;rintro _ _ ⟨rfl,rfl⟩;refine xo rfl (aA.bS underlying127 H.rq rfl rfl (hlo2) rfl rfl (by first|decide|simp[Value.oneCell']) (by omega) (by decide) (by omega)) ?_;rintro v8 g8 ⟨ho8,hx8,hx8',hv8⟩
           have ff:=fin v8 g8 c2 ho8 hx8 (by
            rw[Dh (by
             rintro(e|e)
             · exact hg' e
             · rw[Int.toNat_natCast,hlt2,hb'] at e;cases e),Int.toNat_natCast,hgd2])
           obtain⟨v8a,v8c,rfl,_⟩:=ho8.open;refine aS 1 [0,1,5,7,8,9,10,12,14,47,48,49,59,60,61,71] rfl ?_;refine G.aR ?_;refine G.cz func57 rfl ?_;refine xp rfl (aj.bE rfl rfl ⟨by omega,by omega⟩) ?_;refine aS 1 [0,1,5,7,8,9,10,12,14,47,48,49,59,60,61,71] rfl ?_;exact ih3 (j+1,_) _ _ ⟨rfl,rfl,rfl,rfl,rfl,rfl,rfl,rfl,rfl,rfl,rfl,rfl,rfl,trivial⟩ ff (by show 256-(j+1)<256-j;omega)
     · obtain rfl:j=256:=by omega
       have hkey:c::(r.v.take 256).map (cN live cls)=fR d live cls k:=by unfold fR;rw[hgd,hrow,List.take_of_length_le (by rw[r.len];exact Nat.le_refl _)]
       have hkb:=yX (d:=d) (live:=live) hcb k;have hkl:(fR d live cls k).length<=1000000:=by rw[<-hkey,hlen7];decide
       rw[hkey] at hl7;generalize hkk:fR d live cls k=key at *;refine bA rfl rfl ?_;refine bq func57 1 rfl ?_;refine xo rfl (aq (vs:=[_]) func52 rfl H.Iz rfl (ah.bw (sn (O:=fun _=>False) (htens.ax eg7) (cZ.read (h1:=fun _=>rfl) hl7 (fun _ _ k=>k)) hkl hkb))) ?_;rintro _ g8 ⟨rfl,e8⟩;have e38:aD g3 g8:=e7.trans e8;have eg8:aD g g8:=e3.trans e38;have mp8:=hmp.ext e38 (fun k=>k);have haf8:=cZ.ax haf e38
       have hk0:(after++List.replicate (d.next.length-k) (0:Int))[k]? =some 0:=by
        rw[List.getElem?_append_right (by omega),List.getElem?_replicate,if_pos (by omega)]
       have hl0:(after++List.replicate (d.next.length-k) (0:Int)).length=d.next.length:=by simp;omega
       have hsetA:∀y:Int,(after++List.replicate (d.next.length-k) (0:Int)).set k y=(after++[y])++List.replicate (d.next.length-(k+1)) 0:=fun y=>by
        rw[List.set_append_right _ _ (by omega),hal,Nat.sub_self,show d.next.length-k=(d.next.length-(k+1))+1 by omega,List.replicate_succ,List.set_cons_zero];simp
       have hz12:=e1'.size
       have fin2:∀(gA gB:az) (seen':List (List Int)) (y:Int),aD g gA->gi Value.string (Value.int .i64) gA g.size (iC 0 seen')->cZ (Value.int .i64) gB g1.size 3 (.slice (some ⟨g1.size,0,none⟩) d.next.length d.next.length) ((after++List.replicate (d.next.length-k) (0:Int)).set k y)->gB=eJ gA ⟨g1.size,0+k*1,none⟩ (.int .i64 y)->bI d live cls m (k+1) seen' (after++[y])=ps->seen'.length<=k+1->aD g gB/\gi Value.string (Value.int .i64) gB g.size (iC 0 seen')/\cZ (Value.int .i64) gB g1.size 3 (.slice (some ⟨g1.size,0,none⟩) d.next.length d.next.length) ((after++[y])++List.replicate (d.next.length-(k+1)) 0)/\(k+1<=d.next.length/\(after++[y]).length=k+1/\seen'.length<=k+1)/\bI d live cls (d.next.length-(k+1)) (k+1) seen' (after++[y])=ps:=by
        rintro gA gB seen' y eA mA hB hgB hcp hsl';have xB:Ext (fun b=>b=g1.size) gA gB:=by rw[hgB];exact Ext.eJ _ _ _ rfl
        refine⟨aD.only eA xB hz12,mA.ext xB (by show ¬_=_;omega),?_,⟨hkN,by simp[hal],hsl'⟩,?_⟩
        · rw[<-hsetA];exact hB
        · rw[show d.next.length-(k+1)=m by omega];exact hcp
       refine aS 1 [0,1,5,7,8,9,10,12,15,47,48,49,59,60,61] rfl ?_;refine av rfl ?_;refine bq func57 2 rfl ?_;refine xp rfl (aj.vi (z:=.int .i64 0) jY underlying151 underlying9 (by kernel_rfl) rfl rfl rfl mp8) ?_;rw[lI]
       rcases hfind:kE 0 seen key with _|i0
       · rw[hfind] at hcon2;simp only at hcon2;have hnone:lQ (bs (gW key)) (iC 0 seen)=none:=by rw[lI,hfind];rfl
         refine aS 5 [0,1,5,7,8,9,10,12,15,17,47,48,49,59,60,61] rfl ?_;refine aZ func57 2 [0,1,5,7,8,9,10,12,15,17,47,48,49,59,60,61,92] rfl ?_;refine aI rfl rfl (fun _=>?_) (fun hc=>absurd hc (by simp));refine G.cz func57 rfl ?_;refine cD 3 rfl rfl (aj.CV underlying151 rfl (mp8)) ?_;refine RW.cu rfl rfl rfl (aA.mapUpdate (v:=((iC 0 seen).length:Int)) jY underlying151 underlying9 rfl rfl rfl rfl rfl mp8 hnone) ?_;rintro _ g9 ⟨rfl,mp9,x9,z9⟩;have mp9:gi Value.string (Value.int .i64) g9 g.size (iC 0 (seen++[key])):=by rw[uN,Nat.zero_add,<-rV seen 0];exact mp9
         have hsz8:=eg8.size;have e9:aD g g9:=aD.only eg8 x9 (Nat.le_refl _);have haf9:cZ (Value.int .i64) g9 g1.size 3 (.slice (some ⟨g1.size,0,none⟩) d.next.length d.next.length) (after++List.replicate (d.next.length-k) (0:Int)):=aQ.ext x9 haf8 (fun b hb (e:b=g.size)=>by have:=(aQ.lt haf8 hb).1;omega);obtain⟨gg3,c3,hv3,_,_,hcell3,hfz3,hset3⟩:=haf9.at hk0;rw[hl0] at hv3;cases hv3;have hasc:lQ (bs (gW key)) (iC 0 (seen++[key]))=some ((seen.length:Nat):Int):=by rw[lI,vO seen 0 key hfind,Nat.zero_add];rfl
         refine xd [0,1,5,7,8,9,10,12,15,17,47,48,49,59,60,61,92] rfl ?_;refine G.cz func57 rfl ?_;refine cD 4 rfl rfl (aj.lookup (z:=.int .i64 0) jY underlying151 underlying9 (by kernel_rfl) rfl rfl rfl mp9) ?_;rw[hasc,Option.map_some,Option.getD_some];refine xp rfl (aj.ay underlying127 H.cA rfl rfl k rfl rfl (by omega)) ?_;refine RW.cu rfl rfl rfl (cL H.cA rfl rfl rfl hcell3 hfz3) ?_;rintro _ g10 ⟨rfl,hg10⟩;have hg10:g10=eJ g9 ⟨g1.size,0+k*1,none⟩ (.int .i64 ((seen.length:Nat):Int)):=hg10;have hB:=hset3 ((seen.length:Nat):Int);rw[<-hg10] at hB;refine xd [0,1,5,7,8,9,10,12,15,17,47,48,49,59,60,61,92] rfl ?_;refine G.aR ?_;refine G.cz func57 rfl ?_;refine xp rfl (aj.bE rfl rfl ⟨by omega,by omega⟩) ?_;refine aS 1 [0,1,5,7,8,9,10,12,15,17,47,48,49,59,60,61,92] rfl ?_;exact ih2 (k+1,seen++[key],after++[((seen.length:Nat):Int)]) _ _ ⟨rfl,rfl,rfl,rfl,rfl,rfl,rfl,rfl,rfl,trivial⟩ (fin2 g9 g10 _ _ e9 mp9 hB hg10 hcon2 (by simp;omega)) (by show d.next.length-(k+1)<d.next.length-k;omega)
       · rw[hfind] at hcon2;simp only at hcon2;refine aS 5 [0,1,5,7,8,9,10,12,15,17,47,48,49,59,60,61] rfl ?_;refine aZ func57 2 [0,1,5,7,8,9,10,12,15,17,47,48,49,59,60,61,92] rfl ?_;refine aI rfl rfl (fun hc=>absurd hc (by simp)) (fun _=>?_);obtain⟨gg3,c3,hv3,_,_,hcell3,hfz3,hset3⟩:=haf8.at hk0;rw[hl0] at hv3;cases hv3;have hasc:lQ (bs (gW key)) (iC 0 seen)=some ((i0:Nat):Int):=by rw[lI,hfind];rfl
         refine aC rfl ?_;refine G.cz func57 rfl ?_;refine cD 4 rfl rfl (aj.lookup (z:=.int .i64 0) jY underlying151 underlying9 (by kernel_rfl) rfl rfl rfl mp8) ?_;rw[hasc,Option.map_some,Option.getD_some];refine xp rfl (aj.ay underlying127 H.cA rfl rfl k rfl rfl (by omega)) ?_;refine RW.cu rfl rfl rfl (cL H.cA rfl rfl rfl hcell3 hfz3) ?_;rintro _ g10 ⟨rfl,hg10⟩;have hg10:g10=eJ g8 ⟨g1.size,0+k*1,none⟩ (.int .i64 ((i0:Nat):Int)):=hg10;have hB:=hset3 ((i0:Nat):Int);rw[<-hg10] at hB;refine xd [0,1,5,7,8,9,10,12,15,17,47,48,49,59,60,61,92] rfl ?_;refine G.aR ?_;refine G.cz func57 rfl ?_;refine xp rfl (aj.bE rfl rfl ⟨by omega,by omega⟩) ?_;refine aS 1 [0,1,5,7,8,9,10,12,15,17,47,48,49,59,60,61,92] rfl ?_;exact ih2 (k+1,seen,after++[((i0:Nat):Int)]) _ _ ⟨rfl,rfl,rfl,rfl,rfl,rfl,rfl,rfl,rfl,trivial⟩ (fin2 g8 g10 _ _ eg8 mp8 hB hg10 hcon2 (Nat.le_succ_of_le hsl)) (by show d.next.length-(k+1)<d.next.length-k;omega)
   · obtain rfl:k=d.next.length:=by omega
     rw[Nat.sub_self,List.replicate_zero,List.append_nil] at haf;rw[Nat.sub_self,bI] at hcon2;subst hcon2;dsimp only at hcon hmore hend;have hm:=hend.size;have hsl':(iC 0 seen).length=seen.length:=rV seen 0
     have ha':cZ (Value.int .i64) g3 h.size 3 (.slice (some ⟨g1.size,0,none⟩) d.next.length d.next.length) after:=Ds (show aQ g3 g1.size 3 1 _ after.length (after.map (Value.int .i64)) from haf) (fun b hb=>by
      cases hb;have:=eg.size;have:=e1'.size
      show h.size<=g1.size
      omega)
     refine bA rfl rfl ?_;refine aZ func57 2 [0,1,5,7,8,9,47,48,49,50] rfl ?_;refine av rfl ?_;refine bq func57 1 rfl ?_;refine xp rfl (aj.CV underlying151 rfl (hmp)) ?_;rw[hsl'];refine aS 2 [0,1,5,7,8,9,47,48,49,50,108] rfl ?_;refine aO rfl rfl (fun heq=>?_) (fun heq=>?_)
     · rw[if_pos (by omega)] at hcon;refine aZ func57 2 [0,1,4,5,7,8,9,47,48,49,50,108] rfl ?_;refine G.ret func57 rfl rfl ?_;exact⟨_,rfl,by rw[<-hcon];exact ha',eg3⟩
     · rw[if_neg (by omega)] at hcon;refine aC rfl ?_;refine G.cz func57 rfl ?_;refine cD 1 rfl rfl (aj.CV underlying151 rfl (hmp)) ?_;rw[hsl'];refine aS 1 [0,1,5,7,8,9,47,48,49,50,108] rfl ?_;refine G.aR ?_;exact ih (n,seen.length,_,after) _ _ ⟨rfl,rfl,rfl,rfl,trivial⟩ ⟨eg3,ha',hal,fun x hx=>by have:=hend.bound x hx;omega,⟨by show seen.length<=_;omega,hend.nums,by show _<=n+seen.length;omega⟩,hcon⟩ (by show n<n+1;omega)
end
end Go.Proofs.YtmehdcdbeafljaaGreatDoor
namespace Go.Proofs.YtmehdcdbeafljaaGreatDoor
open Go
section
variable {of:List Nat}
def o8 (cls:List Int):Nat->List Nat->Int->Option Nat
 |_,[],_=>none
 |i,x::r,c=>if c=cls.getD x 0 then some i else o8 cls (i+1) r c
theorem vQ {cls:List Int}:∀(of:List Nat) (i j:Nat) (c:Int),o8 cls i of c=some j->i<=j/\∃x,of[j-i]? =some x/\c=cls.getD x 0
 | [],i,j,c,h=>by cases h
 |x::r,i,j,c,h=>by
  rw[o8] at h;split at h
  · rename_i e;cases h;exact⟨Nat.le_refl _,x,by simp,e⟩
  · obtain⟨h1,y,h2,h3⟩:=vQ r (i+1) j c h;refine⟨by omega,y,?_,h3⟩;rw[show j-i=(j-(i+1))+1 by omega,List.getElem?_cons_succ];exact h2
theorem qg {cls:List Int}:∀(of:List Nat) (i:Nat) (c:Int),o8 cls i of c=none->∀x∈of,c≠cls.getD x 0
 | [],i,c,h,x,hx=>by cases hx
 |y::r,i,c,h,x,hx=>by
  rw[o8] at h;split at h
  · cases h
  · rename_i hn
    rcases List.mem_cons.1 hx with e|e
    · subst e;exact hn
    · exact qg r (i+1) c h x e
def dF (live:List Bool) (cls:List Int) (of:List Nat) (t:Int):List Nat×Int :=
 if t<0\/live.getD t.toNat false=false then (of,-1) else
  match o8 cls 0 of (cls.getD t.toNat 0) with
  |some i=>(of,(i:Int))
  |none=>(of++[t.toNat],(of.length:Int))
def gp (live:List Bool) (cls:List Int):List Int->List Nat->List Int->List Nat×List Int
 | [],of,row=>(of,row)
 |t::r,of,row=>gp live cls r (dF live cls of t).1 (row++[(dF live cls of t).2])
def Bt (d:cv) (live:List Bool) (cls:List Int):Nat->Nat->List Nat->List Row->List Int->cv
 | 0,_,_,next,rule=>⟨next,rule⟩
 |n+1,i,of,next,rule =>
  match of[i]? with
  |none=>⟨next,rule⟩
  |some k=>Bt d live cls n (i+1) (gp live cls (d.row k) of []).1 (next++[kC (gp live cls (d.row k) of []).2]) (rule++[d.ru k])
def mo (d:cv):cv:=if d.next.length=0 then ⟨[],[]⟩ else Bt d (bK d) (eG d (bK d)) (d.next.length+1) 0 [0] [] []
structure Cc (n:Nat) (of:List Nat):Prop where
 once:of.Nodup
 lt:∀x∈of,x<n
theorem Bj:∀(n:Nat) (l:List Nat),l.Nodup->(∀x∈l,x<n)->l.length<=n
 | 0,[],_,_=>Nat.le_refl _
 | 0,x::l,_,h=>absurd (h x (by simp)) (Nat.not_lt_zero _)
 |n+1,l,hl,h=>by
  have h1:=Bj n (l.erase n) (hl.erase n) (fun x hx=>by
   have:=(hl.mem_erase_iff).1 hx;have:=h x this.2;omega)
  by_cases hn:n∈l
  · have:=List.length_erase_of_mem hn;omega
  · rw[List.erase_of_not_mem hn] at h1;omega
theorem Cc.len {n:Nat}(k:Cc n of):of.length<=n:=Bj n of k.once k.lt
theorem ve {live:List Bool}{cls:List Int}{n:Nat}{t:Int}(k:Cc n of) (ht:t<n):Cc n (dF live cls of t).1:=by
 unfold dF;split
 · exact k
 · rename_i hn;split
   · exact k
   · rename_i hf;have hne:=qg of 0 _ hf;refine⟨List.nodup_append.2 ⟨k.once,by simp,fun a ha b hb e=>?_⟩,fun x hx=>?_⟩
     · have:b=t.toNat:=by simpa using hb
       subst e;subst this;exact hne _ ha rfl
     · rcases List.mem_append.1 hx with e|e
       · exact k.lt x e
       · have:x=t.toNat:=by simpa using e
         omega
theorem CP {live:List Bool}{cls:List Int}{t:Int}:of.length<=(dF live cls of t).1.length/\∀(i x:Nat),of[i]? =some x->(dF live cls of t).1[i]? =some x:=by
 unfold dF;split
 · exact⟨Nat.le_refl _,fun _ _ h=>h⟩
 · split
   · exact⟨Nat.le_refl _,fun _ _ h=>h⟩
   · exact⟨by simp,fun i x h=>by rw[List.getElem?_append_left (List.getElem?_eq_some_iff.1 h).1];exact h⟩
end
end Go.Proofs.YtmehdcdbeafljaaGreatDoor
namespace Go.Proofs.YtmehdcdbeafljaaGreatDoor
open Go.Proofs.Tryz
open Go Go.Lw
set_option maxRecDepth 20000
section
variable {v3:Value}{n:Nat}
def kY (cls:List Int):Nat->List Nat->List (Int×Int)
 |_,[]=>[]
 |i,x::r=>(cls.getD x 0,(i:Int))::kY cls (i+1) r
theorem uO (cls:List Int):∀(ls:List Nat) (i:Nat) (l:Nat),kY cls i (ls++[l])=kY cls i ls++[(cls.getD l 0,((i+ls.length:Nat):Int))]
 | [],i,l=>by simp[kY]
 |x::r,i,l=>by
  simp only[List.cons_append,kY];rw[uO cls r (i+1) l,List.length_cons,show i+1+r.length=i+(r.length+1) by omega]
theorem sB (cls:List Int):∀(ls:List Nat) (i:Nat) (c:Int),lQ c (kY cls i ls)=(o8 cls i ls c).map fun j=>(j:Int)
 | [],i,c=>rfl
 |x::r,i,c=>by
  rw[kY,lQ,o8]
  by_cases h:c=cls.getD x 0
  · rw[if_pos h,if_pos h];rfl
  · rw[if_neg h,if_neg h];exact sB cls r (i+1) c
structure eZ (h0 h:az) (cls:List Int) (db mb:Nat) (vo vn vr:Value) (of:List Nat) (next:List Row) (rule:List Int):Prop where
 ext:aD h0 h
 dblk:bp h db 149 [vn,vr]
 nx:lR 256 cw h h0.size 153 vn next
 ru:cZ (Value.int .i64) h h0.size 3 vr rule
 ol:cZ eS h h0.size 3 vo of
 mp:gi (Value.int .i64) (Value.int .i64) h mb (kY cls 0 of)
 ne:∀b,vo.ownBlock=some b->vr.ownBlock≠some b
 dge:h0.size<=db
 mge:h0.size<=mb
section
variable {h0 h:az}{cls:List Int}{db mb:Nat}{vo vn vr:Value}{of:List Nat}{next:List Row}{rule:List Int}
theorem eZ.EX (k:eZ h0 h cls db mb vo vn vr of next rule):∀b,vn.ownBlock=some b->dP h b 153:=fun _ hb=>aQ.ty k.nx hb
theorem eZ.DL (k:eZ h0 h cls db mb vo vn vr of next rule):∀b,vr.ownBlock=some b->dP h b 3:=fun _ hb=>aQ.ty k.ru hb
theorem eZ.Lj (k:eZ h0 h cls db mb vo vn vr of next rule):∀b,vo.ownBlock=some b->dP h b 3:=fun _ hb=>aQ.ty k.ol hb
theorem eZ.ax {h':az}(k:eZ h0 h cls db mb vo vn vr of next rule) (e:aD h h'):eZ h0 h' cls db mb vo vn vr of next rule :=
 ⟨k.ext.trans e,k.dblk.ax e,lR.ax k.nx e,cZ.ax k.ru e,cZ.ax k.ol e,k.mp.ext e (fun k=>k),k.ne,k.dge,k.mge⟩
theorem eZ.put {h':az}{x:Nat}(k:eZ h0 h cls db mb vo vn vr of next rule) (e:Ext (fun b=>b=x) h h') (hx:dP h x 153) (hn:vn.ownBlock≠some x) (hge:h0.size<=x):eZ h0 h' cls db mb vo vn vr of next rule:=by
 have hd:¬db=x:=k.dblk.ty.ne hx (by decide);have hm:¬mb=x:=k.mp.ne hx;exact⟨aD.only k.ext e hge,k.dblk.ext e hd,aQ.ext e k.nx (fun b hb hbx=>hn (by subst hbx;exact hb)),aQ.ext e k.ru (fun b hb=>(k.DL b hb).ne hx (by decide)),aQ.ext e k.ol (fun b hb=>(k.Lj b hb).ne hx (by decide)),k.mp.ext e hm,k.ne,k.dge,k.mge⟩
theorem eZ.Kh {g3 g4:az}{r:Row}(k:eZ h0 h cls db mb vo vn vr of next rule) (hn:n=next.length) (ho:aQ g3 h0.size 153 256 v3 (n+1) (next.flatMap cw++cw r)) (hx:Ext (dB vn.ownBlock) h g3) (hd:bp g4 db 149 [v3,vr]) (x4:Ext (fun b=>b=db) g3 g4) :
 eZ h0 g4 cls db mb vo v3 vr of (next++[r]) rule:=by
 have nne:∀{b:Nat}{t:TypeId},dP h b t->153≠t->¬dB vn.ownBlock b:=fun kt ht e=>(k.EX _ e.symm).ne kt ht rfl
 have d3:=k.dblk.ext hx (nne k.dblk.ty (by decide));have dne:∀{b:Nat}{t:TypeId},dP g3 b t->149≠t->¬b=db:=fun kt ht e=>by subst e;exact d3.ty.ne kt ht rfl
 have mne:¬dB vn.ownBlock mb:=fun e=>k.mp.ne (k.EX _ e.symm) rfl
 have hm3:=k.mp.ext hx mne;have ru3:=aQ.ext hx k.ru (fun b hb=>nne (k.DL b hb) (by decide));have of3:=aQ.ext hx k.ol (fun b hb=>nne (k.Lj b hb) (by decide));refine⟨⟨by have:=k.ext.size;have:=hx.size;have:=x4.size;omega,fun b hb kk=>?_⟩,hd,?_,aQ.ext x4 ru3 (fun b hb=>dne (aQ.ty ru3 hb) (by decide)),aQ.ext x4 of3 (fun b hb=>dne (aQ.ty of3 hb) (by decide)),hm3.ext x4 (hm3.ne d3.ty),k.ne,k.dge,k.mge⟩
 · rw[x4.block b (by have:=k.ext.size;have:=hx.size;omega) (by have:=k.dge;omega),hx.block b (by have:=k.ext.size;omega) (fun e=>by have:=(aQ.lt k.nx e.symm).1;omega)];exact k.ext.block b hb kk
 · exact aQ.ext x4 (lR.of ho hn rfl) (fun b hb=>dne (aQ.ty ho hb) (by decide))
theorem eZ.Kg {g3 g4:az}{x:Int}(k:eZ h0 h cls db mb vo vn vr of next rule) (hn:n=rule.length) (ho:aQ g3 h0.size 3 1 v3 (n+1) (rule.map (Value.int .i64)++[.int .i64 x])) (hx:Ext (dB vr.ownBlock) h g3) (hv:∀b,v3.ownBlock=some b->vr.ownBlock=some b\/h.size<=b) (hd:bp g4 db 149 [vn,v3]) (x4:Ext (fun b=>b=db) g3 g4) :
 eZ h0 g4 cls db mb vo vn v3 of next (rule++[x]):=by
 have nne:∀{b:Nat}{t:TypeId},dP h b t->3≠t->¬dB vr.ownBlock b:=fun kt ht e=>(k.DL _ e.symm).ne kt ht rfl
 have d3:=k.dblk.ext hx (nne k.dblk.ty (by decide));have dne:∀{b:Nat}{t:TypeId},dP g3 b t->149≠t->¬b=db:=fun kt ht e=>by subst e;exact d3.ty.ne kt ht rfl
 have mne:¬dB vr.ownBlock mb:=fun e=>k.mp.ne (k.DL _ e.symm) rfl
 have hm3:=k.mp.ext hx mne;have nx3:=aQ.ext hx k.nx (fun b hb=>nne (k.EX b hb) (by decide));have of3:=aQ.ext hx k.ol (fun b hb e=>k.ne b hb e.symm);refine⟨⟨by have:=k.ext.size;have:=hx.size;have:=x4.size;omega,fun b hb kk=>?_⟩,hd,aQ.ext x4 nx3 (fun b hb=>dne (aQ.ty nx3 hb) (by decide)),?_,aQ.ext x4 of3 (fun b hb=>dne (aQ.ty of3 hb) (by decide)),hm3.ext x4 (hm3.ne d3.ty),fun b hb e=>?_,k.dge,k.mge⟩
 · rw[x4.block b (by have:=k.ext.size;have:=hx.size;omega) (by have:=k.dge;omega),hx.block b (by have:=k.ext.size;omega) (fun e=>by have:=(aQ.lt k.ru e.symm).1;omega)];exact k.ext.block b hb kk
 · exact aQ.ext x4 (cZ.of (ys:=[x]) ho hn rfl rfl) (fun b hb=>dne (aQ.ty ho hb) (by decide))
 · rcases hv b e with e|e
   · exact k.ne b hb e
   · have:=(k.Lj b hb).lt;omega
theorem eZ.more {g1 g2:az}{t:Nat}(k:eZ h0 h cls db mb vo vn vr of next rule) (x1:Ext (fun b=>b=mb) h g1) (hm:gi (Value.int .i64) (Value.int .i64) g1 mb (kY cls 0 (of++[t]))) (hn:n=of.length) (ho:aQ g2 h0.size 3 1 v3 (n+1) (of.map eS++[eS t])) (hx:Ext (dB vo.ownBlock) g1 g2) (hv:∀b,v3.ownBlock=some b->vo.ownBlock=some b\/g1.size<=b) :
 eZ h0 g2 cls db mb v3 vn vr (of++[t]) next rule:=by
 have mne:∀{b:Nat}{t:TypeId},dP h b t->¬b=mb:=fun kt e=>k.mp.ne kt e.symm
 have d1:=k.dblk.ext x1 (mne k.dblk.ty);have nx1:=aQ.ext x1 k.nx (fun b hb=>mne (k.EX b hb));have ru1:=aQ.ext x1 k.ru (fun b hb=>mne (k.DL b hb));have of1:=aQ.ext x1 k.ol (fun b hb=>mne (k.Lj b hb));have one:∀{b:Nat}{t:TypeId},dP g1 b t->3≠t->¬dB vo.ownBlock b:=fun kt ht e=>(show dP g1 _ 3 from aQ.ty of1 e.symm).ne kt ht rfl
 refine⟨⟨by have:=k.ext.size;have:=hx.size;have:=x1.size;omega,fun b hb kk=>?_⟩,d1.ext hx (one d1.ty (by decide)),aQ.ext hx nx1 (fun b hb=>one (aQ.ty nx1 hb) (by decide)),aQ.ext hx ru1 (fun b hb e=>k.ne b e.symm hb),cZ.of (ys:=[t]) ho hn rfl rfl,hm.ext hx (fun e=>hm.ne (aQ.ty of1 e.symm) rfl),fun b hb e=>?_,k.dge,k.mge⟩
 · rw[hx.block b (by have:=k.ext.size;have:=x1.size;omega) (fun e=>by have:=(aQ.lt k.ol e.symm).1;omega),x1.block b (by have:=k.ext.size;omega) (by have:=k.mge;omega)];exact k.ext.block b hb kk
 · rcases hv b hb with e'|e'
   · exact k.ne b e' e
   · have:=(show dP g1 _ 3 from aQ.ty ru1 e).lt;omega
end
theorem yl (d:cv):∀(n:Nat) (out:List Bool),(qU d n out).length=out.length
 | 0,_=>rfl
 |n+1,out=>by
  rw[qU];split
  · rw[yl d n,ij]
  · rw[ij]
theorem E4 (d:cv):(bK d).length=d.next.length:=by rw[bK,yl];simp
theorem wj (d:cv) (live:List Bool):∀(n many:Nat) (cls:List Int),cls.length=d.next.length->(kN d live n many cls).length=d.next.length
 | 0,_,_,h=>h
 |n+1,many,cls,h=>by
  rw[kN];split
  · exact(fC d live cls).len
  · exact wj d live n _ _ (fC d live cls).len
theorem Db (d:cv) (live:List Bool) (h:d.rule.length=d.next.length):(eG d live).length=d.next.length:=wj d live _ _ _ h
def n8 (h:az) (O:Nat->Prop) (db:Nat) (d:cv):Prop :=
 ∃vn vr,¬O db/\bp h db 149 [vn,vr]/\bX Ea h O vn d.next/\bX (.int .i64) h O vr d.rule
theorem n8.mv {h h':az}{O O':Nat->Prop}{db:Nat}{d:cv}(k:n8 h O db d) (m:Mv O O' h h'):n8 h' O' db d:=by
 obtain⟨vn,vr,ho,hk,h1,h2⟩:=k;have hm:=m.block db hk.lt ho;exact⟨vn,vr,hm.2,hm.1.trans hk,h1.mv m,h2.mv m⟩
theorem n8.rd {h:az}{O:Nat->Prop}{db:Nat}{d:cv}(k:n8 h O db d):pH h db d:=by
 obtain⟨vn,vr,ho,hk,h1,h2⟩:=k;exact⟨vn,vr,hk,rI h1 (fun _ k=>k.elim),rI h2 (fun _ k=>k.elim)⟩
theorem HB {h:az}{db:Nat}{d:cv}(htens:ud h) (k:pH h db d) (hok:d.Ok) (hd0:0<d.next.length) :
 ah Tryz.prog 30 #[.pointer (some ⟨db,0,none⟩)] h (dh fun r h'=>(∃b,r= .pointer (some ⟨b,0,none⟩)/\n8 h' (fun g=>g<h.size) b (mo d))/\aD h h'):=by
 have hlen:=hok.len;have hsize:=hok.size;generalize hres:mo d=res;refine ah.of func30 rfl rfl ?_;refine aZ func30 1 [0,2] rfl ?_;refine av rfl ?_;refine bq func30 1 rfl ?_;refine xo rfl (aq (vs:=[_]) func55 rfl H.Lz rfl (ah.bw (BQ k))) ?_;rintro _ h0 ⟨rfl,hh0⟩;subst hh0;refine xd [0,2,15] rfl ?_;refine aO rfl rfl (fun hz=>?_) (fun hz=>?_)
 · refine aZ func30 1 [0,2,15] rfl ?_;refine G.ret func30 rfl rfl ?_;exfalso;omega
 · rw[mo,if_neg hz] at hres;have hll:=E4 d;have hcl:=Db d (bK d) hlen;refine aC rfl ?_;refine bq func30 1 rfl ?_;refine xo rfl (aq (vs:=[_]) func56 rfl H.Nj rfl (ah.bw (CS k hok))) ?_;rintro w3 h1 ⟨ho1,e1⟩;generalize bK d=live at *;obtain⟨la,lc,rfl,_⟩:=(show aQ h1 h0.size 4 1 w3 live.length (live.map Value.bool) from ho1).open;refine aS 1 [0,2,3,15] rfl ?_;refine bq func30 2 rfl ?_;refine xo rfl (aq (vs:=[_,_]) func57 rfl H.Ni rfl (ah.bw (xA (htens.ax e1) (k.ax e1) hok (cZ.read (O:=fun _=>False) (h1:=fun _=>rfl) ho1 (fun _ _ k=>k)) hll))) ?_;rintro w4 h2 ⟨ho2,e2⟩;generalize eG d live=cls at *;obtain⟨ca,cc,rfl,_⟩:=(show aQ h2 h1.size 3 1 w4 cls.length (cls.map (Value.int .i64)) from ho2).open;have ho1:=cZ.ax ho1 e2;have k2:=(k.ax e1).ax e2;have hsV:bX .bool h2 (fun _=>False) (.slice la live.length lc) live:=cZ.read (h1:=fun _=>rfl) ho1 (fun _ _ k=>k);have hsC:bX (.int .i64) h2 (fun _=>False) (.slice ca cls.length cc) cls:=cZ.read (h1:=fun _=>rfl) ho2 (fun _ _ k=>k);rw[hll] at hsV;rw[hcl] at hsC;rw[hll,hcl];obtain⟨c0,hc0⟩:∃c0,cls[0]? =some c0:=⟨_,List.getElem?_eq_getElem (by omega)⟩
   have hcd0:cls.getD 0 0=c0:=by rw[List.getD_eq_getElem?_getD,hc0];rfl
   refine aS 1 [0,2,3,4,15] rfl ?_;refine xr func30 rfl ?_;refine xp rfl (aN (H.HK ) rfl) ?_;refine xo rfl (aA.gP rfl) ?_;rintro _ h3 ⟨rfl,kd3,e3,z3⟩;refine aS 1 [0,2,3,4,5,15] rfl ?_;refine xr func30 rfl ?_;refine xo rfl (oe (ek:=Value.int .i64) (ev:=Value.int .i64)) ?_;rintro _ h4 ⟨rfl,hm4,e4,z4⟩;have kd3:bp h3 h2.size 149 [.slice none 0 0,.slice none 0 0]:=kd3;have e34:=e3.trans e4;obtain⟨oa',n',c',hv',_,_,_,hgetc⟩:=id (hsC.mv (Mv.ax e34));cases hv';obtain⟨b3,o3,cs3,ha3,_,hrow3,rfl⟩:=hgetc 0 c0 hc0;refine cD 1 rfl rfl (aj.ay underlying127 H.cA rfl rfl 0 rfl ha3 (by omega)) ?_;refine xp rfl (ai H.de rfl (hrow3 0 _ rfl)) ?_;refine RW.cu rfl rfl rfl (wP (v:=(0:Int)) (jZ.int .i64) underlying160 underlying3 rfl rfl rfl rfl rfl hm4 (rfl:lQ c0 []=none)) ?_;rintro _ h5 ⟨rfl,hm5,x5,z5⟩;have hm5:gi (Value.int .i64) (Value.int .i64) h5 h3.size (kY cls 0 [0]):=by rw[kY,hcd0];exact hm5
   have hz3:=e3.size;have e25:aD h2 h5:=aD.only e34 x5 hz3;have kd5:bp h5 h2.size 149 [.slice none 0 0,.slice none 0 0]:=(kd3.ax e4).ext x5 (by show ¬_=_;omega);refine aS 2 [0,2,3,4,5,6,15] rfl ?_;refine xr func30 rfl ?_;refine xo rfl (aA.aX (us:=[_]) underlying127 H.rq rfl rfl (by decide) (by simp[Value.oneCell'])) ?_;rintro _ _ ⟨rfl,rfl⟩;refine aS 1 [0,2,3,4,5,6,7,15] rfl ?_;refine av rfl ?_;refine aZ func30 1 [0,2,3,4,5,6,7,8,15] rfl ?_;refine G.block rfl rfl ?_;have e56:aD h5 (h5.push (.cells #[.int .i64 0] 3)):=Ext.push _ _ _;have ol6:cZ eS (h5.push (.cells #[.int .i64 0] 3)) h2.size 3 (.slice (some ⟨h5.size,0,none⟩) 1 1) [0]:=lN eS h5 3 [0] 1 rfl (by decide) h2.size e25.size rfl;generalize h5.push (.cells #[.int .i64 0] 3)=h6 at *
   have mk6:eZ h2 h6 cls h2.size h3.size (.slice (some ⟨h5.size,0,none⟩) 1 1) (.slice none 0 0) (.slice none 0 0) [0] [] [] :=
    ⟨e25.trans e56,kd5.ax e56,lR.nil _ _ _ _ _,cZ.nil _ _ _ _,ol6,hm5.ext e56 (fun k=>k),fun b _ hb=>(by cases hb),Nat.le_refl _,hz3⟩
   refine bG (σ:=Nat×Value) (fun q=>[(0,.pointer (some ⟨db,0,none⟩)),(3,.slice la d.next.length lc),(4,.slice ca d.next.length cc),(5,.pointer (some ⟨h2.size,0,none⟩)),(6,.map (some h3.size)),(7,q.2),(8,.int .i64 (q.1:Nat))]) (fun q h'=>∃vn vr of next rule,eZ h2 h' cls h2.size h3.size q.2 vn vr of next rule/\q.1<=of.length/\Cc d.next.length of/\(next.length=q.1/\rule.length=q.1)/\Bt d live cls (d.next.length+1-q.1) q.1 of next rule=res) (fun q=>d.next.length+1-q.1) ((0,.slice (some ⟨h5.size,0,none⟩) 1 1)) rfl ⟨rfl,rfl,rfl,rfl,rfl,rfl,rfl,trivial⟩ ⟨_,_,[0],[],[],mk6,Nat.zero_le _,⟨by simp,fun x hx=>by simp at hx;omega⟩,⟨rfl,rfl⟩,hres⟩ ?_;rintro⟨i,vl⟩ g ⟨vn,vr,of,next,rule,mk,hi,hok2,⟨hnl,hrl⟩,hcon⟩ ih
   try dsimp only
   dsimp only at mk hi hnl hrl hcon;have hofl:=hok2.len;obtain⟨oa,oc,rfl,_⟩:=(show aQ g h2.size 3 1 vl of.length (of.map eS) from mk.ol).open;have mkg:=mk;refine av rfl ?_;refine bq func30 2 rfl ?_;refine xp rfl (aj.aJ underlying127 rfl) ?_;refine aS 1 [0,3,4,5,6,7,8,32] rfl ?_;refine aO rfl rfl (fun hlt=>?_) (fun hlt=>?_)
   · have hil:i<of.length:=by omega
     obtain⟨kk,hcur⟩:∃kk,of[i]? =some kk:=⟨_,List.getElem?_eq_getElem hil⟩
     have hkN:=hok2.lt kk (List.mem_of_getElem? hcur);obtain⟨n,hnn⟩:∃n,d.next.length+1-i=n+1:=⟨d.next.length-i,by omega⟩
     rw[hnn,Bt,hcur] at hcon;simp only at hcon;obtain⟨r,hr⟩:∃r,d.next[kk]? =some r:=⟨_,List.getElem?_eq_getElem hkN⟩
     have hrow:d.row kk=r.v:=by unfold cv.row;rw[hr]
     rw[hrow] at hcon;generalize htgt:gp live cls r.v of []=tgt at hcon;refine aC rfl ?_;refine av rfl ?_;refine G.block rfl rfl ?_;refine xr func30 rfl ?_;refine xo rfl (aA.aY H.DA) ?_;rintro _ g1 ⟨rfl,kz,ez,zz⟩;have kz:bp g1 g.size 153 (([]:List Int).map (Value.int .i64)++List.replicate (256-0) (Value.int .i64 0)):=kz;have IC:=mk.ax ez;have hvz:vn.ownBlock≠some g.size:=fun e=>by have:=(mk.EX _ e).lt;omega
     obtain⟨vn0,vr0,kd,⟨na,nn,nc,rfl,hnl0,hnc,hnm,hgetn⟩,hsR⟩:=id (k2.ax IC.ext);subst hnl0;obtain⟨b1,o1,cs1,ha1,_,hrow1,rfl⟩:=hgetn kk r hr;obtain⟨gg,c4,hv4,_,_,hcell,_,_⟩:=IC.ol.at hcur;have hoa:oa=some ⟨gg,0,none⟩:=by cases hv4;rfl
     refine xd [0,3,4,5,6,7,8,9,32] rfl ?_;refine av rfl ?_;refine av rfl ?_;refine G.eY func30 H.mixed rfl (by kernel_rfl) ?_;refine RQ.au rfl rfl rfl rfl (aL rfl) ?_;refine RQ.au rfl rfl rfl rfl (aM rfl) ?_;refine RQ.au rfl rfl rfl rfl (af (off:=0) underlying149 rfl rfl H.kV rfl) ?_;refine RQ.au rfl rfl rfl rfl (ai H.rE rfl (kd.cell (i:=0) rfl)) ?_;refine RQ.au rfl rfl rfl rfl (aL rfl) ?_;refine RQ.au rfl rfl rfl rfl (aL rfl) ?_;refine RQ.au rfl rfl rfl rfl (aj.ay underlying127 H.cA rfl rfl i rfl hoa (by omega)) ?_;refine RQ.au rfl rfl rfl rfl (ai H.de rfl hcell) ?_;refine RQ.au rfl rfl rfl rfl (aj.ay underlying147 H.kU rfl rfl kk rfl ha1 (by omega)) ?_;refine RQ.au rfl rfl rfl rfl (aj.aH H.wF H.kU rfl hrow1 (by first|rfl|(simp;done)|(simp;omega))) ?_;refine RQ.au rfl rfl rfl rfl (aL rfl) ?_;refine cP rfl ?_;refine xu [0,3,4,5,6,7,8,9,32,44,45] rfl ?_;refine G.block rfl rfl ?_;refine bG (σ:=Nat×Value) (fun q=>[(0,.pointer (some ⟨db,0,none⟩)),(3,.slice la d.next.length lc),(4,.slice ca d.next.length cc),(5,.pointer (some ⟨h2.size,0,none⟩)),(6,.map (some h3.size)),(7,q.2),(8,.int .i64 (i:Nat)),(9,.pointer (some ⟨g.size,0,none⟩)),(44,.agg (cw r).toArray),(45,.int .i64 (q.1:Nat))]) (fun q h'=>∃of' row,eZ h2 h' cls h2.size h3.size q.2 vn vr of' next rule/\(q.1<=256/\row.length=q.1)/\bp h' g.size 153 (row.map (Value.int .i64)++List.replicate (256-q.1) (Value.int .i64 0))/\of'[i]? =some kk/\Cc d.next.length of'/\gp live cls (r.v.drop q.1) of' row=tgt) (fun q=>256-q.1) ((0,.slice oa of.length oc)) rfl ⟨rfl,rfl,rfl,rfl,rfl,rfl,rfl,rfl,rfl,rfl,trivial⟩ ⟨of,[],IC,⟨Nat.zero_le _,rfl⟩,kz,hcur,hok2,htgt⟩ ?_;rintro⟨b,vl⟩ g2 ⟨of,row,mk,⟨hb,hrlen⟩,kz,hcur,hok2,hrow⟩ ih2
     try dsimp only
     dsimp only at mk hb hrlen kz hrow;have hofl:=hok2.len;obtain⟨oa,oc,rfl,_⟩:=(show aQ g2 h2.size 3 1 vl of.length (of.map eS) from mk.ol).open;refine aZ func30 1 [0,3,4,5,6,7,8,9,44,45,46] rfl ?_;refine av rfl ?_;refine aO rfl rfl (fun hb256=>?_) (fun hb256=>?_)
     · have hb2:b<256:=by omega
       obtain⟨t,ht⟩:∃t,r.v[b]? =some t:=⟨_,List.getElem?_eq_getElem (by rw[r.len];exact hb2)⟩
       have htm:=hok.to r (List.mem_of_getElem? hr) t (List.mem_of_getElem? ht);have hdrop:r.v.drop b=t::r.v.drop (b+1):=by rw[List.drop_eq_getElem_cons (by rw[r.len];exact hb2),(List.getElem?_eq_some_iff.1 ht).2]
       rw[hdrop,gp] at hrow;have hso:=ve (live:=live) (cls:=cls) (t:=t) hok2 htm.2;have hsg:=(CP (live:=live) (cls:=cls) (of:=of) (t:=t)).2 i kk hcur;have hcells:(row.map (Value.int .i64)++List.replicate (256-b) (Value.int .i64 0)).length=256:=by simp[hrlen];omega
       have hset:∀to:Int,(row.map (Value.int .i64)++List.replicate (256-b) (Value.int .i64 0)).set (0+b*1) (.int .i64 to)=(row++[to]).map (Value.int .i64)++List.replicate (256-(b+1)) (Value.int .i64 0):=fun to=>by
        rw[Nat.zero_add,Nat.mul_one,List.set_append_right _ _ (by simp;omega),show 256-b=(256-(b+1))+1 by omega,List.replicate_succ];have:b-(row.map (Value.int .i64)).length=0:=by simp;omega
        rw[this,List.set_cons_zero];simp
       have hblt:0+b*1<(row.map (Value.int .i64)++List.replicate (256-b) (Value.int .i64 0)).length:=by rw[hcells];omega
       have hzge:h2.size<=g.size:=mkg.ext.size
       have fin:∀(gA gB:az) (vA:Value) (ofA:List Nat) (to:Int),eZ h2 gA cls h2.size h3.size vA vn vr ofA next rule->bp gA g.size 153 (row.map (Value.int .i64)++List.replicate (256-b) (Value.int .i64 0))->gB=eJ gA ⟨g.size,0+b*1,none⟩ (.int .i64 to)->dF live cls of t=(ofA,to)->∃of' row,eZ h2 gB cls h2.size h3.size vA vn vr of' next rule/\(b+1<=256/\row.length=b+1)/\bp gB g.size 153 (row.map (Value.int .i64)++List.replicate (256-(b+1)) (Value.int .i64 0))/\of'[i]? =some kk/\Cc d.next.length of'/\gp live cls (r.v.drop (b+1)) of' row=tgt:=by
        rintro gA gB vA ofA to mA kA hgB hst;have k6:=kA.set (0+b*1) (.int .i64 to);rw[<-hgB,hset] at k6;have x6:Ext (fun y=>y=g.size) gA gB:=by rw[hgB];exact Ext.eJ _ _ _ rfl
        rw[hst] at hso hsg hrow;exact⟨ofA,row++[to],mA.put x6 kA.ty hvz hzge,⟨hb2,by simp[hrlen]⟩,k6,hsg,hso,hrow⟩
       refine aC rfl ?_;refine av rfl ?_;refine G.block rfl rfl ?_;refine bq func30 1 rfl ?_;refine xp rfl (aj.vG underlying153 H.cA H.de rfl rfl b rfl hb2 (show (cw r).toArray[b]? =some (Value.int .i64 t) by simp[cw,ht])) ?_;refine aS 2 [0,3,4,5,6,7,8,9,10,11,44,45,46] rfl ?_;refine av rfl ?_;refine bq func30 3 rfl ?_;refine aP (d:=51) rfl (fun hg=>?_) (fun hg=>?_)
       · have hg':=of_decide_eq_true hg;refine aS 6 [0,3,4,5,6,7,8,9,10,11,44,45,46,57] rfl ?_;refine aI rfl rfl (fun _=>?_) (fun hc=>absurd hc (by simp));refine bq func30 1 rfl ?_;refine xp rfl (aj.cX underlying153 H.cA rfl rfl b rfl (by omega)) ?_;refine RW.cu rfl rfl rfl (cL H.cA rfl rfl rfl (kz.cell (List.getElem?_eq_getElem hblt)) kz.nf) ?_;rintro _ g6 ⟨rfl,hg6⟩;have ff:=fin g2 g6 _ of (-1) mk kz hg6 (by rw[dF,if_pos (.inl hg')]);refine xd [0,3,4,5,6,7,8,9,10,11,44,45,46,57] rfl ?_;refine bA rfl rfl ?_;refine G.cz func30 rfl ?_;refine xp rfl (aj.bE rfl rfl ⟨by omega,by omega⟩) ?_;refine aS 1 [0,3,4,5,6,7,8,9,10,11,44,45,46,57] rfl ?_;exact ih2 (b+1,_) _ _ ⟨rfl,rfl,rfl,rfl,rfl,rfl,rfl,rfl,rfl,rfl,trivial⟩ ff (by show 256-(b+1)<256-b;omega)
       · have hg':=of_decide_eq_false hg;obtain⟨t2,rfl⟩:=Int.eq_ofNat_of_zero_le (show 0<=t by omega);obtain⟨bt,hbt⟩:∃bt,live[t2]? =some bt:=⟨_,List.getElem?_eq_getElem (by omega)⟩
         have hlt2:live.getD t2 false=bt:=by rw[List.getD_eq_getElem?_getD,hbt];rfl
         obtain⟨oa',n',c',hv',_,_,_,hgetv⟩:=id (hsV.mv (Mv.ax mk.ext));cases hv';obtain⟨b3,o3,cs3,ha3,_,hrow3,rfl⟩:=hgetv t2 bt hbt;refine cD 2 rfl rfl (aj.ay underlying157 H.mX rfl rfl t2 rfl ha3 (by omega)) ?_;refine xp rfl (ai H.wE rfl (hrow3 0 _ rfl)) ?_;refine aS 2 [0,3,4,5,6,7,8,9,10,11,44,45,46,57] rfl ?_;refine aI rfl rfl (fun hb=>?_) (fun hb=>?_)
         · have hb':bt=false:=by simpa using hb
           refine bq func30 1 rfl ?_;refine xp rfl (aj.cX underlying153 H.cA rfl rfl b rfl (by omega)) ?_;refine RW.cu rfl rfl rfl (cL H.cA rfl rfl rfl (kz.cell (List.getElem?_eq_getElem hblt)) kz.nf) ?_;rintro _ g6 ⟨rfl,hg6⟩;have ff:=fin g2 g6 _ of (-1) mk kz hg6 (by rw[dF,if_pos (.inr (by show live.getD t2 false=false;rw[hlt2,hb']))]);refine xd [0,3,4,5,6,7,8,9,10,11,44,45,46,57] rfl ?_;refine bA rfl rfl ?_;refine G.cz func30 rfl ?_;refine xp rfl (aj.bE rfl rfl ⟨by omega,by omega⟩) ?_;refine aS 1 [0,3,4,5,6,7,8,9,10,11,44,45,46,57] rfl ?_;exact ih2 (b+1,_) _ _ ⟨rfl,rfl,rfl,rfl,rfl,rfl,rfl,rfl,rfl,rfl,trivial⟩ ff (by show 256-(b+1)<256-b;omega)
         · have hb':bt=true:=by simpa using hb
           obtain⟨c2,hc2⟩:∃c2,cls[t2]? =some c2:=⟨_,List.getElem?_eq_getElem (by omega)⟩
           have hgd2:cls.getD t2 0=c2:=by rw[List.getD_eq_getElem?_getD,hc2];rfl
           have hneg:¬(((t2:Nat):Int)<0\/live.getD ((t2:Nat):Int).toNat false=false):=by
            rintro(e|e)
            · exact hg' e
            · rw[Int.toNat_natCast,hlt2,hb'] at e;cases e
           have hstep:dF live cls of ((t2:Nat):Int)=match o8 cls 0 of c2 with|some i=>(of,(i:Int))|none=>(of++[t2],(of.length:Int)):=by
            rw[dF,if_neg hneg,Int.toNat_natCast,hgd2]<;>rfl
           obtain⟨oa',n',c',hv',_,_,_,hgetc⟩:=id (hsC.mv (Mv.ax mk.ext));cases hv';obtain⟨b4,o4,cs4,ha4,_,hrow4,rfl⟩:=hgetc t2 c2 hc2;refine aC rfl ?_;refine bq func30 3 rfl ?_;refine xp rfl (aj.ay underlying127 H.cA rfl rfl t2 rfl ha4 (by omega)) ?_;refine xp rfl (ai H.de rfl (hrow4 0 _ rfl)) ?_;refine xp rfl (aj.vi (z:=.int .i64 0) (jZ.int .i64) underlying160 underlying3 (by kernel_rfl) rfl rfl rfl mk.mp) ?_;rw[sB]
           rcases hfind:o8 cls 0 of c2 with _|i0
           · rw[hfind] at hstep;simp only at hstep;have hnone:lQ c2 (kY cls 0 of)=none:=by rw[sB,hfind];rfl
             refine aS 5 [0,3,4,5,6,7,8,9,10,11,12,13,44,45,46,57] rfl ?_;refine av rfl ?_;refine aZ func30 2 [0,3,4,5,6,7,8,9,10,11,12,13,44,45,46,57,70] rfl ?_;refine aI rfl rfl (fun _=>?_) (fun hc=>absurd hc (by simp));refine bq func30 1 rfl ?_;refine xp rfl (aj.aJ underlying127 rfl) ?_;refine aS 1 [0,3,4,5,6,7,8,9,10,11,12,13,44,45,46,57,70] rfl ?_;refine bq func30 3 rfl ?_;refine xp rfl (aj.ay underlying127 H.cA rfl rfl t2 rfl ha4 (by omega)) ?_;refine xp rfl (ai H.de rfl (hrow4 0 _ rfl)) ?_;refine bh 1 rfl ?_;refine RW.cu rfl rfl rfl (aA.mapUpdate (v:=((of.length:Nat):Int)) (jZ.int .i64) underlying160 underlying3 rfl rfl rfl rfl rfl mk.mp hnone) ?_;rintro _ g3 ⟨rfl,hm3,x3,z3'⟩;have hm3:gi (Value.int .i64) (Value.int .i64) g3 h3.size (kY cls 0 (of++[t2])):=by rw[uO,Nat.zero_add,hgd2];exact hm3
             have mne:∀{b:Nat}{t:TypeId},dP g2 b t->¬b=h3.size:=fun kt e=>mk.mp.ne kt e.symm
             have ol3:aQ g3 h2.size 3 1 (.slice oa of.length oc) of.length (of.map eS):=aQ.ext x3 mk.ol (fun b hb=>mne (mk.Lj b hb));have kz3:=kz.ext x3 (mne kz.ty);have hz2g:=mk.ext.size;refine xd [0,3,4,5,6,7,8,9,10,11,12,13,44,45,46,57,70] rfl ?_;refine G.cz func30 rfl ?_;refine bh 2 rfl ?_;refine xo rfl (aA.aX (us:=[_]) underlying127 H.rq rfl rfl (by decide) (by simp[Value.oneCell'])) ?_;rintro _ _ ⟨rfl,rfl⟩;refine xo rfl (aA.bS underlying127 H.rq rfl rfl (ol3) rfl rfl (by first|decide|simp[Value.oneCell']) (by omega) (by decide) (by omega)) ?_;rintro v7 g4 ⟨ho4,hx4,hx4',hv4⟩;have mk4:=mk.more (t:=t2) x3 hm3 rfl ho4 hx4 hv4;have kz4:=kz3.ext hx4 (fun e=>(show dP g3 _ 3 from aQ.ty ol3 e.symm).ne kz3.ty (by decide) rfl);obtain⟨v7a,v7c,rfl,_⟩:=ho4.open;refine aS 1 [0,3,4,5,6,7,8,9,10,11,12,13,44,45,46,57,70] rfl ?_;refine G.cz func30 rfl ?_;refine cD 2 rfl rfl (aj.cX underlying153 H.cA rfl rfl b rfl (by omega)) ?_;refine RW.cu rfl rfl rfl (cL H.cA rfl rfl rfl (kz4.cell (List.getElem?_eq_getElem hblt)) kz4.nf) ?_;rintro _ g6 ⟨rfl,hg6⟩;have ff:=fin g4 g6 _ (of++[t2]) (of.length:Nat) mk4 kz4 hg6 hstep;refine xd [0,3,4,5,6,7,8,9,10,11,12,13,44,45,46,57,70] rfl ?_;refine G.aR ?_;refine G.cz func30 rfl ?_;refine xp rfl (aj.bE rfl rfl ⟨by omega,by omega⟩) ?_;refine aS 1 [0,3,4,5,6,7,8,9,10,11,12,13,44,45,46,57,70] rfl ?_;exact ih2 (b+1,_) _ _ ⟨rfl,rfl,rfl,rfl,rfl,rfl,rfl,rfl,rfl,rfl,trivial⟩ ff (by show 256-(b+1)<256-b;omega)
           · rw[hfind] at hstep;simp only at hstep;refine aS 5 [0,3,4,5,6,7,8,9,10,11,12,13,44,45,46,57] rfl ?_;refine av rfl ?_;refine aZ func30 2 [0,3,4,5,6,7,8,9,10,11,12,13,44,45,46,57,70] rfl ?_;refine aI rfl rfl (fun hc=>absurd hc (by simp)) (fun _=>?_);refine aC rfl ?_;refine G.cz func30 rfl ?_;refine cD 2 rfl rfl (aj.cX underlying153 H.cA rfl rfl b rfl (by omega)) ?_;refine RW.cu rfl rfl rfl (cL H.cA rfl rfl rfl (kz.cell (List.getElem?_eq_getElem hblt)) kz.nf) ?_;rintro _ g6 ⟨rfl,hg6⟩;have ff:=fin g2 g6 _ of (i0:Nat) mk kz hg6 hstep;refine xd [0,3,4,5,6,7,8,9,10,11,12,13,44,45,46,57,70] rfl ?_;refine G.aR ?_;refine G.cz func30 rfl ?_;refine xp rfl (aj.bE rfl rfl ⟨by omega,by omega⟩) ?_;refine aS 1 [0,3,4,5,6,7,8,9,10,11,12,13,44,45,46,57,70] rfl ?_;exact ih2 (b+1,_) _ _ ⟨rfl,rfl,rfl,rfl,rfl,rfl,rfl,rfl,rfl,rfl,trivial⟩ ff (by show 256-(b+1)<256-b;omega)
     · obtain rfl:b=256:=by omega
       rw[List.drop_of_length_le (by rw[r.len];exact Nat.le_refl _),gp] at hrow;subst hrow;simp only at hcon;have hencr:cw (kC row)=row.map (Value.int .i64):=by rw[cw,uj hrlen]
       rw[Nat.sub_self,List.replicate_zero,List.append_nil,<-hencr] at kz;have hil2:i<of.length:=(List.getElem?_eq_some_iff.1 hcur).1
       have nne:∀{b:Nat}{t:TypeId},dP g2 b t->153≠t->¬(dB vn.ownBlock b\/Array.size g2<=b):=fun kt ht e=>by
        rcases e with e|e
        · exact(mk.EX _ e.symm).ne kt ht rfl
        · have:=kt.lt;omega
       have hzM:¬(dB vn.ownBlock g.size\/Array.size g2<=g.size):=by
        rintro(e|e)
        · exact hvz e.symm
        · have:=kz.lt;omega
       have hdM:=nne mk.dblk.ty (by decide);have hnx:aQ g2 h2.size 153 256 vn next.length (next.flatMap cw):=mk.nx
       have hone:∀u∈cw (kC row),u.oneCell'=true:=fun u hu=>by simp[cw] at hu;obtain⟨_,_,rfl⟩:=hu;rfl
       have hg2:=mk.ext.size;refine bA rfl rfl ?_;refine av rfl ?_;refine b6 (fun b=>dB vn.ownBlock b\/Array.size g2<=b) (fun i=>Nat.blt i 10) (sz:=11) (listed:= #[false,false,false,false,false,false,false,false,false,false,false]) func30 H.mixed rfl rfl rfl ?_;refine cg 0 1 (by kernel_rfl) rfl ?_;refine cg 1 3 (by kernel_rfl) rfl ?_;refine cg 2 7 (by kernel_rfl) rfl ?_;refine bL 3 15 (by kernel_rfl) rfl (fun h' e=>af (off:=0) underlying149 rfl rfl H.kV rfl) ?_;refine bL 4 31 (by kernel_rfl) rfl (fun h' e=>ai H.rE rfl (e.cell hdM (mk.dblk.cell (i:=0) rfl))) ?_;refine bL 5 63 (by kernel_rfl) rfl (fun h' e=>aj.aH H.wF H.kU rfl (e.rowAt hzM kz.row) (by first|rfl|(simp;done)|(simp;omega))) ?_;refine eM 6 127 (by kernel_rfl) rfl (aA.cE (cs:=cw (kC row)) underlying147 H.D9 rfl (mD _) (by decide)) ?_;rintro _ _ ⟨rfl,rfl⟩;refine⟨fun _=>(Ext.push _ _ _),?_⟩;refine eM 7 255 (by kernel_rfl) rfl (aA.yE underlying147 H.D9 rfl rfl hnx rfl (by simp) hone (by simp only[maxLen];omega) (by omega) hg2) ?_;rintro v3 g3 ⟨ho3,hx3,hx3',hv3⟩;refine⟨fun _=>hx3'.mono (fun _ _ k=>.inl k),?_⟩;obtain⟨a3,c3,rfl,_⟩:=ho3.open;refine eM 8 511 (by kernel_rfl) rfl (aj.bw (aM rfl)) ?_;rintro _ hq_ ⟨rfl,hqe_⟩;replace hqe_:=hqe_.symm;subst hqe_;refine⟨fun _=>Ext.refl _ _,?_⟩;refine bL 9 1023 (by kernel_rfl) rfl (fun h' e=>af (off:=0) underlying149 rfl rfl H.kV rfl) ?_;refine mN 10 2047 (by kernel_rfl) rfl (aA.bB H.kV rfl rfl (mk.dblk.ext hx3 (fun e=>hdM (.inl e))) (by first|decide|exact of_decide_eq_true rfl|(simp;done)|(simp;omega)) rfl) ?_;rintro _ g4 ⟨rfl,k4,x4,z4⟩;refine⟨fun hk=>(nomatch hk),?_⟩;have mk4:=mk.Kh (r:=kC row) rfl ho3 hx3 k4 x4;obtain⟨vn0,vr0,kd4,_,⟨ra,rn,rc,rfl,hrl0,hrc,hrm,hgetr⟩⟩:=id k2;obtain⟨x,hx⟩:∃x,d.rule[kk]? =some x:=⟨_,List.getElem?_eq_getElem (by omega)⟩
       have hru0:d.ru kk=x:=by unfold cv.ru;rw[List.getD_eq_getElem?_getD,hx];rfl
       obtain⟨b5,o5,cs5,ha5,hO5,hrow5,rfl⟩:=hgetr kk x hx;obtain⟨gg5,c5,hv5,_,_,hcell5,_,_⟩:=mk4.ol.at hcur;have hoa5:oa=some ⟨gg5,0,none⟩:=by cases hv5;rfl
       have rne:∀{b:Nat}{t:TypeId},dP g4 b t->3≠t->¬(dB vr.ownBlock b\/Array.size g4<=b):=fun kt ht e=>by
        rcases e with e|e
        · exact(mk4.DL _ e.symm).ne kt ht rfl
        · have:=kt.lt;omega
       have hdM4:=rne mk4.dblk.ty (by decide);have hru:aQ g4 h2.size 3 1 vr rule.length (rule.map (Value.int .i64)):=mk4.ru;have hg4s:=mk4.ext.size
       have olb:∀{b:Nat},b<h2.size->¬(dB vr.ownBlock b\/Array.size g4<=b):=fun kb e=>by
        rcases e with e|e
        · have:=(aQ.lt mk4.ru e.symm).1;omega
        · omega
       have hc4:=kd4.cell (i:=1) rfl;have hd4:=olb (eB hc4);have hc5:cellAt h2 _=some (Value.int .i64 x):=hrow5 0 _ rfl;have hd5:=olb (eB hc5)
       have hd6:¬(dB vr.ownBlock gg5\/Array.size g4<=gg5):=fun e=>by
        rcases e with e|e
        · exact mk4.ne gg5 (by rw[hoa5];rfl) e.symm
        · have:=eB hcell5;simp only at this;omega
       refine br (by kernel_rfl) ?_;refine xu [0,3,4,5,6,7,8,9,44,45,46] rfl ?_;refine b6 (fun b=>dB vr.ownBlock b\/Array.size g4<=b) (fun i=>Nat.blt i 19) (sz:=20) (listed:= #[false,false,false,false,false,false,false,false,false,false,false,false,false,false,false,false,false,false,false,false]) func30 H.mixed rfl rfl rfl ?_;refine cg 0 1 (by kernel_rfl) rfl ?_;refine cg 1 3 (by kernel_rfl) rfl ?_;refine cg 2 7 (by kernel_rfl) rfl ?_;refine bL 3 15 (by kernel_rfl) rfl (fun h' e=>af (off:=1) underlying149 rfl rfl H.iB rfl) ?_;refine bL 4 31 (by kernel_rfl) rfl (fun h' e=>ai H.pG rfl (e.cell hdM4 (mk4.dblk.cell (i:=1) rfl))) ?_;refine cg 5 63 (by kernel_rfl) rfl ?_;refine cg 6 127 (by kernel_rfl) rfl ?_;refine bL 7 255 (by kernel_rfl) rfl (fun h' e=>af (off:=1) underlying149 rfl rfl H.iB rfl) ?_;refine bL 8 511 (by kernel_rfl) rfl (fun h' e=>ai H.pG rfl (e.cell hd4 (mk4.ext.cell (fun k=>k) hc4))) ?_;refine cg 9 1023 (by kernel_rfl) rfl ?_;refine cg 10 2047 (by kernel_rfl) rfl ?_;refine bL 11 4095 (by kernel_rfl) rfl (fun h' e=>aj.ay underlying127 H.cA rfl rfl i rfl hoa5 (by omega)) ?_;refine bL 12 8191 (by kernel_rfl) rfl (fun h' e=>ai H.de rfl (e.cell hd6 hcell5)) ?_;refine bL 13 16383 (by kernel_rfl) rfl (fun h' e=>aj.ay underlying127 H.cA rfl rfl kk rfl ha5 (by omega)) ?_;refine bL 14 32767 (by kernel_rfl) rfl (fun h' e=>ai H.de rfl (e.cell hd5 (mk4.ext.cell (fun k=>k) hc5))) ?_;refine eM 15 65535 (by kernel_rfl) rfl (aA.aX (us:=[_]) underlying127 H.rq rfl rfl (by decide) (by simp[Value.oneCell'])) ?_;rintro _ _ ⟨rfl,rfl⟩;refine⟨fun _=>by first|exact Ext.push _ _ _|assumption,?_⟩;refine eM 16 131071 (by kernel_rfl) rfl (aA.bS underlying127 H.rq rfl rfl (hru) rfl rfl (by first|decide|simp[Value.oneCell']) (by omega) (by decide) (by omega)) ?_;rintro v6 g6 ⟨ho6,hx6,hx6',hv6⟩;refine⟨fun _=>hx6'.mono (fun _ _ k=>.inl k),?_⟩;obtain⟨a6,c6,rfl,_⟩:=ho6.open;refine eM 17 262143 (by kernel_rfl) rfl (aj.bw (aM rfl)) ?_;rintro _ hq_ ⟨rfl,hqe_⟩;replace hqe_:=hqe_.symm;subst hqe_;refine⟨fun _=>Ext.refl _ _,?_⟩;refine bL 18 524287 (by kernel_rfl) rfl (fun h' e=>af (off:=1) underlying149 rfl rfl H.iB rfl) ?_;refine mN 19 1048575 (by kernel_rfl) rfl (aA.bB H.iB rfl rfl (mk4.dblk.ext hx6 (fun e=>hdM4 (.inl e))) (by first|decide|exact of_decide_eq_true rfl|(simp;done)|(simp;omega)) rfl) ?_;rintro _ g7 ⟨rfl,k7,x7,z7⟩;refine⟨fun hk=>(nomatch hk),?_⟩;have mk7:=mk4.Kg (x:=x) rfl ho6 hx6 hv6 k7 x7;refine br (by kernel_rfl) ?_;refine xu [0,3,4,5,6,7,8,9,44,45,46] rfl ?_;refine G.aR ?_;refine G.cz func30 rfl ?_;refine cD 1 rfl rfl (aj.bE rfl rfl ⟨by omega,by omega⟩) ?_;refine aS 1 [0,3,4,5,6,7,8,9,44,45,46] rfl ?_;exact ih (i+1,_) _ _ ⟨rfl,rfl,rfl,rfl,rfl,rfl,rfl,trivial⟩ ⟨_,_,of,next++[kC row],rule++[x],mk7,hil2,hok2,⟨by simp[hnl],by simp[hrl]⟩,by rw[<-hru0,show d.next.length+1-(i+1)=n by omega];exact hcon⟩ (by show d.next.length+1-(i+1)<d.next.length+1-i;omega)
   · obtain rfl:i=of.length:=by omega
     obtain⟨n,hnn⟩:∃n,d.next.length+1-of.length=n+1:=⟨d.next.length-of.length,by omega⟩
     rw[hnn,Bt,List.getElem?_eq_none (Nat.le_refl _)] at hcon;simp only at hcon;refine bA rfl rfl ?_;refine aZ func30 2 [0,2,3,4,5,6,7,8,32] rfl ?_;refine G.ret func30 rfl rfl ?_;have hz02:=(e1.trans e2).size;refine⟨_,rfl,⟨h2.size,rfl,?_⟩,(e1.trans e2).trans mk.ext⟩;rw[<-hcon];exact⟨vn,vr,by omega,mk.dblk,lR.read mk.nx (fun b hb k=>by omega),cZ.read (h1:=fun _=>rfl) mk.ru (fun b hb k=>by omega)⟩
end
end Go.Proofs.YtmehdcdbeafljaaGreatDoor
namespace Go.Proofs.YtmehdcdbeafljaaGreatDoor
open Go
section
variable {ss:List bT}{st s k t:Nat}{cls:List Int}
def wT (L:List (List Nat)) (l:List Nat) (to:Int):Prop:=(l.length=0/\to= -1)\/(l.length≠0/\∃i:Nat,to=(i:Int)/\L[i]? =some l)
theorem wT.mono {L L':List (List Nat)}{l:List Nat}{to:Int}(k:wT L l to) (h:L <+: L'):wT L' l to:=by
 rcases k with k|⟨k,i,e,hi⟩
 · exact .inl k
 · obtain⟨t,rfl⟩:=h;exact .inr ⟨k,i,e,by rw[List.getElem?_append_left (List.getElem?_eq_some_iff.1 hi).1];exact hi⟩
theorem zg (ss:List bT) (cur:List Nat) (lists:List (List Nat)) (b:Nat) (hn:lists.Nodup) :
 lists <+: (dY ss cur lists b).1/\(dY ss cur lists b).1.Nodup/\wT (dY ss cur lists b).1 (cB ss (UInt8.ofNat b) cur) (dY ss cur lists b).2:=by
 unfold dY;split
 · rename_i h;exact⟨List.prefix_refl _,hn,.inl ⟨h,rfl⟩⟩
 · rename_i h;split
   · rename_i i hi;exact⟨List.prefix_refl _,hn,.inr ⟨h,i,rfl,(qe lists 0 i _ hi).2⟩⟩
   · rename_i hi;refine⟨List.prefix_append _ _,List.nodup_append.2 ⟨hn,by simp,fun x hx y hy e=>?_⟩,.inr ⟨h,lists.length,rfl,by simp⟩⟩;have:y=cB ss (UInt8.ofNat b) cur:=by simpa using hy
     exact vN lists 0 _ hi (by rw[<-this,<-e];exact hx)
theorem rY (ss:List bT) (cur:List Nat):∀(n b:Nat) (lists:List (List Nat)) (row:List Int),lists.Nodup ->
 lists <+: (l9 ss cur n b lists row).1/\(l9 ss cur n b lists row).1.Nodup/\∃ys,(l9 ss cur n b lists row).2=row++ys/\ys.length=n/\∀(j:Nat) (y:Int),ys[j]? =some y->wT (l9 ss cur n b lists row).1 (cB ss (UInt8.ofNat (b+j)) cur) y
 | 0,b,lists,row,hn=>⟨List.prefix_refl _,hn,[],by simp[l9],rfl,fun j y h=>by simp at h⟩
 |n+1,b,lists,row,hn=>by
  obtain⟨h1,h2,h3⟩:=zg ss cur lists b hn;obtain⟨k1,k2,ys,k3,k4,k5⟩:=rY ss cur n (b+1) (dY ss cur lists b).1 (row++[(dY ss cur lists b).2]) h2;rw[l9];refine⟨h1.trans k1,k2,(dY ss cur lists b).2::ys,by rw[k3];simp,by simp[k4],fun j y hy=>?_⟩;cases j with
  |zero =>
   simp only[List.getElem?_cons_zero,Option.some.injEq] at hy;subst hy;exact h3.mono k1
  |succ j =>
   rw[List.getElem?_cons_succ] at hy;have:=k5 j y hy
   rwa [show b+(j+1)=b+1+j by omega]
structure og (ss:List bT) (st:Nat) (lists:List (List Nat)) (d:cv):Prop where
 first:lists[0]? =some (cG ss st)
 once:lists.Nodup
 size:lists.length<=2000
 rlen:d.rule.length=d.next.length
 row:∀(k:Nat) (r:Row) (l:List Nat),d.next[k]? =some r->lists[k]? =some l->∀(b:Nat) (y:Int),r.v[b]? =some y->wT lists (cB ss (UInt8.ofNat b) l) y
 rule:∀(k:Nat) (x:Int) (l:List Nat),d.rule[k]? =some x->lists[k]? =some l->x=bg ss l
theorem tD {ss:List bT}{st:Nat}:∀(n k:Nat) (lists:List (List Nat)) (next:List Row) (rule:List Int) (d:cv),og ss st lists ⟨next,rule⟩->next.length=k->k<=lists.length->kK ss n k lists next rule=some d->∃L,lists <+: L/\og ss st L d/\L.length=d.next.length
 | 0,k,lists,next,rule,d,h,hk,hkl,hd=>by cases hd
 |n+1,k,lists,next,rule,d,h,hk,hkl,hd=>by
  rw[kK] at hd;split at hd
  · rename_i hn;cases hd;have:=List.getElem?_eq_none_iff.1 hn;exact⟨lists,List.prefix_refl _,h,by show lists.length=next.length;omega⟩
  · rename_i cur hcur;obtain⟨h1,h2,ys,h3,h4,h5⟩:=rY ss cur 256 0 lists [] h.once;split at hd
    · cases hd
    · rename_i hsz;have hkl2:=(List.getElem?_eq_some_iff.1 hcur).1
      have hpre:∀(i:Nat) (l:List Nat),i<lists.length->(l9 ss cur 256 0 lists []).1[i]? =some l->lists[i]? =some l:=fun i l hi hl=>by
       obtain⟨t,ht⟩:=h1;rw[<-ht,List.getElem?_append_left hi] at hl;exact hl
      have hpre2:∀(i:Nat) (l:List Nat),lists[i]? =some l->(l9 ss cur 256 0 lists []).1[i]? =some l:=fun i l hl=>by
       obtain⟨t,ht⟩:=h1;rw[<-ht,List.getElem?_append_left (List.getElem?_eq_some_iff.1 hl).1];exact hl
      have hlen:=h1.length_le;have hrl:rule.length=next.length:=h.rlen
      obtain⟨L,g1,g2,g3⟩:=tD (st:=st) n (k+1) _ _ _ d ⟨hpre2 _ _ h.first,h2,by omega,by simp[hrl],fun i r l hr hl b y hy=>by
       rcases Nat.lt_or_ge i next.length with hi|hi
       · rw[List.getElem?_append_left hi] at hr;exact(h.row i r l hr (hpre i l (by omega) hl) b y hy).mono h1
       · have hik:i=next.length:=by
          have:=(List.getElem?_eq_some_iff.1 hr).1;simp at this;omega
         subst hik;simp only[List.getElem?_concat_length,Option.some.injEq] at hr;subst hr;have hlc:=hpre _ l (by omega) hl;rw[hk] at hlc;rw[hcur] at hlc;cases hlc;rw[h3,List.nil_append,uj h4] at hy;have:=h5 b y hy
         rwa [Nat.zero_add] at this,fun i x l hx hl=>by
       rcases Nat.lt_or_ge i rule.length with hi|hi
       · rw[List.getElem?_append_left hi] at hx;exact h.rule i x l hx (hpre i l (by omega) hl)
       · have hik:i=rule.length:=by
          have:=(List.getElem?_eq_some_iff.1 hx).1;simp at this;omega
         subst hik;simp only[List.getElem?_concat_length,Option.some.injEq] at hx;subst hx;have hlc:=hpre _ l (by omega) hl;rw[hrl,hk,hcur] at hlc;cases hlc;rfl⟩ (by simp[hk]) (by omega) hd
      exact⟨L,h1.trans g1,g2,g3⟩
theorem wK {ss:List bT}(hr:∀x∈ss,x.rule<=1000000):∀(l:List Nat) (b:Int),-1<=b/\b<=1000000-> -1<=rG ss l b/\rG ss l b<=1000000
 | [],b,h=>h
 |j::r,b,h=>by
  rw[rG];refine wK hr r _ ?_;split
  · rename_i x hx;split
    · have:=hr x (List.mem_of_getElem? hx);omega
    · exact h
  · exact h
theorem wI (hr:∀x∈ss,x.rule<=1000000) (l:List Nat) : -1<=bg ss l/\bg ss l<=1000000:=by
 unfold bg;split
 · omega
 · exact wK hr l (-1) (by omega)
theorem og.ok {L:List (List Nat)}{d:cv}(k:og ss st L d) (hL:L.length=d.next.length) (hr:∀x∈ss,x.rule<=1000000):d.Ok:=by
 refine⟨k.rlen,by rw[<-hL];exact k.size,fun r hrm x hx=>?_,fun x hx=>?_⟩
 · obtain⟨i,hi⟩:=List.getElem?_of_mem hrm;obtain⟨j,hj⟩:=List.getElem?_of_mem hx;have hil:=(List.getElem?_eq_some_iff.1 hi).1;have hl:L[i]? =some (L[i]'(by omega)):=List.getElem?_eq_getElem _
   rcases k.row i r _ hi hl j x hj with ⟨_,rfl⟩|⟨_,i2,rfl,h2⟩
   · omega
   · have:=(List.getElem?_eq_some_iff.1 h2).1;omega
 · obtain⟨i,hi⟩:=List.getElem?_of_mem hx;have hil:=(List.getElem?_eq_some_iff.1 hi).1;have hl:L[i]? =some (L[i]'(by rw[hL,<-k.rlen];exact hil)):=List.getElem?_eq_getElem _;rw[k.rule i x _ hi hl];exact wI hr _
theorem jF {d:cv}(h:gO ss st= .inr d):(cG ss st).length≠0/\∃L,og ss st L d/\L.length=d.next.length/\0<L.length:=by
 unfold gO at h;split at h
 · cases h
 · rename_i hs;refine⟨hs,?_⟩;split at h
   · cases h
   · rename_i d' hd;cases h;obtain⟨L,h1,h2,h3⟩:=tD (st:=st) 2002 0 [cG ss st] [] [] d ⟨rfl,by simp,by simp,rfl,fun k r l hr=>by simp at hr,fun k x l hx=>by simp at hx⟩ rfl (by simp) hd;exact⟨L,h2,h3,by have:=(List.getElem?_eq_some_iff.1 h2.first).1;omega⟩
theorem Fo {d:cv}(h:gO ss st= .inr d) (hr:∀x∈ss,x.rule<=1000000):d.Ok:=by
 obtain⟨_,L,h1,h2,_⟩:=jF h;exact h1.ok h2 hr
theorem og.to {ss:List bT}{st0:Nat}{L:List (List Nat)}{d:cv}(k:og ss st0 L d) (hL:L.length=d.next.length){st:Nat}{now:List Nat}(hn:L[st]? =some now) (c:UInt8):wT L (cB ss c now) (d.to st c):=by
 have hl:=(List.getElem?_eq_some_iff.1 hn).1;have hr:d.next[st]? =some (d.next[st]'(by omega)):=List.getElem?_eq_getElem _
 obtain⟨x,hx,he,hm⟩:=(d.next[st]'(by omega)).at c;unfold cv.to;rw[hr];simp only;rw[he];have:=k.row st _ now hr hn c.toNat x hx
 rwa [UInt8.ofNat_toNat] at this
theorem og.ru {ss:List bT}{st0:Nat}{L:List (List Nat)}{d:cv}(k:og ss st0 L d) (hL:L.length=d.next.length){st:Nat}{now:List Nat}(hn:L[st]? =some now):d.ru st=bg ss now:=by
 have hl:=(List.getElem?_eq_some_iff.1 hn).1;have hlt:st<d.rule.length:=by rw[k.rlen];omega
 have hr:d.rule[st]? =some (d.rule[st]'hlt):=List.getElem?_eq_getElem _;have:=k.rule st _ now hr hn;unfold cv.ru;rw[List.getD_eq_getElem?_getD,hr];exact this
theorem tC {ss:List bT}{st0:Nat}{L:List (List Nat)}{d:cv}(k:og ss st0 L d) (hL:L.length=d.next.length):∀(l:By) (st j:Nat) (now:List Nat) (b:Int×Int),L[st]? =some now->now.length≠0 ->
 ((bu d l st j b).1,(bu d l st j b).2.1)=gJ ss l now j b
 | [],st,j,now,b,hn,h0=>by
  rw[bu,gJ,if_neg h0,k.ru hL hn];split<;>rfl
 |c::l,st,j,now,b,hn,h0=>by
  rw[bu,gJ,if_neg h0,k.ru hL hn]
  rcases k.to hL hn c with ⟨e,h⟩|⟨e,i,h,hi⟩
  · rw[h,if_neg (by decide),pX e];split<;>rfl
  · rw[h,if_pos (by omega),Int.toNat_natCast];exact tC k hL l i (j+1) _ _ hi e
theorem rA {d:cv}(h:gO ss st= .inr d) (hs:ss.length≠0) (l:By):((bu d l 0 0 (0,-1)).1,(bu d l 0 0 (0,-1)).2.1)=dx ss st l:=by
 obtain⟨h0,L,h1,h2,_⟩:=jF h;rw[dx,if_neg hs];exact tC h1 h2 l 0 0 _ _ h1.first h0
def cv.go (d:cv):By->Int->Int
 | [],s=>s
 |c::l,s=>cv.go d l (if s<0 then -1 else d.to s.toNat c)
def cv.gm (d:cv) (s:Int) (w:By):Int:=if d.go w s<0 then -1 else d.ru (d.go w s).toNat
theorem go_neg (d:cv):∀(w:By) (s:Int),s<0->d.go w s<0
 | [],s,h=>h
 |c::l,s,h=>by
  rw[cv.go,if_pos h];exact go_neg d l (-1) (by decide)
theorem kZ (d:cv) (w:By){s:Int}(h:s<0):d.gm s w= -1:=by rw[cv.gm,if_pos (go_neg d w s h)]
theorem eu (d:cv) (k:Nat):d.gm (k:Int) []=d.ru k:=by
 rw[cv.gm,cv.go,if_neg (by omega),Int.toNat_natCast]
theorem eO (d:cv) (k:Nat) (c:UInt8) (w:By):d.gm (k:Int) (c::w)=d.gm (d.to k c) w:=by
 have h:¬((k:Int)<0):=by omega
 rw[cv.gm,cv.gm,cv.go,if_neg h,Int.toNat_natCast]
def H9 (d:cv) (k:Nat):Prop:=∃w,0<=d.gm (k:Int) w
def iR (d:cv) (out:List Bool):Prop:=∀k:Nat,out.getD k false=true->H9 d k
theorem Gm {d:cv}{t:Int}(h:t∈d.row k):∃c:UInt8,d.to k c=t:=by
 unfold cv.row at h;split at h
 · rename_i r hr;obtain⟨i,hi⟩:=List.getElem?_of_mem h;have hl:=(List.getElem?_eq_some_iff.1 hi).1;rw[r.len] at hl;refine⟨UInt8.ofNat i,?_⟩;have hc:(UInt8.ofNat i).toNat=i:=by simp;omega
   unfold cv.to;rw[hr];simp only;rw[hc,List.getD_eq_getElem?_getD,hi];rfl
 · cases h
theorem Ke {d:cv}(c:UInt8) (h:k<d.next.length):d.to k c∈d.row k:=by
 have hr:d.next[k]? =some (d.next[k]'h):=List.getElem?_eq_getElem _
 obtain⟨x,hx,he,hm⟩:=(d.next[k]'h).at c;unfold cv.to cv.row;rw[hr];simp only;rw[he];exact hm
theorem zE {d:cv}{out:List Bool}(h:iR d out) (k:Nat) (ha:dW d out k=true):H9 d k:=by
 unfold dW at ha
 rcases Bool.or_eq_true _ _▸ha with e|e
 · exact⟨[],by rw[eu];exact of_decide_eq_true e⟩
 · obtain⟨t,ht,hl⟩:=List.any_eq_true.1 e;unfold gL at hl;rw[Bool.and_eq_true] at hl;have h0:=of_decide_eq_true hl.1;obtain⟨c,hc⟩:=Gm ht;obtain⟨w,hw⟩:=h t.toNat hl.2;refine⟨c::w,?_⟩;rw[eO,hc]
   rwa [Int.toNat_of_nonneg h0] at hw
theorem EJ {d:cv}{out:List Bool}(h:iR d out) (k:Nat):iR d (out.set k (dW d out k)):=by
 intro j hj
 by_cases e:k=j
 · subst e;rw[List.getD_eq_getElem?_getD] at hj
   by_cases hk:k<out.length
   · rw[List.getElem?_set_self hk] at hj;exact zE h k hj
   · rw[List.getElem?_eq_none (by simp;omega)] at hj;cases hj
 · rw[List.getD_eq_getElem?_getD,List.getElem?_set_ne e,<-List.getD_eq_getElem?_getD] at hj;exact h j hj
theorem jT {d:cv}:∀(n k:Nat) (out:List Bool) (ag:Bool),iR d out->iR d (cI d n k out ag).1
 | 0,_,_,_,h=>h
 |n+1,k,out,ag,h=>by
  rw[cI];split
  · exact jT n (k+1) out ag h
  · exact jT n (k+1) _ _ (EJ h k)
theorem jS {d:cv}:∀(n k:Nat) (out:List Bool) (ag:Bool),k+n<=out.length->(cI d n k out ag).2=false->(cI d n k out ag).1=out/\∀j,k<=j->j<k+n->out.getD j false=false->dW d out j=false
 | 0,_,_,_,_,_=>⟨rfl,fun j h1 h2=>by omega⟩
 |n+1,k,out,ag,hk,h=>by
  rw[cI] at h ⊢;split at h
  · rename_i hg;rw[if_pos hg];obtain⟨h1,h2⟩:=jS n (k+1) out ag (by omega) h
    exact⟨h1,fun j hj1 hj2 hj3=>by
     by_cases e:j=k
     · subst e;rw[hg] at hj3;cases hj3
     · exact h2 j (by omega) (by omega) hj3⟩
  · rename_i hg;rw[if_neg hg]
    have hf:out[k]? =some false:=by
     rw[List.getD_eq_getElem?_getD,List.getElem?_eq_getElem (by omega)] at hg;rw[List.getElem?_eq_getElem (by omega)];simpa using hg
    obtain⟨h1,h2⟩:=jS n (k+1) _ _ (by simp;omega) h
    have hb:dW d out k=false:=by
     cases hb:dW d out k with
     |false=>rfl
     |true =>
      exfalso;rw[hb,Bool.or_true] at h
      have hmono:∀(n k:Nat) (out:List Bool),(cI d n k out true).2=true:=fun n=>by
       induction n with
       |zero=>intro k out;rfl
       |succ n ih=>intro k out;rw[cI];split<;>simp[ih]
      rw[hmono] at h;cases h
    have hset:out.set k (dW d out k)=out:=by
     rw[hb]
     apply List.ext_getElem?
     intro j
     by_cases e:k=j
     · subst e;rw[List.getElem?_set_self (by omega),hf]
     · rw[List.getElem?_set_ne e]
    rw[hset] at h1 h2;rw[hset]
    exact⟨h1,fun j hj1 hj2 hj3=>by
     by_cases e:j=k
     · subst e;exact hb
     · exact h2 j (by omega) (by omega) hj3⟩
def wR (d:cv) (out:List Bool):Prop:=∀k,k<d.next.length->out.getD k false=false->dW d out k=false
theorem vk {d:cv}:∀(n:Nat) (out:List Bool),out.length=d.next.length->gN out<n->iR d out->iR d (qU d n out)/\wR d (qU d n out)
 | 0,_,_,h,_=>absurd h (Nat.not_lt_zero _)
 |n+1,out,hl,hf,hs=>by
  have hless:=iV d d.next.length 0 out false (by omega)
  have hsp:=jT d.next.length 0 out false hs
  rw[qU];split
  · rename_i ht
    rcases hless.2 ht with e|e
    · cases e
    · exact vk n _ (by rw[ij];exact hl) (by omega) hsp
  · rename_i ht;have hst:=jS d.next.length 0 out false (by omega) (by simpa using ht)
    rw[hst.1];exact⟨hs,fun k hk hko=>hst.2 k (Nat.zero_le _) (by omega) hko⟩
theorem rC {d:cv}{out:List Bool}(hok:d.Ok) (h:wR d out):∀(w:By) (k:Nat),k<d.next.length->0<=d.gm (k:Int) w->out.getD k false=true
 | [],k,hk,hw=>by
  rw[eu] at hw;cases ho:out.getD k false with
  |true=>rfl
  |false =>
   have:=h k hk ho;unfold dW at this;rw[decide_eq_true hw] at this;cases this
 |c::w,k,hk,hw=>by
  rw[eO] at hw;have ht:=cv.qD hok (s:=k) c
  have h0:0<=d.to k c:=by
   by_cases e:d.to k c<0
   · rw[kZ d w e] at hw;omega
   · omega
  obtain⟨t,htt⟩:=Int.eq_ofNat_of_zero_le h0;rw[htt] at hw;have ih:=rC hok h w t (by omega) hw;cases ho:out.getD k false with
  |true=>rfl
  |false =>
   have:=h k hk ho;unfold dW at this;rw[Bool.or_eq_false_iff] at this;have h2:=List.any_eq_false.1 this.2 _ (Ke c hk);unfold gL at h2;rw[htt,Int.toNat_natCast,ih] at h2;simp at h2
theorem vj {d:cv}(hok:d.Ok) (hk:k<d.next.length):(bK d).getD k false=true↔H9 d k:=by
 have h:=vk (d:=d) (d.next.length+1) (List.replicate d.next.length false) (by simp) (by
  have:gN (List.replicate d.next.length false)<=d.next.length:=by unfold gN;exact Nat.le_trans (List.length_filter_le _ _) (by simp)
  omega) (fun k hk=>by
   rw[List.getD_eq_getElem?_getD,List.getElem?_replicate] at hk;split at hk<;>cases hk)
 exact⟨h.1 k,fun⟨w,hw⟩=>rC hok h.2 w k hk hw⟩
structure El (d:cv) (live:List Bool) (cls:List Int) (k:Nat) (seen:List (List Int)) (after:List Int):Prop where
 len:after.length=k
 once:seen.Nodup
 at_:∀j,j<k->∃i:Nat,after[j]? =some (i:Int)/\seen[i]? =some (fR d live cls j)
theorem vP:∀(ls:List (List Int)) (i:Nat) (l:List Int),kE i ls l=none->l∉ls
 | [],i,l,_=>List.not_mem_nil
 |x::r,i,l,h=>by
  rw[kE] at h;split at h
  · cases h
  · rename_i e;have:=vP r (i+1) l h;simp only[List.mem_cons,not_or];exact⟨e,this⟩
theorem kL {d:cv}{live:List Bool}{cls:List Int}:∀(n k:Nat) (seen:List (List Int)) (after:List Int),El d live cls k seen after->El d live cls (k+n) (bI d live cls n k seen after).1 (bI d live cls n k seen after).2
 | 0,k,seen,after,h=>h
 |n+1,k,seen,after,h=>by
  rw[bI,show k+(n+1)=(k+1)+n by omega];split
  · rename_i i hi;have hi':=qf seen 0 i _ hi;refine kL n (k+1) _ _ ⟨by simp[h.len],h.once,fun j hj=>?_⟩
    by_cases e:j=k
    · subst e;refine⟨i,?_,hi'.2⟩;rw[<-h.len,List.getElem?_concat_length]
    · obtain⟨i',h1,h2⟩:=h.at_ j (by omega);exact⟨i',by rw[List.getElem?_append_left (by rw[h.len];omega)];exact h1,h2⟩
  · rename_i hi;have hno:=vP seen 0 _ hi;refine kL n (k+1) _ _ ⟨by simp[h.len],List.nodup_append.2 ⟨h.once,by simp,fun a ha b hb e=>?_⟩,fun j hj=>?_⟩
    · have:b=fR d live cls k:=by simpa using hb
      rw[e,this] at ha;exact hno ha
    · by_cases e:j=k
      · subst e;refine⟨seen.length,?_,by rw[List.getElem?_concat_length]⟩;rw[<-h.len,List.getElem?_concat_length]
      · obtain⟨i',h1,h2⟩:=h.at_ j (by omega);exact⟨i',by rw[List.getElem?_append_left (by rw[h.len];omega)];exact h1,by rw[List.getElem?_append_left (List.getElem?_eq_some_iff.1 h2).1];exact h2⟩
theorem kM {d:cv}{live:List Bool}(hs:s<d.next.length) (ht:t<d.next.length) :
 (bI d live cls d.next.length 0 [] []).2.getD s 0=(bI d live cls d.next.length 0 [] []).2.getD t 0↔fR d live cls s=fR d live cls t:=by
 have h:=kL (d:=d) (live:=live) (cls:=cls) d.next.length 0 [] [] ⟨rfl,by simp,fun j hj=>absurd hj (Nat.not_lt_zero _)⟩
 rw[Nat.zero_add] at h;obtain⟨i,h1,h2⟩:=h.at_ s hs;obtain⟨j,h3,h4⟩:=h.at_ t ht;rw[List.getD_eq_getElem?_getD,List.getD_eq_getElem?_getD,h1,h3];constructor
 · intro e
   have:i=j:=by
    have e':(i:Int)=(j:Int):=e;omega
   subst this;rw[h2] at h4;exact Option.some.inj h4
 · intro e;rw[<-e] at h4;have hi:=(List.getElem?_eq_some_iff.1 h2)
   have hj:=(List.getElem?_eq_some_iff.1 h4)
   obtain⟨hi1,hi2⟩:=hi;obtain⟨hj1,hj2⟩:=hj
   have:i=j:=by
    rcases Nat.lt_trichotomy i j with e|e|e
    · exact absurd (hi2.trans hj2.symm) (List.pairwise_iff_getElem.1 h.once i j hi1 hj1 e)
    · exact e
    · exact absurd (hj2.trans hi2.symm) (List.pairwise_iff_getElem.1 h.once j i hj1 hi1 e)
   subst this;rfl
theorem tG:∀(m:Nat) (l:List Int),j8 m l->l.length=m->l.Nodup
 | 0,l,_,hl=>by rw[List.length_eq_zero_iff.1 hl];exact List.Pairwise.nil
 |m+1,l,h,hl=>by
  have hm:=h m (Nat.lt_succ_self m);have h1:j8 m (l.erase (m:Int)):=fun i hi=>(List.mem_erase_of_ne (by omega)).2 (h i (by omega))
  have h3:=List.length_erase_of_mem hm;have h2:=tG m _ h1 (by omega)
  have hno:(m:Int)∉l.erase (m:Int):=fun hin=>by
   have h4:j8 m ((l.erase (m:Int)).erase (m:Int)):=fun i hi=>(List.mem_erase_of_ne (by omega)).2 (h1 i hi)
   have h5:=qj _ _ h4;have h6:=List.length_erase_of_mem hin;have h7:=List.length_pos_of_mem hin;omega
  exact(List.perm_cons_erase hm).nodup_iff.2 (List.nodup_cons.2 ⟨hno,h2⟩)
theorem qM {d:cv}(hs:s<d.next.length) (c:UInt8):(d.row s)[c.toNat]? =some (d.to s c):=by
 have hr:d.next[s]? =some (d.next[s]'hs):=List.getElem?_eq_getElem _
 obtain⟨x,hx,he,_⟩:=(d.next[s]'hs).at c;unfold cv.row cv.to;rw[hr];simp only;rw[he];exact hx
theorem ze {d:cv}(hs:s<d.next.length):(d.row s).length=256:=by
 have hr:d.next[s]? =some (d.next[s]'hs):=List.getElem?_eq_getElem _
 unfold cv.row;rw[hr];exact(d.next[s]'hs).len
theorem DN {d:cv}(hs:s<d.next.length) (ht:t<d.next.length) (f:Int->Int):(d.row s).map f=(d.row t).map f↔∀c:UInt8,f (d.to s c)=f (d.to t c):=by
 constructor
 · intro e c;have:=congrArg (fun l=>l[c.toNat]?) e;simp only[List.getElem?_map,qM hs c,qM ht c,Option.map_some,Option.some.injEq] at this;exact this
 · intro h
   apply List.ext_getElem?
   intro i
   by_cases hi:i<256
   · have hc:(UInt8.ofNat i).toNat=i:=by simp;omega
     have h1:=qM hs (UInt8.ofNat i);have h2:=qM ht (UInt8.ofNat i);rw[hc] at h1 h2;rw[List.getElem?_map,List.getElem?_map,h1,h2,Option.map_some,Option.map_some,h]
   · rw[List.getElem?_eq_none (by rw[List.length_map,ze hs];omega),List.getElem?_eq_none (by rw[List.length_map,ze ht];omega)]
def Alike (d:cv) (a b:Int):Prop:=∀w,d.gm a w=d.gm b w
theorem DI {d:cv}(hok:d.Ok) (a:Int) (w:By) : -1<=d.gm a w:=by
 unfold cv.gm;split
 · omega
 · unfold cv.ru;rw[List.getD_eq_getElem?_getD];cases h:d.rule[(d.go w a).toNat]? with
   |none=>decide
   |some x=>exact(hok.ru x (List.mem_of_getElem? h)).1
theorem jX {d:cv}(hok:d.Ok){a:Int}(ha:a<d.next.length):(a<0\/(bK d).getD a.toNat false=false)↔∀w,d.gm a w= -1:=by
 constructor
 · intro h w
   rcases h with h|h
   · exact kZ d w h
   · by_cases hn:a<0
     · exact kZ d w hn
     · obtain⟨k,rfl⟩:=Int.eq_ofNat_of_zero_le (show 0<=a by omega);have hl:=vj hok (k:=k) (by omega);have hg:=DI hok (k:Int) w
       by_cases hw:0<=d.gm (k:Int) w
       · rw[Int.toNat_natCast,hl.2 ⟨w,hw⟩] at h;cases h
       · omega
 · intro h
   by_cases hn:a<0
   · exact .inl hn
   · right
     obtain⟨k,rfl⟩:=Int.eq_ofNat_of_zero_le (show 0<=a by omega);have hl:=vj hok (k:=k) (by omega);rw[Int.toNat_natCast];cases hb:(bK d).getD k false with
     |false=>rfl
     |true =>
      obtain⟨w,hw⟩:=hl.1 hb;have:=h w;omega
structure tM (d:cv) (cls:List Int):Prop where
 len:cls.length=d.next.length
 ge:∀k,-1<=cls.getD k 0
 alike:∀s t:Nat,s<d.next.length->t<d.next.length->Alike d s t->cls.getD s 0=cls.getD t 0
 rule:∀s t:Nat,s<d.next.length->t<d.next.length->cls.getD s 0=cls.getD t 0->d.ru s=d.ru t
theorem Ai {d:cv}(hok:d.Ok) (k:tM d cls){a b:Int}(ha:a<d.next.length) (hb:b<d.next.length) (h:Alike d a b):cN (bK d) cls a=cN (bK d) cls b:=by
 by_cases hd:a<0\/(bK d).getD a.toNat false=false
 · have hd':b<0\/(bK d).getD b.toNat false=false:=(jX hok hb).2 fun w=>by rw[<-h w];exact(jX hok ha).1 hd w
   rw[cN,if_pos hd,cN,if_pos hd']
 · have hd':¬(b<0\/(bK d).getD b.toNat false=false):=fun e=>hd ((jX hok ha).2 fun w=>by rw[h w];exact(jX hok hb).1 e w)
   rw[cN,if_neg hd,cN,if_neg hd']
   have ha0:0<=a:=by
    by_cases e:a<0
    · exact absurd (.inl e) hd
    · omega
   have hb0:0<=b:=by
    by_cases e:b<0
    · exact absurd (.inl e) hd'
    · omega
   exact k.alike a.toNat b.toNat (by omega) (by omega) (by rw[Int.toNat_of_nonneg ha0,Int.toNat_of_nonneg hb0];exact h)
theorem Fb {d:cv}(hok:d.Ok) (k:tM d cls) (hs:s<d.next.length) (ht:t<d.next.length) (h:Alike d s t):fR d (bK d) cls s=fR d (bK d) cls t:=by
 unfold fR;rw[k.alike s t hs ht h,(DN hs ht _).2 fun c=>Ai hok k (cv.qD hok c).2 (cv.qD hok c).2 fun w=>by rw[<-eO,<-eO];exact h (c::w)]
theorem BI {d:cv}{live:List Bool}(h:fR d live cls s=fR d live cls t):cls.getD s 0=cls.getD t 0:=by
 unfold fR at h;exact(List.cons.inj h).1
theorem Gs {d:cv}(hok:d.Ok) (k:tM d cls):tM d (bI d (bK d) cls d.next.length 0 [] []).2:=by
 have hend:=fC d (bK d) cls;refine⟨hend.len,fun j=>?_,fun s t hs ht h=>(kM hs ht).2 (Fb hok k hs ht h),fun s t hs ht h=>k.rule s t hs ht (BI ((kM hs ht).1 h))⟩;rw[List.getD_eq_getElem?_getD];cases hx:(bI d (bK d) cls d.next.length 0 [] []).2[j]? with
 |none=>decide
 |some x=>have:=hend.bound x (List.mem_of_getElem? hx);show -1<=x;omega
theorem ug {d:cv}(hok:d.Ok) (hs:s<d.next.length):d.rule.getD s 0=d.ru s:=by
 have hl:=hok.len;unfold cv.ru;rw[List.getD_eq_getElem?_getD,List.getD_eq_getElem?_getD,List.getElem?_eq_getElem (by omega)];rfl
theorem Gl {d:cv}(hok:d.Ok):tM d d.rule:=by
 refine⟨hok.len,fun k=>?_,fun s t hs ht h=>?_,fun s t hs ht h=>?_⟩
 · rw[List.getD_eq_getElem?_getD];cases hx:d.rule[k]? with
   |none=>decide
   |some x=>exact(hok.ru x (List.mem_of_getElem? hx)).1
 · rw[ug hok hs,ug hok ht];have:=h []
   rwa [eu,eu] at this
 · rwa [ug hok hs,ug hok ht] at h
theorem qF {d:cv}(hok:d.Ok){cls:List Int}(k:tM d cls) (hst:∀s t,s<d.next.length->t<d.next.length->cls.getD s 0=cls.getD t 0->fR d (bK d) cls s=fR d (bK d) cls t):∀(w:By) (s t:Nat),s<d.next.length->t<d.next.length->cls.getD s 0=cls.getD t 0->d.gm (s:Int) w=d.gm (t:Int) w
 | [],s,t,hs,ht,h=>by rw[eu,eu];exact k.rule s t hs ht h
 |c::w,s,t,hs,ht,h=>by
  rw[eO,eO];have hk:=hst s t hs ht h;unfold fR at hk;have hb:=(DN hs ht _).1 (List.cons.inj hk).2 c;have ha:=(cv.qD hok (s:=s) c).2;have hb2:=(cv.qD hok (s:=t) c).2;generalize d.to s c=a at *;generalize d.to t c=b at *
  by_cases hd:a<0\/(bK d).getD a.toNat false=false
  · have hd':b<0\/(bK d).getD b.toNat false=false:=by
     by_cases e:b<0\/(bK d).getD b.toNat false=false
     · exact e
     · rw[cN,if_pos hd,cN,if_neg e] at hb;have:=k.ge b.toNat;omega
    rw[(jX hok ha).1 hd w,(jX hok hb2).1 hd' w]
  · by_cases hd':b<0\/(bK d).getD b.toNat false=false
    · rw[cN,if_neg hd,cN,if_pos hd'] at hb;have:=k.ge a.toNat;omega
    · rw[cN,if_neg hd,cN,if_neg hd'] at hb
      have ha0:0<=a:=by
       by_cases e:a<0
       · exact absurd (.inl e) hd
       · omega
      have hb0:0<=b:=by
       by_cases e:b<0
       · exact absurd (.inl e) hd'
       · omega
      have ih:=qF hok k hst w a.toNat b.toNat (by omega) (by omega) hb
      rwa [Int.toNat_of_nonneg ha0,Int.toNat_of_nonneg hb0] at ih
theorem tI {d:cv}(hok:d.Ok):∀(n many:Nat) (cls:List Int),tM d cls->j8 many cls->many<=d.next.length->d.next.length+1<=n+many->tM d (kN d (bK d) n many cls)/\∀s t:Nat,s<d.next.length->t<d.next.length->(kN d (bK d) n many cls).getD s 0=(kN d (bK d) n many cls).getD t 0->Alike d s t
 | 0,many,cls,k,hc,hm,hf=>by omega
 |n+1,many,cls,k,hc,hm,hf=>by
  have hend:=fC d (bK d) cls;have hmore:=nW (live:=bK d) hc k.len;have hp:=Gs hok k;rw[kN];split
  · rename_i he;refine⟨hp,fun s t hs ht h w=>?_⟩;have hkey:=(kM hs ht).1 h;refine qF hok k (fun s t hs ht h=>?_) w s t hs ht (BI hkey)
    have hcov:j8 many ((bI d (bK d) cls d.next.length 0 [] []).1.map fun s=>s.getD 0 0):=fun i hi=>by
     obtain⟨k',hk'⟩:=List.getElem?_of_mem (hc i hi);have hkl:=(List.getElem?_eq_some_iff.1 hk').1;have:=hend.all k' (by have:=k.len;omega);refine List.mem_map.2 ⟨_,this,?_⟩;simp[fR,List.getD_eq_getElem?_getD,hk']
    have hon:=tG many _ hcov (by simpa using he);obtain⟨i,hi⟩:=List.getElem?_of_mem (hend.all s hs);obtain⟨j,hj⟩:=List.getElem?_of_mem (hend.all t ht);have h1:((bI d (bK d) cls d.next.length 0 [] []).1.map fun s=>s.getD 0 0)[i]? =some (cls.getD s 0):=by rw[List.getElem?_map,hi];rfl
    have h2:((bI d (bK d) cls d.next.length 0 [] []).1.map fun s=>s.getD 0 0)[j]? =some (cls.getD s 0):=by rw[List.getElem?_map,hj,h];rfl
    obtain⟨hi1,hi2⟩:=List.getElem?_eq_some_iff.1 h1;obtain⟨hj1,hj2⟩:=List.getElem?_eq_some_iff.1 h2
    have hij:i=j:=by
     rcases Nat.lt_trichotomy i j with e|e|e
     · exact absurd (hi2.trans hj2.symm) (List.pairwise_iff_getElem.1 hon i j hi1 hj1 e)
     · exact e
     · exact absurd (hj2.trans hi2.symm) (List.pairwise_iff_getElem.1 hon j i hj1 hi1 e)
    subst hij;rw[hi] at hj;exact Option.some.inj hj
  · rename_i hne;have hsz:=hend.size;exact tI hok n _ _ hp hend.nums hsz (by omega)
theorem nX {d:cv}(hok:d.Ok) (hs:s<d.next.length) (ht:t<d.next.length):(eG d (bK d)).getD s 0=(eG d (bK d)).getD t 0↔Alike d s t:=by
 have h:=tI hok (d.next.length+1) 0 d.rule (Gl hok) (fun i hi=>absurd hi (Nat.not_lt_zero _)) (Nat.zero_le _) (by omega);exact⟨h.2 s t hs ht,h.1.alike s t hs ht⟩
def jB (B:Nat) (ss:List bT):Prop:=∀x∈ss,x.rule<=B
theorem jB.snoc {B:Nat}(k:jB B ss){x:bT}(h:x.rule<=B):jB B (ss++[x]):=fun y hy=>by
 rcases List.mem_append.1 hy with e|e
 · exact k y e
 · have:y=x:=by simpa using e
   rw[this];exact h
theorem jB.set {B:Nat}{ss:List bT}(k:jB B ss){x:bT}(h:x.rule<=B) (i:Nat):jB B (ss.set i x):=fun y hy=>by
 rcases List.mem_or_eq_of_mem_set hy with e|e
 · exact k y e
 · rw[e];exact h
end
mutual
theorem zI (B:Nat):∀(x:Nd) (ss:List bT) (to:Nat),jB B ss->jB B (lay x ss to).1
 |.mk k s kids,ss,to,h=>by
  rw[lay];split
  · exact h.snoc (Nat.zero_le _)
  · split
    · exact yp B kids ss to h
    · split
      · exact(yq B kids ss to h).snoc (Nat.zero_le _)
      · split
        · exact(yo B kids ss to h).snoc (Nat.zero_le _)
        · split
          · exact(yo B kids _ _ (h.snoc (Nat.zero_le _))).set (Nat.zero_le _) _
          · exact h
theorem yp (B:Nat):∀(l:List Nd) (ss:List bT) (to:Nat),jB B ss->jB B (bN l ss to).1
 | [],ss,to,h=>by rw[bN];exact h
 |x::r,ss,to,h=>by rw[bN];exact zI B x _ _ (yp B r ss to h)
theorem yq (B:Nat):∀(l:List Nd) (ss:List bT) (to:Nat),jB B ss->jB B (bC l ss to).1
 | [],ss,to,h=>by rw[bC];exact h
 |x::r,ss,to,h=>by rw[bC];exact yq B r _ to (zI B x ss to h)
theorem yo (B:Nat):∀(l:List Nd) (ss:List bT) (to:Nat),jB B ss->jB B (cJ l ss to).1
 | [],ss,to,h=>by rw[cJ];exact h
 |x::r,ss,to,h=>by rw[cJ];exact zI B x ss to h
end
section
variable {ss:List bT}{st s k t:Nat}{cls:List Int}
theorem Bw (B:Nat):∀(i:Nat) (rules:List By) (ss:List bT) (t:List Nat) (ss':List bT) (t':List Nat),i+rules.length<=B->jB B ss->lz i rules ss t= .inr (ss',t')->jB B ss'
 |i,[],ss,t,ss',t',_,h,hm=>by
  rw[lz] at hm;cases hm;exact h
 |i,s::r,ss,t,ss',t',hB,h,hm=>by
  rw[List.length_cons] at hB;rw[lz] at hm;split at hm
  · cases hm
  · exact Bw B (i+1) r _ _ ss' t' (by omega) (zI B _ _ _ (h.snoc (by show i<=B;omega))) hm
theorem GX {rules:List By}(h:fH rules= .inr (ss,st)):∀x∈ss,x.rule<=1000000:=by
 unfold fH at h;split at h
 · cases h
 · rename_i hn;split at h
   · cases h
   · rename_i ss1 t1 hg;split at h
     · cases h
     · cases h;have:=Bw 64 0 rules [] [] ss1 t1 (by omega) (fun x hx=>(by cases hx)) hg;intro x hx;have:=(this.snoc (x:=⟨0,0,t1,0⟩) (Nat.zero_le _)) x hx;omega
end
end Go.Proofs.YtmehdcdbeafljaaGreatDoor
namespace Go.Proofs.YtmehdcdbeafljaaGreatDoor
open Go Go.Lw
set_option maxRecDepth 20000
def mE (rules:List By):Int ⊕ cv:=match fH rules with
 |.inl e=>.inl e
 |.inr (ss,st)=>gO ss st
theorem oC {rules:List By}{d:cv}(h:mE rules= .inr d):d.Ok/\0<d.next.length:=by
 unfold mE at h;split at h
 · cases h
 · rename_i ss st hm;refine⟨Fo h (GX hm),?_⟩;obtain⟨_,L,_,h2,h3⟩:=jF h;omega
theorem AM {rules:List By}{d:cv}(h:mE rules= .inr d) (s:By) (a:Int):((dO d s a).1,(dO d s a).2.1)=zC rules s a:=by
 have hd:=(oC h).2;unfold mE at h;split at h
 · cases h
 · rename_i ss st hm;have hst:=(gK hm).stl;unfold zC CQ dO;rw[hm];simp only
   by_cases ha:a<0\/(s.length:Int)<a
   · rw[if_pos (.inr ha),if_pos (.inr ha)]
   · rw[if_neg (by omega),if_neg (by omega)];exact rA h (by omega) _
end Go.Proofs.YtmehdcdbeafljaaGreatDoor

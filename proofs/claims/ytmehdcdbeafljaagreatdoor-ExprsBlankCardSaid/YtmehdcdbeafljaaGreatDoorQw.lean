/- What the proof of the statement leans on (part 23). -/
import Derived.Lib.ItoaLen
import Derived.Test.YtmehdcdbeafljaaGreatDoorQv

namespace Go.Proofs.YtmehdcdbeafljaaGreatDoor
open Go
def gz (l:List Int):By:=l.flatMap fun n=>Lib.itoa n++[32]
theorem qM (u:Nat):∀c∈Lib.decDigits u,48<=c.toNat/\c.toNat<=57:=by
 induction u using Nat.strongRecOn with
 |_ u ih =>
  intro c hc;rw[Lib.decDigits] at hc;split at hc
  · rename_i h;simp at hc;subst hc;simp;omega
  · rename_i h
    rcases List.mem_append.1 hc with k|k
    · exact ih (u / 10) (by omega) c k
    · simp at k;subst k;have:u%10<10:=Nat.mod_lt _ (by decide);simp;omega
def Gu (l:By):Nat:=l.foldl (fun a c=>a*10+(c.toNat-48)) 0
theorem sM (u:Nat):Gu (Lib.decDigits u)=u:=by
 induction u using Nat.strongRecOn with
 |_ u ih =>
  rw[Lib.decDigits];split
  · rename_i h;simp[Gu];omega
  · rename_i h;have h1:=ih (u / 10) (by omega);unfold Gu at h1 ⊢;rw[List.foldl_append,h1];have:u%10<10:=Nat.mod_lt _ (by decide);simp;omega
theorem uB (n:Int):∀c∈Lib.itoa n,c≠32:=by
 intro c hc e;subst e;unfold Lib.itoa at hc;split at hc
 · rcases List.mem_cons.1 hc with k|k
   · cases k
   · have:=(qM _ _ k).1;simp at this
 · have:=(qM _ _ hc).1;simp at this
theorem F8 {m n:Int}(h:Lib.itoa m=Lib.itoa n):m=n:=by
 have neg:∀a b:Nat,45::Lib.decDigits a≠Lib.decDigits b:=fun a b e=>by
  have:(45:UInt8)∈Lib.decDigits b:=by rw[<-e];exact List.mem_cons_self
  have:=(qM _ _ this).1;simp at this
 unfold Lib.itoa at h;split at h<;>split at h
 · have h:=congrArg Gu (List.cons.inj h).2;rw[sM,sM] at h;omega
 · exact absurd h (neg _ _)
 · exact absurd h.symm (neg _ _)
 · have h:=congrArg Gu h;rw[sM,sM] at h;omega
theorem rW:∀(a b r s:By),(∀c∈a,c≠32)->(∀c∈b,c≠32)->a++32::r=b++32::s->a=b/\r=s
 | [],[],r,s,_,_,h=>by simpa using h
 | [],d::b,r,s,_,hb,h=>by
  simp only[List.nil_append,List.cons_append,List.cons.injEq] at h;exact absurd h.1.symm (hb d List.mem_cons_self)
 |c::a,[],r,s,ha,_,h=>by
  simp only[List.nil_append,List.cons_append,List.cons.injEq] at h;exact absurd h.1 (ha c List.mem_cons_self)
 |c::a,d::b,r,s,ha,hb,h=>by
  simp only[List.cons_append,List.cons.injEq] at h;have:=rW a b r s (fun x hx=>ha x (List.mem_cons_of_mem _ hx)) (fun x hx=>hb x (List.mem_cons_of_mem _ hx)) h.2;exact⟨by rw[h.1,this.1],this.2⟩
theorem key_inj:∀{l m:List Int},gz l=gz m->l=m
 | [],[],_=>rfl
 | [],n::m,h=>by
  have:=congrArg List.length h;simp[gz] at this
 |n::l,[],h=>by
  have:=congrArg List.length h;simp[gz] at this
 |n::l,k::m,h=>by
  have h':Lib.itoa n++32::gz l=Lib.itoa k++32::gz m:=by simpa [gz] using h
  obtain⟨h1,h2⟩:=rW _ _ _ _ (uB n) (uB k) h';rw[F8 h1,key_inj h2]
theorem yB:∀(l:List Int),(∀n∈l,-9223372036854775808<=n/\n<=9223372036854775807)->(gz l).length<=22*l.length
 | [],_=>by simp[gz]
 |n::l,h=>by
  have h1:=yB l (fun x hx=>h x (List.mem_cons_of_mem _ hx));have hn:=h n List.mem_cons_self;have h2:=Lib.itoa_length_le n hn.1 hn.2;have e:gz (n::l)=Lib.itoa n++[32]++gz l:=rfl;have h3:(gz (n::l)).length=(Lib.itoa n).length+1+(gz l).length:=by rw[e,List.length_append,List.length_append];rfl
  rw[h3,List.length_cons];omega
theorem F6 (l:List Int) (n:Int):gz (l++[n])=gz l++Lib.itoa n++[32]:=by simp[gz]
end Go.Proofs.YtmehdcdbeafljaaGreatDoor
namespace Go.Proofs.YtmehdcdbeafljaaGreatDoor
open Go.Proofs.Tryz
open Go Go.Lw
set_option maxRecDepth 20000
section
variable {h:az}{b:Nat}{v:Value}{l:List UInt8}
theorem bInfo:∃j,Tryz.prog.info? 205=some j/\j.size≠0:=⟨_,rfl,by decide⟩
theorem I5:∃i,Tryz.prog.info? 5=some i/\i.zero=some (.int .u8 0)/\i.size=1/\i.bytes=1:=⟨_,rfl,rfl,rfl,rfl⟩
theorem K3:liesAt Tryz.prog Tryz.prog.depth 205 (2 / Tryz.prog.cellsOf 205) 0 205 1=true:=by kernel_rfl
theorem Hg:Tryz.prog.cellsOf 5=1:=by kernel_rfl
theorem sr (hb:bh h b 205 [.pointer none,v]) :
 ah Tryz.prog 141 #[.pointer (some ⟨b,0,none⟩)] h (cT fun _ h'=>bh h' b 205 [.pointer (some ⟨b,0,none⟩),v]/\Ext (fun i=>i=b) h h'/\h'.size=h.size):=by
 obtain⟨j,hj,hj0⟩:=bInfo;refine ah.of func141 rfl rfl ?_;refine bp func141 2 rfl ?_;refine xp rfl (af (off:=0) underlying205 rfl rfl H.zP rfl) ?_;refine xp rfl (ai H.GP rfl (hb.cell (i:=0) rfl)) ?_;refine xp rfl (aj.qJ underlying203 rfl rfl) ?_;refine xd [0,6] rfl ?_;refine aG rfl rfl (fun _=>?_) (fun hc=>absurd hc (by decide));refine G.cq func141 rfl ?_;refine ct 2 rfl rfl (aj.EX underlying203 underlying269 hj hj0 hb (by simp) rfl) ?_;refine xp rfl (aj.FE func170 (by decide +kernel) (by kernel_rfl) (by kernel_rfl) (by kernel_rfl) rfl) ?_;refine xp rfl (aj.Ch underlying269 underlying203 hj hb K3 rfl) ?_;refine ct 1 rfl rfl (af (off:=0) underlying205 rfl rfl H.zP rfl) ?_;refine RW.b9 rfl rfl rfl (aA.bz H.zP rfl rfl hb (by first|decide|exact of_decide_eq_true rfl|(simp;done)|(simp;omega)) rfl) ?_;rintro _ h1 ⟨rfl,hb1,hx1,hs1⟩;refine xd [0,6] rfl ?_;refine G.uQ func141 rfl ?_;exact⟨_,rfl,hb1,hx1,hs1⟩
theorem uV (hb:bh h b 205 [.pointer (some ⟨b,0,none⟩),v]) :
 ah Tryz.prog 141 #[.pointer (some ⟨b,0,none⟩)] h (cT fun _ h'=>bh h' b 205 [.pointer (some ⟨b,0,none⟩),v]/\Ext (fun i=>i=b) h h'/\h'.size=h.size):=by
 obtain⟨j,hj,hj0⟩:=bInfo;refine ah.of func141 rfl rfl ?_;refine bp func141 2 rfl ?_;refine xp rfl (af (off:=0) underlying205 rfl rfl H.zP rfl) ?_;refine xp rfl (ai H.GP rfl (hb.cell (i:=0) rfl)) ?_;refine xp rfl (aj.qJ underlying203 rfl rfl) ?_;refine xd [0,6] rfl ?_;refine aG rfl rfl (fun hc=>absurd hc Bool.false_ne_true) (fun _=>?_);refine bp func141 2 rfl ?_;refine xp rfl (af (off:=0) underlying205 rfl rfl H.zP rfl) ?_;refine xp rfl (ai H.GP rfl (hb.cell (i:=0) rfl)) ?_;refine ct 1 rfl rfl (aj.BY underlying203 hj rfl rfl) ?_;refine xd [0,6,19] rfl ?_;refine aG rfl rfl (fun hc=>absurd hc Bool.false_ne_true) (fun _=>?_);refine aB rfl ?_;refine G.uQ func141 rfl ?_;exact⟨_,rfl,hb,Ext.refl _ _,rfl⟩
theorem iD {p:Value}(hb:bh h b 205 [p,v]) (hp:p= .pointer none\/p= .pointer (some ⟨b,0,none⟩)) :
 ah Tryz.prog 141 #[.pointer (some ⟨b,0,none⟩)] h (cT fun _ h'=>bh h' b 205 [.pointer (some ⟨b,0,none⟩),v]/\Ext (fun i=>i=b) h h'/\h'.size=h.size):=by
 rcases hp with rfl|rfl
 · exact sr hb
 · exact uV hb
theorem dW (s:ByteArray) (hb:jR h b 205 5 l) (hl:l.length+s.size<=140737488355328) :
 ah Tryz.prog 99 #[.pointer (some ⟨b,0,none⟩),.string s] h (cT fun r h'=>r= .tuple #[.int .i64 s.size,.nilIface]/\jR h' b 205 5 (l++s.data.toList)/\Ext (fun i=>b<=i) h h'):=by
 obtain⟨i,hi,hi0,hi1,hi2⟩:=I5;obtain⟨p,v,hk,hp,hv⟩:=hb;have hlt:=hk.lt;refine ah.of func99 rfl rfl ?_;refine aY func99 2 [0,1,4,5] rfl ?_;refine bp func99 1 rfl ?_;refine xo rfl (aq (vs:=[_]) func141 rfl H.FL rfl (ah.br (iD hk hp))) ?_;rintro _ h1 ⟨hk1,hx1,hs1⟩;refine xd [0,1,4,5] rfl ?_;refine bp func99 3 rfl ?_;refine xp rfl (af (off:=1) underlying205 rfl rfl H.n8 rfl) ?_;have hv1:CD h1 (b+1) 5 v l:=aR.ext hx1 hv (fun g hg=>by have:=mw hv g hg.symm;omega);refine xp rfl (ai H.zg rfl (hk1.cell (i:=1) rfl)) ?_;refine bf 1 rfl ?_;refine xo rfl (aA.Ey underlying38 underlying9 hi hi0 hi1 hi2 rfl rfl hv1 hl (by omega)) ?_;rintro v2 h2 ⟨ho2,hx2⟩;refine ct 1 rfl rfl (af (off:=1) underlying205 rfl rfl H.n8 rfl) ?_;have hk2:=hk1.ext hx2 (fun hm=>by have:=mw hv1 b hm;omega);obtain⟨oa2,c2,rfl,-⟩:=aR.open ho2;refine RW.b9 rfl rfl rfl (aA.bz H.n8 rfl rfl hk2 (by first|decide|exact of_decide_eq_true rfl|(simp;done)|(simp;omega)) rfl) ?_;rintro _ h3 ⟨rfl,hk3,hx3,hs3⟩;refine xd [0,1,4,5] rfl ?_;refine bp func99 1 rfl ?_;refine xp rfl (aj.bI underlying9 rfl) ?_;refine aS 2 [0,1,4,5] rfl ?_;refine G.ret func99 rfl rfl ?_;have ho3:CD h3 (b+1) 5 _ (l++s.data.toList):=aR.ext hx3 ho2 (fun g hg=>by have:=mw ho2 g hg.symm;omega);exact⟨_,rfl,rfl,⟨_,_,hk3,.inr rfl,ho3⟩,((hx1.mono (fun _ _ k=>by show b<=_;omega)).trans (hx2.mono (fun g _ k=>by have:=mw hv1 g k;show b<=g;omega))).trans (hx3.mono (fun _ _ k=>by show b<=_;omega))⟩
theorem jR.ay {h h':az}{b:Nat}{l:List UInt8}(k:jR h b 205 5 l) (e:aD h h'):jR h' b 205 5 l:=by
 obtain⟨p,v,hk,hp,hv⟩:=k;exact⟨p,v,hk.ay e,hp,cO.ay hv e⟩
theorem jQ (hb:jR h b 205 5 l) (hl:l.length<=140737488355328) :
 ah Tryz.prog 102 #[.pointer (some ⟨b,0,none⟩)] h (cT fun r h'=>r= .string ⟨l.toArray⟩/\Ext (fun i=>b<=i) h h'):=by
 obtain⟨p,v,hk,hp,hv⟩:=hb;obtain⟨oa,c,rfl,hw⟩:=aR.open hv;have hc1:=hk.cell (i:=1) rfl;refine ah.of func102 rfl rfl ?_;refine aY func102 1 [0,2] rfl ?_;refine av rfl ?_;refine bU (fun i=>b+1<=i) (fun i=>Nat.blt i 12) (sz:=12) (listed:= #[false,false,false,false,false,false,false,false,false,false,false,false]) func102 H.mixed rfl rfl rfl ?_;refine cJ 0 1 (by kernel_rfl) rfl ?_;refine cJ 1 3 (by kernel_rfl) rfl ?_;refine bM 2 7 (by kernel_rfl) rfl (fun h' e=>af (off:=1) underlying205 rfl rfl H.n8 rfl) ?_;refine bM 3 15 (by kernel_rfl) rfl (fun h' e=>ai H.zg rfl (e.cell (by show ¬b+1<=b;omega) hc1)) ?_;refine cJ 5 47 (by kernel_rfl) rfl ?_;refine cJ 6 111 (by kernel_rfl) rfl ?_;refine bM 7 239 (by kernel_rfl) rfl (fun h' e=>af (off:=1) underlying205 rfl rfl H.n8 rfl) ?_;refine bM 8 495 (by kernel_rfl) rfl (fun h' e=>ai H.zg rfl (e.cell (by show ¬b+1<=b;omega) hc1)) ?_;refine bM 9 1007 (by kernel_rfl) rfl (fun h' e=>aj.aK underlying38 rfl) ?_;refine eP 4 1023 (by kernel_rfl) rfl (aA.DH underlying248 rfl hv) ?_;rintro u h1 ⟨⟨q,rfl,hs⟩,he⟩;refine⟨fun _=>he.of,?_⟩;refine eP 10 2047 (by kernel_rfl) rfl (qW underlying248 Hg rfl rfl hs hl) ?_;rintro _ h2 ⟨rfl,hx2⟩;refine⟨fun _=>hx2,?_⟩;refine cJ 11 4095 (by kernel_rfl) rfl ?_;refine bB (by kernel_rfl) ?_;refine xu [0,2] rfl ?_;refine G.ret func102 rfl rfl ?_;exact⟨_,rfl,rfl,(aD.of he).trans (hx2.mono (fun g _ k=>by have:b+1<=g:=k;show b<=g;omega))⟩
def sy (h:az):Prop:=zE Tryz.prog h "internal/strconv.uint64pow10" =some (Lib.pow10Tab.map fun z=>Value.int .u64 z).toArray
theorem sy.ay {h':az}(k:sy h) (e:aD h h'):sy h':=Bw e k
theorem Ce (hg:sy h) (n:Int) (hn : -9223372036854775808<=n/\n<=9223372036854775807) :
 ah Tryz.prog 100 #[.int .i64 n] h (cT fun r h'=>r= .string (bs (Lib.itoa n))/\aD h h'):=by
 refine ah.yo fun w hw=>?_
 subst hw;refine(Tryz.strconv_Itoa n hn.1 hn.2 w hg).mono ?_;rintro e w' ⟨rfl,k,os,rfl⟩;refine⟨_,rfl,⟨rfl,?_⟩,rfl,rfl,rfl⟩;refine⟨by simp[Go.Sort.grow],fun b hb _=>?_⟩;simp[Go.Sort.grow,Array.getElem?_append_left hb]
theorem fR (c:UInt8) (hb:jR h b 205 5 l) (hl:l.length<=900000000) :
 ah Tryz.prog 101 #[.pointer (some ⟨b,0,none⟩),.int .u8 (c.toNat:Nat)] h (cT fun _ h'=>jR h' b 205 5 (l++[c])/\Ext (fun g=>b<=g) h h'):=by
 obtain⟨p,v,hk,hp,hv⟩:=hb;have hlt:=hk.lt;refine ah.of func101 rfl rfl ?_;refine aY func101 1 [0,1,4] rfl ?_;refine bp func101 1 rfl ?_;refine xo rfl (aq (vs:=[_]) func141 rfl H.FL rfl (ah.br (iD hk hp))) ?_;rintro _ h1 ⟨hk1,hx1,hs1⟩;refine xd [0,1,4] rfl ?_;refine bp func101 3 rfl ?_;refine xp rfl (af (off:=1) underlying205 rfl rfl H.n8 rfl) ?_;have hv1:CD h1 (b+1) 5 v l:=aR.ext hx1 hv (fun g hg=>by have:=mw hv g hg.symm;omega);refine xp rfl (ai H.zg rfl (hk1.cell (i:=1) rfl)) ?_;refine bf 1 rfl ?_;refine xo rfl (aA.aW (us:=[_]) underlying38 H.Lj rfl rfl (by decide) (by simp[Value.oneCell'])) ?_;rintro _ _ ⟨rfl,rfl⟩;refine xo rfl (aA.bN underlying38 H.Lj rfl rfl (hv1) rfl rfl (by first|decide|simp[Value.oneCell']) (by omega) (by decide) (by omega)) ?_;rintro v2 h2 ⟨ho2,hx2,hx2',hv2⟩;have hk2:=hk1.ext hx2 (fun hm=>by have:=mw hv1 b hm;omega);have ho2':CD h2 (b+1) 5 v2 (l++[c]):=cO.of (ys:=[c]) ho2 rfl rfl rfl;obtain⟨oa2,c2,rfl,-⟩:=ho2.open;refine ct 1 rfl rfl (af (off:=1) underlying205 rfl rfl H.n8 rfl) ?_;refine RW.b9 rfl rfl rfl (aA.bz H.n8 rfl rfl hk2 (by first|decide|exact of_decide_eq_true rfl|(simp;done)|(simp;omega)) rfl) ?_;rintro _ h3 ⟨rfl,hk3,hx3,hs3⟩;refine xd [0,1,4] rfl ?_;refine aY func101 1 [0,1,4] rfl ?_;refine G.ret func101 rfl rfl ?_;exact⟨_,rfl,⟨_,_,hk3,.inr rfl,aR.ext hx3 ho2' (fun g hg=>by have:=mw ho2' g hg.symm;omega)⟩,((hx1.mono (fun _ _ k=>by show b<=_;omega)).trans (hx2.mono (fun g _ k=>by have:=mw hv1 g k;show b<=g;omega))).trans (hx3.mono (fun _ _ k=>by show b<=_;omega))⟩
theorem qF {O:Nat->Prop}(hg:sy h){l:List Int}(hv:bS (.int .i64) h O v l) (hl:l.length<=1000000) (hb:∀n∈l,-9223372036854775808<=n/\n<=9223372036854775807) :
 ah Tryz.prog 52 #[v] h (cT fun r h'=>r= .string (bs (gz l))/\aD h h'):=by
 obtain⟨oa,n,c,rfl,hsl⟩:=hv.open;have hn:=hsl.len;refine ah.of func52 rfl rfl ?_;refine aY func52 1 [0,2] rfl ?_;refine xr func52 rfl ?_;refine xo rfl (aA.aX H.EL) ?_;rintro _ h0 ⟨rfl,hk0,he0,hs0⟩;refine xd [0,2,3] rfl ?_;refine av rfl ?_;refine bp func52 1 rfl ?_;refine xp rfl (aj.aK underlying127 rfl) ?_;refine aS 1 [0,2,3,6,7,8] rfl ?_;refine G.block rfl rfl ?_;have hb0:jR h0 h.size 205 5 []:=vK hk0;refine bD (σ:=Nat) (fun i=>[(3,.pointer (some ⟨h.size,0,none⟩)),(6,.slice oa n c),(7,.int .i64 (n:Nat)),(8,.int .i64 (i:Nat))]) (fun i h'=>i<=n/\aD h h'/\jR h' h.size 205 5 (gz (l.take i))/\h0.size<=h'.size) (fun i=>n-i) (0) rfl ⟨rfl,rfl,rfl,rfl,trivial⟩ ⟨Nat.zero_le _,he0,hb0,Nat.le_refl _⟩ ?_;rintro i g ⟨hi,eg,hbg,hgz⟩ ih;have hlen:=yB (l.take i) (fun x hx=>hb x (List.mem_of_mem_take hx));rw[List.length_take] at hlen;refine aY func52 1 [3,6,7,8,9] rfl ?_;refine av rfl ?_;refine aO rfl rfl (fun hlt=>?_) (fun hlt=>?_)
 · obtain⟨b1,o1,x,hoa,_,hx,hcx⟩:=(hsl.mv (Mv.ay eg)).at (show i<n by omega);have hbx:=hb x (List.mem_of_getElem? hx);have hil:=Lib.itoa_length_le x hbx.1 hbx.2;have hbsz:=bu (Lib.itoa x);have hbl:(bs (Lib.itoa x)).data.toList=Lib.itoa x:=by simp[bs]
   have hnx:gz (l.take (i+1))=gz (l.take i)++(bs (Lib.itoa x)).data.toList++[32]:=by rw[List.take_add_one,hx,Option.toList_some,F6,hbl]
   refine aB rfl ?_;refine av rfl ?_;refine G.block rfl rfl ?_;refine xr func52 rfl ?_;refine xp rfl (aj.ax underlying127 H.bW rfl rfl i rfl hoa (by omega)) ?_;refine xp rfl (ai H.cM rfl hcx) ?_;refine aS 1 [3,5,6,7,8,9] rfl ?_;refine bp func52 1 rfl ?_;refine xo rfl (aq (vs:=[_]) func100 rfl H.KG rfl (ah.br (Ce (hg.ay eg) x hbx))) ?_;rintro _ g1 ⟨rfl,e1⟩;refine xo rfl (aq (vs:=[_,_]) func99 rfl H.FF rfl (ah.br (dW (bs (Lib.itoa x)) (jR.ay hbg e1) (by omega)))) ?_;rintro _ g2 ⟨rfl,hb2,hx2⟩;refine xd [3,5,6,7,8,9] rfl ?_;refine G.cq func52 rfl ?_;refine xo rfl (aq (vs:=[_,_]) func101 rfl H.Dc rfl (ah.br (fR 32 hb2 (by rw[List.length_append,hbl];omega)))) ?_;rintro _ g3 ⟨hb3,hx3⟩;refine xd [3,5,6,7,8,9] rfl ?_;refine G.aQ ?_;refine G.cq func52 rfl ?_;refine xp rfl (aj.bC rfl rfl ⟨by omega,by omega⟩) ?_;refine aS 1 [3,5,6,7,8,9] rfl ?_;have z1:=e1.size;have z2:=hx2.size;have z3:=hx3.size;rw[<-hnx] at hb3
   have e3:aD h g3:=⟨by have:=eg.size;omega,fun b hb k=>by
    rw[hx3.block b (by have:=eg.size;omega) (by show ¬_<=_;omega),hx2.block b (by have:=eg.size;omega) (by show ¬_<=_;omega),e1.block b (by have:=eg.size;omega) (fun k=>k)];exact eg.block b hb k⟩
   exact ih (i+1) _ _ ⟨rfl,rfl,rfl,rfl,trivial⟩ ⟨by omega,e3,hb3,by omega⟩ (by omega)
 · have hie:l.take i=l:=List.take_of_length_le (by omega);rw[hie] at hbg;have hkl:=yB l hb;refine bw rfl rfl ?_;refine xr func52 rfl ?_;refine xo rfl (aq (vs:=[_]) func102 rfl H.FN rfl (ah.br (jQ hbg (by omega)))) ?_;rintro _ g1 ⟨rfl,hx1⟩;refine aS 1 [2,3,6,7,8,9] rfl ?_;refine G.ret func52 rfl rfl ?_;exact⟨_,rfl,rfl,⟨by have:=hx1.size;have:=eg.size;omega,fun b hb k=>by rw[hx1.block b (by have:=eg.size;omega) (by show ¬_<=_;omega)];exact eg.block b hb k⟩⟩
end
end Go.Proofs.YtmehdcdbeafljaaGreatDoor
namespace Go.Proofs.YtmehdcdbeafljaaGreatDoor
open Go
structure Row where
 v:List Int
 len:v.length=256
structure cg where
 next:List Row
 rule:List Int
def cg.to (d:cg) (s:Nat) (c:UInt8):Int:=match d.next[s]? with|some r=>r.v.getD c.toNat (-1)|none=> -1
def cg.ru (d:cg) (s:Nat):Int:=d.rule.getD s (-1)
structure cg.Ok (d:cg):Prop where
 len:d.rule.length=d.next.length
 size:d.next.length<=2000
 to:∀r∈d.next,∀x∈r.v,-1<=x/\x<d.next.length
 ru:∀x∈d.rule,-1<=x/\x<=1000000
theorem Row.at {r:Row}(c:UInt8):∃x,r.v[c.toNat]? =some x/\r.v.getD c.toNat (-1)=x/\x∈r.v:=by
 have h:=r.len;have hc:=c.toNat_lt;have hx:r.v[c.toNat]? =some (r.v[c.toNat]'(by omega)):=List.getElem?_eq_getElem (by omega);exact⟨_,hx,by rw[List.getD_eq_getElem?_getD,hx];rfl,List.getElem_mem _⟩
theorem cg.oU {d:cg}(k:d.Ok){s:Nat}(c:UInt8) : -1<=d.to s c/\d.to s c<d.next.length:=by
 unfold cg.to;cases h:d.next[s]? with
 |none=>simp only;omega
 |some r =>
  obtain⟨x,hx,he,hm⟩:=r.at c;simp only;rw[he];exact k.to r (List.mem_of_getElem? h) x hm
def bq (d:cg):By->Nat->Nat->Int×Int->Int×Int×Int
 | [],st,k,b=>if 0<=d.ru st then (k,d.ru st,k) else (b.1,b.2,k)
 |c::l,st,k,b =>
  if 0<=d.to st c then bq d l (d.to st c).toNat (k+1) (if 0<=d.ru st then (k,d.ru st) else b)
  else if 0<=d.ru st then (k,d.ru st,k) else (b.1,b.2,k)
def dK (d:cg) (s:By) (a:Int):Int×Int×Int:=if d.next.length=0\/a<0\/(s.length:Int)<a then (0,-1,0) else bq d (s.drop a.toNat) 0 0 (0,-1)
end Go.Proofs.YtmehdcdbeafljaaGreatDoor
namespace Go.Proofs.YtmehdcdbeafljaaGreatDoor
open Go.Proofs.Tryz
open Go Go.Lw
set_option maxRecDepth 20000
section
variable {h:az}
def cm (r:Row):List Value:=r.v.map (.int .i64)
@[simp] theorem lu (r:Row):(cm r).length=256:=by simp[cm,r.len]
def Dh:gQ Row:=.record 256 (by decide) cm lu (fun r v hv=>by simp[cm] at hv;obtain⟨_,_,rfl⟩:=hv;rfl)
def nW (h:az) (db:Nat) (d:cg):Prop :=
 ∃vn vr,bh h db 149 [vn,vr]/\bS Dh h (fun _=>False) vn d.next/\bS (.int .i64) h (fun _=>False) vr d.rule
theorem nW.ay {h h':az}{db:Nat}{d:cg}(k:nW h db d) (e:aD h h'):nW h' db d:=by
 obtain⟨vn,vr,h1,h2,h3⟩:=k;exact⟨vn,vr,h1.ay e,h2.mv (Mv.ay e),h3.mv (Mv.ay e)⟩
def I1 (h:az) (p:Value) (d:cg):Prop:=(p= .pointer none/\d=⟨[],[]⟩)\/∃db,p= .pointer (some ⟨db,0,none⟩)/\nW h db d
theorem Eo:ah Tryz.prog 55 #[.pointer none] h (cT fun r h'=>r= .bool true/\h'=h):=by
 refine ah.of func55 rfl rfl ?_;refine aY func55 1 [0,2] rfl ?_;refine av rfl ?_;refine G.bE [(2,.bool true)] [(0,_)] ⟨rfl,trivial⟩ func55 rfl ?_ ?_
 · refine ct 1 rfl rfl (aj.qJ underlying89 rfl rfl) ?_;refine bf 1 rfl ?_;refine RW.dn (d:=5) (b':=true) rfl (rfl) ?_;refine bf 8 rfl ?_;refine aE rfl ?_;exact⟨rfl,aF rfl (rfl),rfl,trivial⟩
 · refine G.ret func55 rfl rfl ?_;exact⟨_,rfl,rfl,rfl⟩
theorem A0 {db:Nat}{d:cg}(k:nW h db d):ah Tryz.prog 55 #[.pointer (some ⟨db,0,none⟩)] h (cT fun r h'=>r= .bool (decide (d.next.length=0))/\h'=h):=by
 obtain⟨vn,vr,hk,⟨na,nn,nc,rfl,hnl,_⟩,h2⟩:=k;refine ah.of func55 rfl rfl ?_;refine aY func55 1 [0,2] rfl ?_;refine av rfl ?_;refine G.bE [(2,.bool (decide (d.next.length=0)))] [(0,_)] ⟨rfl,trivial⟩ func55 rfl ?_ ?_
 · refine ct 1 rfl rfl (aj.qJ underlying89 rfl rfl) ?_;refine bf 1 rfl ?_;refine RW.dn (d:=5) (b':=false) rfl (rfl) ?_;refine ct 2 rfl rfl (af (off:=0) underlying149 rfl rfl H.jW rfl) ?_;refine xp rfl (ai H.qe rfl (hk.cell (i:=0) rfl)) ?_;refine xp rfl (aj.aK underlying147 rfl) ?_;refine bf 3 rfl ?_;refine aE rfl ?_;exact⟨rfl,aF rfl (by simp only[decide_eq_decide];omega),rfl,trivial⟩
 · refine G.ret func55 rfl rfl ?_;exact⟨_,rfl,rfl,rfl⟩
theorem AZ {p:Value}{d:cg}(k:I1 h p d):ah Tryz.prog 55 #[p] h (cT fun r h'=>r= .bool (decide (d.next.length=0))/\h'=h):=by
 rcases k with ⟨rfl,rfl⟩|⟨db,rfl,k⟩
 · exact Eo
 · exact A0 k
theorem yP {p:Value}{d:cg}{s:By}{a:Int}(k:I1 h p d) (hok:d.Ok) (hs:s.length<=1000000) :
 ah Tryz.prog 110 #[p,.string (bs s),.int .i64 a] h (cT fun r h'=>r= .tuple #[.int .i64 (dK d s a).1,.int .i64 (dK d s a).2.1,.int .i64 (dK d s a).2.2]/\h'=h):=by
 have hbs:=bu s;refine ah.of func110 rfl rfl ?_;refine aY func110 3 [0,1,2,6,7,8] rfl ?_;refine aY func110 1 [0,1,2,6,7,8] rfl ?_;refine av rfl ?_;refine av rfl ?_;refine G.bE [(22,.bool (decide (d.next.length=0\/a<0\/(s.length:Int)<a)))] [(0,_),(1,_),(2,_),(6,_),(7,_),(8,_)] ⟨rfl,rfl,rfl,rfl,rfl,rfl,trivial⟩ func110 rfl ?_ ?_
 · refine bf 1 rfl ?_;refine xo rfl (aq (vs:=[_]) func55 rfl H.Kb rfl (ah.br (AZ k))) ?_;rintro _ h0 ⟨rfl,hh0⟩;subst hh0;refine bf 1 rfl ?_;refine aN (d:=13) rfl (fun hg=>?_) (fun hg=>?_)
   · have hg':=of_decide_eq_true hg;refine bf 9 rfl ?_;refine aE rfl ?_;exact⟨rfl,aF rfl (by simp[hg']),rfl,rfl,rfl,rfl,rfl,rfl,trivial⟩
   · have hg':=of_decide_eq_false hg;refine bf 4 rfl ?_;refine aN (d:=17) rfl (fun hg2=>?_) (fun hg2=>?_)
     · have hg2':=of_decide_eq_true hg2;refine bf 5 rfl ?_;refine aE rfl ?_;exact⟨rfl,aF rfl (by simp[hg2']),rfl,rfl,rfl,rfl,rfl,rfl,trivial⟩
     · have hg2':=of_decide_eq_false hg2;refine ct 2 rfl rfl (aj.bI underlying9 rfl) ?_;refine bf 2 rfl ?_;refine aE rfl ?_;exact⟨rfl,aF rfl (by simp only[decide_eq_decide];omega),rfl,rfl,rfl,rfl,rfl,rfl,trivial⟩
 · refine aO rfl rfl (fun hz=>?_) (fun hz=>?_)
   · refine aY func110 4 [0,1,2,6,7,8,22] rfl ?_;refine G.ret func110 rfl rfl ?_;rw[dK,if_pos hz];exact⟨_,rfl,rfl,rfl⟩
   · obtain⟨k0,rfl⟩:=Int.eq_ofNat_of_zero_le (show 0<=a by omega);have hk0:k0<=s.length:=by omega
     have hma:dK d s (k0:Nat)=bq d (s.drop k0) 0 0 (0,-1):=by rw[dK,if_neg hz];rfl
     rw[hma];generalize htgt:bq d (s.drop k0) 0 0 (0,-1)=tgt
     rcases k with ⟨_,rfl⟩|⟨db,rfl,vn,vr,hk,⟨na,nn,nc,rfl,hnl,_,_,hgetn⟩,⟨ra,rn,rc,rfl,hrl,_,_,hgetr⟩⟩
     exact absurd (.inl rfl) hz;have hlen:=hok.len;have hsize:=hok.size;refine aB rfl ?_;refine av rfl ?_;refine aY func110 1 [0,1,2,6,7,8,9,22] rfl ?_;refine G.block rfl rfl ?_;refine bD (σ:=Int×Nat×Int×Int) (fun q=>[(0,.pointer (some ⟨db,0,none⟩)),(1,.string (bs s)),(2,.int .i64 (k0:Nat)),(6,.int .i64 q.2.2.1),(7,.int .i64 q.2.2.2),(8,.int .i64 (q.2.1:Nat)),(9,.int .i64 q.1)]) (fun q h'=>h'=h/\k0+q.2.1<=s.length/\(0<=q.1->q.1<d.next.length/\bq d (s.drop (k0+q.2.1)) q.1.toNat q.2.1 q.2.2=tgt)/\(q.1<0->(q.2.2.1,q.2.2.2,(q.2.1:Int))=tgt)) (fun q=>2*(s.length-(k0+q.2.1))+(if 0<=q.1 then 1 else 0)) ((0,0,0,-1)) rfl ⟨rfl,rfl,rfl,rfl,rfl,rfl,rfl,trivial⟩ ⟨rfl,by simpa using hk0,fun _=>⟨by show (0:Int)<_;omega,by simpa using htgt⟩,fun k=>absurd k (by decide)⟩ ?_;rintro⟨st,i,b1,b2⟩ g ⟨rfl,hki,hpos,hneg⟩ ih
     try dsimp only
     dsimp only at hki hpos hneg;refine av rfl ?_;refine aY func110 2 [0,1,2,6,7,8,9,25] rfl ?_;refine aO rfl rfl (fun hst=>?_) (fun hst=>?_)
     · obtain⟨hlt,hcon⟩:=hpos hst;obtain⟨j,rfl⟩:=Int.eq_ofNat_of_zero_le hst;have hcon:bq d (s.drop (k0+i)) j i (b1,b2)=tgt:=hcon;obtain⟨x,hx⟩:∃x,d.rule[j]? =some x:=⟨_,List.getElem?_eq_getElem (by omega)⟩
       have hru:d.ru j=x:=by unfold cg.ru;rw[List.getD_eq_getElem?_getD,hx];rfl
       obtain⟨b,o,cs,ha,_,hrow,rfl⟩:=hgetr j x hx;refine aB rfl ?_;refine G.block rfl rfl ?_;refine av rfl ?_;refine bp func110 2 rfl ?_;refine xp rfl (af (off:=1) underlying149 rfl rfl H.gN rfl) ?_;refine xp rfl (ai H.nV rfl (hk.cell (i:=1) rfl)) ?_;refine ct 1 rfl rfl (aj.ax underlying127 H.bW rfl rfl j rfl ha (by omega)) ?_;refine xp rfl (ai H.cM rfl (hrow 0 _ rfl)) ?_;refine aS 1 [0,1,2,6,7,8,9,10,25] rfl ?_;refine aY func110 2 [0,1,2,6,7,8,9,10,25,34] rfl ?_
       have fin:∀(c1 c2:Int) (h':az) (ρ':Env),Sub [(0,.pointer (some ⟨db,0,none⟩)),(1,.string (bs s)),(2,.int .i64 (k0:Nat)),(6,.int .i64 c1),(7,.int .i64 c2),(8,.int .i64 (i:Nat)),(9,.int .i64 (j:Nat))] ρ'->h'=g->(c1,c2)=(if 0<=d.ru j then ((i:Int),d.ru j) else (b1,b2))->G Tryz.prog 110 f110 [.code [1,0,1,0,0,1,0,1,1,1],.blk 1,.loop [0,0,1,0,1,1,1],.blk 0,.code [1,1,1,1]] ρ' h' (cT fun r h'=>r= .tuple #[.int .i64 tgt.1,.int .i64 tgt.2.1,.int .i64 tgt.2.2]/\h'=g):=by
        rintro c1 c2 g1 ρ' hsub rfl hc;refine G.sub (ρ':=[(0,.pointer (some ⟨db,0,none⟩)),(1,.string (bs s)),(2,.int .i64 (k0:Nat)),(6,.int .i64 c1),(7,.int .i64 c2),(8,.int .i64 (i:Nat)),(9,.int .i64 (j:Nat))]) hsub ?_;refine av rfl ?_;refine bp func110 2 rfl ?_;refine xp rfl (aj.bC rfl rfl ⟨by omega,by omega⟩) ?_;refine ct 1 rfl rfl (aj.bI underlying9 rfl) ?_;refine aS 1 [0,1,2,6,7,8,9,42] rfl ?_;refine aO rfl rfl (fun hend=>?_) (fun hend=>?_)
        · have hd:s.drop (k0+i)=[]:=List.drop_of_length_le (by omega);rw[hd,bq] at hcon
          have hcon:(c1,c2,(i:Int))=tgt:=by
           rw[<-hcon]
           by_cases h0:0<=d.ru j
           · rw[if_pos h0] at hc ⊢;cases hc;rfl
           · rw[if_neg h0] at hc ⊢;cases hc;rfl
          refine bw rfl rfl ?_;refine aY func110 6 [0,1,2,6,7,8,9,42] rfl ?_;refine G.ret func110 rfl rfl ?_;exact⟨_,rfl,by rw[<-hcon];rfl,rfl⟩
        · have hki2:k0+i<s.length:=by omega
          have hd:s.drop (k0+i)=s[k0+i]::s.drop (k0+i+1):=List.drop_eq_getElem_cons hki2;rw[hd,bq,<-hc] at hcon;obtain⟨r,hr⟩:∃r,d.next[j]? =some r:=⟨_,List.getElem?_eq_getElem (by omega)⟩
          obtain⟨b3,o3,cs3,ha3,_,hrow3,rfl⟩:=hgetn j r hr;obtain⟨y,hy,he,_⟩:=r.at s[k0+i];have hc8:=s[k0+i].toNat_lt;have hto:d.to j s[k0+i]=y:=by unfold cg.to;rw[hr];exact he
          have hb:=cg.oU hok (s:=j) s[k0+i];rw[hto] at hcon hb;have hcell:cellAt g1 ⟨b3,o3+j*256+s[k0+i].toNat*1,none⟩=some (.int .i64 y):=by rw[Nat.mul_one];exact hrow3 _ _ (by simp[cm,hy])
          refine aB rfl ?_;refine av rfl ?_;refine G.ew func110 H.mixed rfl (by kernel_rfl) ?_;refine RQ.au rfl rfl rfl rfl (aI rfl) ?_;refine RQ.au rfl rfl rfl rfl (aM rfl) ?_;refine RQ.au rfl rfl rfl rfl (af (off:=0) underlying149 rfl rfl H.jW rfl) ?_;refine RQ.au rfl rfl rfl rfl (ai H.qe rfl (hk.cell (i:=0) rfl)) ?_;refine RQ.au rfl rfl rfl rfl (aI rfl) ?_;refine RQ.au rfl rfl rfl rfl (aI rfl) ?_;refine RQ.au rfl rfl rfl rfl (aI rfl) ?_;refine RQ.au rfl rfl rfl rfl (aI rfl) ?_;refine RQ.au rfl rfl rfl rfl (aj.bC rfl rfl ⟨by omega,by omega⟩) ?_;refine RQ.au rfl rfl rfl rfl (aj.dw underlying9 rfl rfl (k0+i) (by omega) (gP (List.getElem?_eq_getElem hki2))) ?_;refine RQ.au rfl rfl rfl rfl (aj.ax underlying147 H.jV rfl rfl j rfl ha3 (by omega)) ?_;refine RQ.au rfl rfl rfl rfl (aj.cK underlying153 H.bW rfl rfl s[k0+i].toNat rfl (by omega)) ?_;refine RQ.au rfl rfl rfl rfl (ai H.cM rfl hcell) ?_;refine RQ.au rfl rfl rfl rfl (aj.assign rfl) ?_;refine cB rfl ?_;refine xu [0,1,2,6,7,8,9,42] rfl ?_;refine aY func110 2 [0,1,2,6,7,8,9,42,57] rfl ?_;refine aO rfl rfl (fun hy0=>?_) (fun hy0=>?_)
          · rw[if_pos hy0] at hcon;obtain⟨j2,rfl⟩:=Int.eq_ofNat_of_zero_le hy0;refine G.cq func110 rfl ?_;refine ct 1 rfl rfl (aj.bC rfl rfl ⟨by omega,by omega⟩) ?_;refine aS 1 [0,1,2,6,7,8,9,42,57] rfl ?_;refine G.aQ ?_;exact ih ((j2:Int),i+1,c1,c2) _ _ ⟨rfl,rfl,rfl,rfl,rfl,rfl,rfl,trivial⟩ ⟨rfl,by show k0+(i+1)<=s.length;omega,fun _=>⟨hb.2,by show bq d (s.drop (k0+(i+1))) _ _ _=tgt;rw[show k0+(i+1)=k0+i+1 by omega];exact hcon⟩,fun k=>absurd k (by show ¬(j2:Int)<0;omega)⟩ (by show 2*(s.length-(k0+(i+1)))+(if (0:Int)<=(j2:Nat) then 1 else 0)<2*(s.length-(k0+i))+(if (0:Int)<=(j:Nat) then 1 else 0);rw[if_pos (by omega),if_pos (by omega)];omega)
          · rw[if_neg hy0] at hcon;refine aB rfl ?_;refine G.aQ ?_;exact ih (y,i,c1,c2) _ _ ⟨rfl,rfl,rfl,rfl,rfl,rfl,rfl,trivial⟩ ⟨rfl,hki,fun k=>absurd k hy0,fun _=>by show (c1,c2,(i:Int))=tgt;rw[<-hcon];by_cases h0:0<=d.ru j;(rw[if_pos h0] at hc ⊢;cases hc;rfl);(rw[if_neg h0] at hc ⊢;cases hc;rfl)⟩ (by show 2*(s.length-(k0+i))+(if (0:Int)<=y then 1 else 0)<2*(s.length-(k0+i))+(if (0:Int)<=(j:Nat) then 1 else 0);rw[if_neg hy0,if_pos (by omega)];omega)
       refine aO rfl rfl (fun hr=>?_) (fun hr=>?_)
       · refine G.cq func110 rfl ?_;refine aS 4 [0,1,2,6,7,8,9,10,25,34] rfl ?_;exact fin _ _ _ _ ⟨rfl,rfl,rfl,rfl,rfl,rfl,rfl,trivial⟩ rfl (by rw[hru,if_pos hr])
       · refine aB rfl ?_;exact fin _ _ _ _ ⟨rfl,rfl,rfl,rfl,rfl,rfl,rfl,trivial⟩ rfl (by rw[hru,if_neg hr])
     · have hcon:=hneg (by omega);refine bw rfl rfl ?_;refine aY func110 6 [0,1,2,6,7,8,9,25] rfl ?_;refine G.ret func110 rfl rfl ?_;exact⟨_,rfl,by rw[<-hcon];rfl,rfl⟩
end
end Go.Proofs.YtmehdcdbeafljaaGreatDoor
namespace Go.Proofs.YtmehdcdbeafljaaGreatDoor
open Go
def yC (l:List Nat):By:=gz (l.map Int.ofNat)
theorem F7 {l m:List Nat}(h:yC l=yC m):l=m:=by
 have:=key_inj h
 have hi:∀a b:List Nat,a.map Int.ofNat=b.map Int.ofNat->a=b:=by
  intro a
  induction a with
  |nil=>intro b h;cases b with
   |nil=>rfl
   |cons y b=>simp at h
  |cons x a ih=>intro b h;cases b with
   |nil=>simp at h
   |cons y b =>
    simp only[List.map_cons,List.cons.injEq] at h;rw[ih b h.2];have:=h.1;simp only[Int.ofNat_eq_natCast] at this;rw[show x=y by omega]
 exact hi _ _ this
def nR:Nat->List (List Nat)->List Nat->Option Nat
 |_,[],_=>none
 |i,x::r,l=>if l=x then some i else nR (i+1) r l
theorem oB:∀(ls:List (List Nat)) (i j:Nat) (l:List Nat),nR i ls l=some j->i<=j/\ls[j-i]? =some l
 | [],i,j,l,h=>by cases h
 |x::r,i,j,l,h=>by
  rw[nR] at h;split at h
  · rename_i e;cases h;subst e;exact⟨Nat.le_refl _,by simp⟩
  · have:=oB r (i+1) j l h;refine⟨by omega,?_⟩;rw[show j-i=(j-(i+1))+1 by omega,List.getElem?_cons_succ];exact this.2
theorem uL:∀(ls:List (List Nat)) (i:Nat) (l:List Nat),nR i ls l=none->l∉ls
 | [],i,l,_=>List.not_mem_nil
 |x::r,i,l,h=>by
  rw[nR] at h;split at h
  · cases h
  · rename_i e;have:=uL r (i+1) l h;simp only[List.mem_cons,not_or];exact⟨e,this⟩
def dS (ss:List bK) (cur:List Nat) (lists:List (List Nat)) (b:Nat):List (List Nat)×Int :=
 if (bg ss (UInt8.ofNat b) cur).length=0 then (lists,-1)
 else match nR 0 lists (bg ss (UInt8.ofNat b) cur) with
  |some i=>(lists,(i:Int))
  |none=>(lists++[bg ss (UInt8.ofNat b) cur],(lists.length:Int))
def kT (ss:List bK) (cur:List Nat):Nat->Nat->List (List Nat)->List Int->List (List Nat)×List Int
 | 0,_,lists,row=>(lists,row)
 |n+1,b,lists,row=>kT ss cur n (b+1) (dS ss cur lists b).1 (row++[(dS ss cur lists b).2])
def jC (l:List Int):Row:=⟨(l++List.replicate 256 (-1)).take 256,by rw[List.length_take,List.length_append,List.length_replicate];omega⟩
theorem sH {l:List Int}(h:l.length=256):(jC l).v=l:=by
 unfold jC;simp only;rw[List.take_append_of_le_length (by omega),List.take_of_length_le (by omega)]
def jM (ss:List bK):Nat->Nat->List (List Nat)->List Row->List Int->Option cg
 | 0,_,_,_,_=>none
 |n+1,k,lists,next,rule =>
  match lists[k]? with
  |none=>some ⟨next,rule⟩
  |some cur =>
   if 2000<(kT ss cur 256 0 lists []).1.length then none
   else jM ss n (k+1) (kT ss cur 256 0 lists []).1 (next++[jC (kT ss cur 256 0 lists []).2]) (rule++[aJ ss cur])
def gr (ss:List bK) (st:Nat):Int ⊕ cg :=
 if (cu ss st).length=0 then .inl 1
 else match jM ss 2002 0 [cu ss st] [] [] with
  |none=>.inl 70
  |some d=>.inr d
end Go.Proofs.YtmehdcdbeafljaaGreatDoor
namespace Go.Proofs.YtmehdcdbeafljaaGreatDoor
open Go.Proofs.Tryz
open Go Go.Lw
set_option maxRecDepth 20000
def Lb (h:az) (O:Nat->Prop) (cs:List Value) (x:List Nat):Prop:=∃v,cs=[v]/\bS iC h O v x
def Cj:gQ (List Nat):=⟨1,by decide,Lb,fun h=>by obtain⟨v,rfl,_⟩:=h;rfl,fun h=>by
 obtain⟨v,rfl,hv⟩:=h;intro u hu;simp at hu;subst hu;exact bS.IJ hv,fun h m=>by
 obtain⟨v,hc,hv⟩:=h;exact⟨v,hc,hv.mv m⟩⟩
def mh:Nat->List (List Nat)->List (ByteArray×Int)
 |_,[]=>[]
 |i,x::r=>(bs (yC x),(i:Int))::mh (i+1) r
theorem wI:∀(ls:List (List Nat)) (i:Nat) (l:List Nat),mh i (ls++[l])=mh i ls++[(bs (yC l),((i+ls.length:Nat):Int))]
 | [],i,l=>by simp[mh]
 |x::r,i,l=>by
  simp only[List.cons_append,mh];rw[wI r (i+1) l,List.length_cons,show i+1+r.length=i+(r.length+1) by omega]
theorem vg:∀(ls:List (List Nat)) (i:Nat) (l:List Nat),kJ (bs (yC l)) (mh i ls)=(nR i ls l).map fun j=>(j:Int)
 | [],i,l=>rfl
 |x::r,i,l=>by
  rw[mh,kJ,nR]
  by_cases h:l=x
  · subst h;rw[if_pos rfl,if_pos rfl];rfl
  · have hk:¬bs (yC l)=bs (yC x):=fun e=>h (F7 (eK e))
    rw[if_neg hk,if_neg h];exact vg r (i+1) l
theorem Bf {h:az}{O:Nat->Prop}{v:Value}{l:List Nat}(k:bS iC h O v l):bS (.int .i64) h O v (l.map Int.ofNat):=by
 obtain⟨oa,n,c,rfl,hl,hnc,hc,hg⟩:=k;refine⟨oa,n,c,rfl,by simpa using hl,hnc,hc,fun i x hx=>?_⟩;rw[List.getElem?_map] at hx;cases hs:l[i]? with
 |none=>rw[hs] at hx;cases hx
 |some s =>
  rw[hs] at hx;simp only[Option.map_some,Option.some.injEq] at hx;subst hx;obtain⟨b,o,cs,h1,h2,h3,h4⟩:=hg i s hs;exact⟨b,o,cs,h1,h2,h3,h4⟩
structure iF (h0 h:az) (C:Nat->Prop) (db mb:Nat) (vl vn vr:Value) (lists:List (List Nat)) (next:List Row) (rule:List Int):Prop where
 ext:aD h0 h
 dblk:bh h db 149 [vn,vr]
 nx:kK 256 cm h h0.size 153 vn next
 ru:cO (Value.int .i64) h h0.size 3 vr rule
 mp:fF Value.string (Value.int .i64) h mb (mh 0 lists)
 ls:dU Cj (fun b=>¬C b) h h0.size 127 vl lists
 cty:∀b,C b->dL h b 3
 cr:∀b,vr.ownBlock=some b->¬C b
 dge:h0.size<=db
 mge:h0.size<=mb
section
variable {h0 h:az}{C:Nat->Prop}{db mb:Nat}{vl vn vr:Value}{lists:List (List Nat)}{next:List Row}{rule:List Int}
theorem iF.FU (k:iF h0 h C db mb vl vn vr lists next rule):∀b,vl.ownBlock=some b->dL h b 127:=fun b hb=>by
 obtain⟨css,_,h2,_⟩:=k.ls;exact h2.ty hb
theorem iF.DX (k:iF h0 h C db mb vl vn vr lists next rule):∀b,vn.ownBlock=some b->dL h b 153:=fun _ hb=>aR.ty k.nx hb
theorem iF.CU (k:iF h0 h C db mb vl vn vr lists next rule):∀b,vr.ownBlock=some b->dL h b 3:=fun _ hb=>aR.ty k.ru hb
theorem iF.MR (k:iF h0 h C db mb vl vn vr lists next rule):∀b,vl.ownBlock=some b->h0.size<=b:=fun b hb=>by
 obtain⟨css,_,h2,_⟩:=k.ls;exact(h2.lt hb).1
theorem iF.ay {h':az}(k:iF h0 h C db mb vl vn vr lists next rule) (e:aD h h'):iF h0 h' C db mb vl vn vr lists next rule :=
 ⟨k.ext.trans e,k.dblk.ay e,kK.ay k.nx e,cO.ay k.ru e,k.mp.ext e (fun k=>k),k.ls.ay e,fun b hb=>(k.cty b hb).ext e (fun k=>k),k.cr,k.dge,k.mge⟩
theorem iF.put {h':az}{x:Nat}(k:iF h0 h C db mb vl vn vr lists next rule) (e:Ext (fun b=>b=x) h h') (hx:dL h x 153) (hn:vn.ownBlock≠some x) (hge:h0.size<=x):iF h0 h' C db mb vl vn vr lists next rule:=by
 have hd:¬db=x:=k.dblk.ty.ne hx (by decide);have hm:¬mb=x:=k.mp.ne hx;have hl:∀b,vl.ownBlock=some b->¬b=x:=fun b hb=>(k.FU b hb).ne hx (by decide)
 have hr:∀b,vr.ownBlock=some b->¬b=x:=fun b hb=>(k.CU b hb).ne hx (by decide)
 have hc:∀b,C b->¬b=x:=fun b hb=>(k.cty b hb).ne hx (by decide)
 exact⟨aD.only k.ext e hge,k.dblk.ext e hd,aR.ext e k.nx (fun b hb hbx=>hn (by subst hbx;exact hb)),aR.ext e k.ru hr,k.mp.ext e hm,
  k.ls.pF e hl (fun b _ hb hC=>hc b hC hb) (fun _ _ k=>k),fun b hb=>(k.cty b hb).ext e (hc b hb),k.cr,k.dge,k.mge⟩
end
section
variable {h0 h:az}{C:Nat->Prop}{db mb:Nat}{vl vn vr:Value}{lists:List (List Nat)}{next:List Row}{rule:List Int}
theorem iF.Jc {g3 g4:az}{v3:Value}{r:Row}{n:Nat}(k:iF h0 h C db mb vl vn vr lists next rule) (hn:n=next.length) (ho:aR g3 h0.size 153 256 v3 (n+1) (next.flatMap cm++cm r)) (hx:Ext (dz vn.ownBlock) h g3) (hd:bh g4 db 149 [v3,vr]) (x4:Ext (fun b=>b=db) g3 g4) :
 iF h0 g4 C db mb vl v3 vr lists (next++[r]) rule:=by
 have nne:∀{b:Nat}{t:TypeId},dL h b t->153≠t->¬dz vn.ownBlock b:=fun kt ht e=>(k.DX _ e.symm).ne kt ht rfl
 have d3:=k.dblk.ext hx (nne k.dblk.ty (by decide));have dne:∀{b:Nat}{t:TypeId},dL g3 b t->149≠t->¬b=db:=fun kt ht e=>by subst e;exact d3.ty.ne kt ht rfl
 have mne:¬dz vn.ownBlock mb:=fun e=>k.mp.ne (k.DX _ e.symm) rfl
 have hm3:=k.mp.ext hx mne;have hdlt:=k.dblk.lt;have ru3:=aR.ext hx k.ru (fun b hb=>nne (k.CU b hb) (by decide));have ls3:dU Cj (fun b=>¬C b) g3 h0.size 127 vl lists:=k.ls.pF hx (fun b hb=>nne (k.FU b hb) (by decide)) (fun b _ hb hC=>nne (k.cty b hC) (by decide) hb) (fun _ _ k=>k);have lty3:∀b,vl.ownBlock=some b->dL g3 b 127:=fun b hb=>(k.FU b hb).ext hx (nne (k.FU b hb) (by decide))
 have cty3:∀b,C b->dL g3 b 3:=fun b hb=>(k.cty b hb).ext hx (nne (k.cty b hb) (by decide))
 refine⟨⟨by have:=k.ext.size;have:=hx.size;have:=x4.size;omega,fun b hb kk=>?_⟩,hd,?_,aR.ext x4 ru3 (fun b hb=>dne (aR.ty ru3 hb) (by decide)),hm3.ext x4 (hm3.ne d3.ty),ls3.pF x4 (fun b hb=>dne (lty3 b hb) (by decide)) (fun b _ hb hC=>dne (cty3 b hC) (by decide) hb) (fun _ _ k=>k),fun b hb=>(cty3 b hb).ext x4 (dne (cty3 b hb) (by decide)),k.cr,k.dge,k.mge⟩
 · rw[x4.block b (by have:=k.ext.size;have:=hx.size;omega) (by have:=k.dge;omega),hx.block b (by have:=k.ext.size;omega) (fun e=>by have:=(aR.lt k.nx e.symm).1;omega)];exact k.ext.block b hb kk
 · exact aR.ext x4 (kK.of ho hn rfl) (fun b hb=>dne (aR.ty ho hb) (by decide))
theorem iF.Jb {g3 g4:az}{v3:Value}{x:Int}{n:Nat}(k:iF h0 h C db mb vl vn vr lists next rule) (hn:n=rule.length) (ho:aR g3 h0.size 3 1 v3 (n+1) (rule.map (Value.int .i64)++[.int .i64 x])) (hx:Ext (dz vr.ownBlock) h g3) (hv:∀b,v3.ownBlock=some b->vr.ownBlock=some b\/h.size<=b) (hd:bh g4 db 149 [vn,v3]) (x4:Ext (fun b=>b=db) g3 g4) :
 iF h0 g4 C db mb vl vn v3 lists next (rule++[x]):=by
 have nne:∀{b:Nat}{t:TypeId},dL h b t->3≠t->¬dz vr.ownBlock b:=fun kt ht e=>(k.CU _ e.symm).ne kt ht rfl
 have cne:∀{b:Nat},C b->¬dz vr.ownBlock b:=fun hC e=>k.cr _ e.symm hC
 have d3:=k.dblk.ext hx (nne k.dblk.ty (by decide));have dne:∀{b:Nat}{t:TypeId},dL g3 b t->149≠t->¬b=db:=fun kt ht e=>by subst e;exact d3.ty.ne kt ht rfl
 have mne:¬dz vr.ownBlock mb:=fun e=>k.mp.ne (k.CU _ e.symm) rfl
 have hm3:=k.mp.ext hx mne;have nx3:=aR.ext hx k.nx (fun b hb=>nne (k.DX b hb) (by decide));have ls3:dU Cj (fun b=>¬C b) g3 h0.size 127 vl lists:=k.ls.pF hx (fun b hb=>nne (k.FU b hb) (by decide)) (fun b _ hb hC=>cne hC hb) (fun _ _ k=>k);have lty3:∀b,vl.ownBlock=some b->dL g3 b 127:=fun b hb=>(k.FU b hb).ext hx (nne (k.FU b hb) (by decide))
 have cty3:∀b,C b->dL g3 b 3:=fun b hb=>(k.cty b hb).ext hx (cne hb)
 refine⟨⟨by have:=k.ext.size;have:=hx.size;have:=x4.size;omega,fun b hb kk=>?_⟩,hd,aR.ext x4 nx3 (fun b hb=>dne (aR.ty nx3 hb) (by decide)),?_,hm3.ext x4 (hm3.ne d3.ty),ls3.pF x4 (fun b hb=>dne (lty3 b hb) (by decide)) (fun b _ hb hC=>dne (cty3 b hC) (by decide) hb) (fun _ _ k=>k),fun b hb=>(cty3 b hb).ext x4 (dne (cty3 b hb) (by decide)),fun b hb hC=>?_,k.dge,k.mge⟩
 · rw[x4.block b (by have:=k.ext.size;have:=hx.size;omega) (by have:=k.dge;omega),hx.block b (by have:=k.ext.size;omega) (fun e=>by have:=(aR.lt k.ru e.symm).1;omega)];exact k.ext.block b hb kk
 · exact aR.ext x4 (cO.of (ys:=[x]) ho hn rfl rfl) (fun b hb=>dne (aR.ty ho hb) (by decide))
 · rcases hv b hb with e|e
   · exact k.cr b e hC
   · have:=(k.cty b hC).lt;omega
end
def zm (res:Int ⊕ cg) (h':az) (r:Value):Prop:=match res with
 |.inl e=>r= .tuple #[.pointer none,.int .i64 e]
 |.inr d=>∃db,r= .tuple #[.pointer (some ⟨db,0,none⟩),.int .i64 0]/\nW h' db d
theorem A1 {h:az}{O:Nat->Prop}{nb:Nat}{v:Value}{ss:List bK}{st:Nat}(htens:sy h) (hn:cy h O nb v ss st) (hgood:Good ss) (hss:ss.length<=30000) (hst:st<ss.length) (hpot1:1+rz ss (List.replicate ss.length false)<=1000000)
 (hpot:∀c now,List.Sublist now (List.range ss.length)->(stepG ss c now []).length+rz ss (List.replicate ss.length false)<=1000000) :
 ah Tryz.prog 29 #[.pointer (some ⟨nb,0,none⟩)] h (cT fun r h'=>zm (gr ss st) h' r/\aD h h'):=by
 generalize hres:gr ss st=res
 have hint:∀l:List Nat,l.Sublist (List.range ss.length)->(l.map Int.ofNat).length<=1000000/\∀n∈l.map Int.ofNat,-9223372036854775808<=n/\n<=9223372036854775807:=fun l hl=>by
  have h1:=hl.length_le;rw[List.length_range] at h1;refine⟨by rw[List.length_map];omega,fun n hn=>?_⟩;obtain⟨j,hj,rfl⟩:=List.mem_map.1 hn;have:=List.mem_range.1 (hl.subset hj);simp only[Int.ofNat_eq_natCast];omega
 refine ah.of func29 rfl rfl ?_;refine aY func29 2 [0,2,3] rfl ?_;refine bp func29 1 rfl ?_;refine xo rfl (aq (vs:=[_]) func51 rfl H.LZ rfl (ah.br (zS hn hgood (by omega) (.inr hst) hpot1))) ?_;rintro w4 h1 ⟨ho1,e1⟩;have hsub0:=BG ss st;generalize hl0:cu ss st=l0 at *;have hi0:=hint l0 hsub0;obtain⟨wa,wc,rfl,_⟩:=(show aR h1 h.size 3 1 w4 l0.length (l0.map eG) from ho1).open;refine aS 1 [0,2,3,4] rfl ?_;refine av rfl ?_;refine bp func29 1 rfl ?_;refine xp rfl (aj.aK underlying127 rfl) ?_;refine aS 1 [0,2,3,4,18] rfl ?_;refine aO rfl rfl (fun hz=>?_) (fun hz=>?_)
 · refine aY func29 2 [0,2,3,4,18] rfl ?_;refine G.ret func29 rfl rfl ?_;have:res= .inl 1:=by rw[<-hres,gr,hl0,if_pos (by omega)]
   subst this;exact⟨_,rfl,rfl,e1⟩
 · have hres':res=match jM ss 2002 0 [l0] [] [] with|none=>.inl 70|some d=>.inr d:=by rw[<-hres,gr,hl0,if_neg (by omega)]<;>rfl
   refine aB rfl ?_;refine xr func29 rfl ?_;refine xp rfl (aP (H.GI ) rfl) ?_;refine xo rfl (aA.gu rfl) ?_;rintro _ h2 ⟨rfl,k2,e2,z2⟩;refine aS 1 [0,2,3,4,5,18] rfl ?_;refine xr func29 rfl ?_;refine xo rfl (mW (ek:=Value.string) (ev:=Value.int .i64)) ?_;rintro _ h3 ⟨rfl,hm3,e3,z3⟩;have k2:bh h2 h1.size 149 [.slice none 0 0,.slice none 0 0]:=k2;have e13:=e2.trans e3;have hz1:=e1.size;refine bf 1 rfl ?_;refine xo rfl (aq (vs:=[_]) func52 rfl H.Hu rfl (ah.br (qF ((htens.ay e1).ay e13) (Bf (bS.mv (cO.read (O:=fun _=>False) (h1:=fun _=>rfl) ho1 (fun _ _ k=>k)) (Mv.ay e13))) hi0.1 hi0.2))) ?_;rintro _ h4 ⟨rfl,e4⟩;have hm4:=hm3.ext e4 (fun k=>k);have z4:=e4.size;refine RW.b9 rfl rfl rfl (vG (v:=(0:Int)) jq underlying151 underlying9 rfl rfl rfl rfl rfl hm4 (rfl:kJ (bs (gz (l0.map Int.ofNat))) []=none)) ?_;rintro _ h5 ⟨rfl,hm5,x5,z5⟩;have hm5:fF Value.string (Value.int .i64) h5 h2.size (mh 0 [l0]):=hm5;have e05:aD h h5:=aD.only ((e1.trans e13).trans e4) x5 (by omega);have ho5:cO eG h5 h.size 3 (.slice wa l0.length wc) l0:=aR.ext x5 (cO.ay (cO.ay ho1 e13) e4) (fun b hb (e:b=h2.size)=>by have:=(aR.lt ho1 hb).2;omega);have k5:bh h5 h1.size 149 [.slice none 0 0,.slice none 0 0]:=((k2.ay e3).ay e4).ext x5 (by show ¬_=_;omega);refine aS 2 [0,2,3,4,5,6,18] rfl ?_;refine bp func29 1 rfl ?_;refine xo rfl (aA.aW (us:=[_]) underlying152 H.Gt rfl rfl (by decide) (by simp[Value.oneCell'])) ?_;rintro _ _ ⟨rfl,rfl⟩;refine aS 1 [0,2,3,4,5,6,7,18] rfl ?_;refine av rfl ?_;refine aY func29 1 [0,2,3,4,5,6,7,8,18] rfl ?_;refine G.block rfl rfl ?_;have e56:aD h5 (h5.push (.cells #[.slice wa l0.length wc] 127)):=Ext.push _ _ _
   have ls6:dU Cj (fun b=>¬dz (Value.slice wa l0.length wc).ownBlock b) (h5.push (.cells #[.slice wa l0.length wc] 127)) h.size 127 (.slice (some ⟨h5.size,0,none⟩) 1 1) [l0] :=
    dU.nN (e:=Cj) (cs:=[.slice wa l0.length wc]) ⟨_,rfl,aR.wF (h1:=fun _=>rfl) ho5 (fun b hb k=>k hb.symm)⟩ e05.size
   generalize h5.push (.cells #[.slice wa l0.length wc] 127)=h6 at *
   have mk6:iF h h6 (dz (Value.slice wa l0.length wc).ownBlock) h1.size h2.size (.slice (some ⟨h5.size,0,none⟩) 1 1) (.slice none 0 0) (.slice none 0 0) [l0] [] [] :=
    ⟨e05.trans e56,k5.ay e56,kK.nil _ _ _ _ _,cO.nil _ _ _ _,hm5.ext e56 (fun k=>k),ls6,fun b hb=>dL.ext (aR.ty ho5 hb.symm) e56 (fun k=>k),fun b hb=>(by cases hb),hz1,by omega⟩
   refine bD (σ:=Nat×Value) (fun q=>[(0,.pointer (some ⟨nb,0,none⟩)),(5,.pointer (some ⟨h1.size,0,none⟩)),(6,.map (some h2.size)),(7,q.2),(8,.int .i64 (q.1:Nat))]) (fun q h'=>∃C vn vr lists next rule,iF h h' C h1.size h2.size q.2 vn vr lists next rule/\q.1<=lists.length/\lists.length<=2000/\(next.length=q.1/\rule.length=q.1)/\(∀l∈lists,l.Sublist (List.range ss.length))/\res=(match jM ss (2002-q.1) q.1 lists next rule with|none=>.inl 70|some d=>.inr d)) (fun q=>2002-q.1) ((0,.slice (some ⟨h5.size,0,none⟩) 1 1)) rfl ⟨rfl,rfl,rfl,rfl,rfl,trivial⟩ ⟨_,_,_,[l0],[],[],mk6,Nat.zero_le _,by simp,⟨rfl,rfl⟩,fun l hl=>by simp at hl;subst hl;exact hsub0,hres'⟩ ?_;rintro⟨i,vl⟩ g ⟨C,vn,vr,lists,next,rule,mk,hi,hl2,⟨hnl,hrl⟩,hsl,hcon⟩ ih
   try dsimp only
   dsimp only at mk hi hnl hrl hcon;obtain⟨css,hc1,hc2,hc3⟩:=id mk.ls;obtain⟨la,lc,rfl,_⟩:=hc2.open;have hng:cy g O nb v ss st:=hn.ay mk.ext (fun _ _ k=>k);have mkg:=mk;refine av rfl ?_;refine bp func29 2 rfl ?_;refine xp rfl (aj.aK underlying152 rfl) ?_;refine aS 1 [0,5,6,7,8,30] rfl ?_;refine aO rfl rfl (fun hlt=>?_) (fun hlt=>?_)
   · have hil:i<lists.length:=by omega
     obtain⟨cur,hcur⟩:∃cur,lists[i]? =some cur:=⟨_,List.getElem?_eq_getElem hil⟩
     have hcsub:=hsl cur (List.mem_of_getElem? hcur);obtain⟨n,hnn⟩:∃n,2002-i=n+1:=⟨2001-i,by omega⟩
     rw[hnn,jM,hcur] at hcon;simp only at hcon;generalize hrow:kT ss cur 256 0 lists []=tgt at hcon;refine aB rfl ?_;refine av rfl ?_;refine G.block rfl rfl ?_;refine xr func29 rfl ?_;refine xo rfl (aA.aX H.CJ) ?_;rintro _ g1 ⟨rfl,kz,ez,zz⟩;have kz:bh g1 g.size 153 (([]:List Int).map (Value.int .i64)++List.replicate (256-0) (Value.int .i64 0)):=kz;have Hx:=mk.ay ez;have hvz:vn.ownBlock≠some g.size:=fun e=>by have:=(mk.DX _ e).lt;omega
     refine xd [0,5,6,7,8,9,30] rfl ?_;refine av rfl ?_;refine aY func29 1 [0,5,6,7,8,9,30,33] rfl ?_;refine G.block rfl rfl ?_;refine bD (σ:=Nat×Value) (fun q=>[(0,.pointer (some ⟨nb,0,none⟩)),(5,.pointer (some ⟨h1.size,0,none⟩)),(6,.map (some h2.size)),(7,q.2),(8,.int .i64 (i:Nat)),(9,.pointer (some ⟨g.size,0,none⟩)),(33,.int .i64 (q.1:Nat))]) (fun q h'=>∃C lists' row,iF h h' C h1.size h2.size q.2 vn vr lists' next rule/\(q.1<=256/\row.length=q.1/\lists'.length<=2000+q.1)/\bh h' g.size 153 (row.map (Value.int .i64)++List.replicate (256-q.1) (Value.int .i64 0))/\lists'[i]? =some cur/\(∀l∈lists',l.Sublist (List.range ss.length))/\kT ss cur (256-q.1) q.1 lists' row=tgt) (fun q=>256-q.1) ((0,.slice la lists.length lc)) rfl ⟨rfl,rfl,rfl,rfl,rfl,rfl,rfl,trivial⟩ ⟨C,lists,[],Hx,⟨Nat.zero_le _,rfl,by simp;omega⟩,kz,hcur,hsl,hrow⟩ ?_;rintro⟨b,vl⟩ g2 ⟨C,lists,row,mk,⟨hb,hrlen,hlb⟩,kz,hcur,hsl,hrow⟩ ih2
     try dsimp only
     dsimp only at mk hb hrlen hlb kz hrow;have hng:cy g2 O nb v ss st:=hn.ay mk.ext (fun _ _ k=>k);refine aY func29 1 [0,5,6,7,8,9,33,34] rfl ?_;refine av rfl ?_;refine aO rfl rfl (fun hb256=>?_) (fun hb256=>?_)
     · obtain⟨m,hm⟩:∃m,256-b=m+1:=⟨255-b,by omega⟩
       rw[hm,kT] at hrow;obtain⟨g',c',cs,hv',_,_,hrowv,_,⟨w,rfl,hw⟩,_⟩:=mk.ls.put hcur;subst hv';have hnlt:∀j∈cur,j<ss.length:=fun j hj=>List.mem_range.1 (hcsub.subset hj)
       have hcl:=hcsub.length_le;rw[List.length_range] at hcl;have hub:(UInt8.ofNat b).toNat=b:=by simp;omega
       have hwr:bS iC g2 (fun _=>False) w cur:=qh hw (fun _ k=>k.elim);have hstep:=BF (UInt8.ofNat b) hng hgood (by omega) hwr hnlt (by omega) (hpot _ _ hcsub);rw[hub] at hstep;have hlsub:=DD ss (UInt8.ofNat b) cur;refine aB rfl ?_;refine av rfl ?_;refine G.block rfl rfl ?_;refine aY func29 2 [0,5,6,7,8,9,10,33,34] rfl ?_;refine bp func29 3 rfl ?_;refine xp rfl (aj.ax underlying152 H.gN rfl rfl i rfl rfl (by have:=(List.getElem?_eq_some_iff.1 hcur).1;omega)) ?_;refine xp rfl (ai H.nV rfl (hrowv 0 _ rfl)) ?_;refine ct 1 rfl rfl (aj.yV underlying3 underlying5 rfl (wrap_u8 ⟨by omega,by omega⟩)) ?_;refine xo rfl (aq (vs:=[_,_,_]) func53 rfl H.LY rfl (ah.br (hstep))) ?_;rintro w11 g3 ⟨ho3,e3⟩;generalize hl:bg ss (UInt8.ofNat b) cur=l at *;have hsN:dS ss cur lists b=if l.length=0 then (lists,-1) else match nR 0 lists l with|some i=>(lists,(i:Int))|none=>(lists++[l],(lists.length:Int)):=by unfold dS;rw[hl]<;>rfl
       have hil:=hint l hlsub;obtain⟨l11a,l11c,rfl,_⟩:=(show aR g3 g2.size 3 1 w11 l.length (l.map eG) from ho3).open;have mk3:=mk.ay e3;have kz3:=kz.ay e3;have hkey:∀{gg:az},aD g3 gg->ah Tryz.prog 52 #[.slice l11a l.length l11c] gg (cT fun r h'=>r= .string (bs (yC l))/\aD gg h'):=fun e=>qF (htens.ay (mk3.ext.trans e)) (Bf (bS.mv (cO.read (O:=fun _=>False) (h1:=fun _=>rfl) ho3 (fun _ _ k=>k)) (Mv.ay e))) hil.1 hil.2
       refine aS 1 [0,5,6,7,8,9,10,11,33,34] rfl ?_;refine bp func29 2 rfl ?_;refine xo rfl (aq (vs:=[_]) func52 rfl H.Hu rfl (ah.br (hkey (Ext.refl _ _)))) ?_;rintro _ g4 ⟨rfl,e4⟩;have mk4:=mk3.ay e4;have kz4:=kz3.ay e4;refine xp rfl (aj.ug (z:=.int .i64 0) jq underlying151 underlying9 (by kernel_rfl) rfl rfl rfl mk4.mp) ?_;rw[vg];refine aS 5 [0,5,6,7,8,9,10,11,12,13,33,34] rfl ?_;refine av rfl ?_;refine G.block rfl rfl ?_;refine bp func29 1 rfl ?_;refine xp rfl (aj.aK underlying127 rfl) ?_;refine aS 2 [0,5,6,7,8,9,10,11,12,13,33,34,51] rfl ?_
       have fin:∀(to:Int) (vl2:Value) (h':az) (ρ':Env),Sub [(0,.pointer (some ⟨nb,0,none⟩)),(5,.pointer (some ⟨h1.size,0,none⟩)),(6,.map (some h2.size)),(7,vl2),(8,.int .i64 (i:Nat)),(9,.pointer (some ⟨g.size,0,none⟩)),(10,.int .i64 (b:Nat)),(12,.int .i64 to),(33,.int .i64 (b:Nat))] ρ'->(∃C2,iF h h' C2 h1.size h2.size vl2 vn vr (dS ss cur lists b).1 next rule)->to=(dS ss cur lists b).2->bh h' g.size 153 (row.map (Value.int .i64)++List.replicate (256-b) (Value.int .i64 0))->G Tryz.prog 29 f29 [.code [1,1,1,1,0,0,1,1,0,0,1,0,1,0,0,1,0,0,1,0,1,1,1,1,1,1],.blk 3,.code [1,1,1,0,0,1,0,1,0,0,1,0,0,1,0,1,1,1,1,1,1],.loop [0,0,1,0,1,0,0,1,0,0,1,0,1,1,1,1,1,1],.blk 2,.code [1,1,0,0,1,0,0,1,0,1,1,1,1,1,1],.blk 1,.code [1,1,0,0,1,0,1,1,1,1,1,1],.loop [0,0,1,0,1,1,1,1,1,1],.blk 0,.code [1,1,1,1,1,1,1]] ρ' h' (cT fun r h'=>zm res h' r/\aD h h'):=by
        rintro to vl2 g5 ρ' hsub ⟨C2,mk5⟩ hto kz5;refine G.sub (ρ':=[(0,.pointer (some ⟨nb,0,none⟩)),(5,.pointer (some ⟨h1.size,0,none⟩)),(6,.map (some h2.size)),(7,vl2),(8,.int .i64 (i:Nat)),(9,.pointer (some ⟨g.size,0,none⟩)),(10,.int .i64 (b:Nat)),(12,.int .i64 to),(33,.int .i64 (b:Nat))]) hsub ?_
        have hrs:(dS ss cur lists b).1.length<=lists.length+1/\(dS ss cur lists b).1[i]? =some cur/\∀x∈(dS ss cur lists b).1,x.Sublist (List.range ss.length):=by
         rw[hsN];split
         · exact⟨Nat.le_succ _,hcur,hsl⟩
         · split
           · exact⟨Nat.le_succ _,hcur,hsl⟩
           · refine⟨by simp,by rw[List.getElem?_append_left (List.getElem?_eq_some_iff.1 hcur).1];exact hcur,fun x hx=>?_⟩
             rcases List.mem_append.1 hx with k|k
             · exact hsl x k
             · have:x=l:=by simpa using k
               rw[this];exact hlsub
        have hcells:(row.map (Value.int .i64)++List.replicate (256-b) (Value.int .i64 0)).length=256:=by simp[hrlen];omega
        have hset:(row.map (Value.int .i64)++List.replicate (256-b) (Value.int .i64 0)).set (0+b*1) (.int .i64 to)=(row++[to]).map (Value.int .i64)++List.replicate (256-(b+1)) (Value.int .i64 0):=by
         rw[Nat.zero_add,Nat.mul_one,List.set_append_right _ _ (by simp;omega),show 256-b=(256-(b+1))+1 by omega,List.replicate_succ];have:b-(row.map (Value.int .i64)).length=0:=by simp;omega
         rw[this,List.set_cons_zero];simp
        have hblt:0+b*1<(row.map (Value.int .i64)++List.replicate (256-b) (Value.int .i64 0)).length:=by rw[hcells];omega
        refine G.cq func29 rfl ?_;refine ct 2 rfl rfl (aj.cK underlying153 H.bW rfl rfl b rfl (by omega)) ?_;refine RW.b9 rfl rfl rfl (cF H.bW rfl rfl rfl (kz5.cell (List.getElem?_eq_getElem hblt)) kz5.nf) ?_;rintro _ g6 ⟨rfl,hg6⟩;have k6:=kz5.set (0+b*1) (.int .i64 to);rw[<-hg6,hset] at k6;have x6:Ext (fun y=>y=g.size) g5 g6:=by rw[hg6];exact Ext.eB _ _ _ rfl
        have hzge:h.size<=g.size:=mkg.ext.size;have mk6:=mk5.put x6 kz5.ty hvz hzge;refine xd [0,5,6,7,8,9,10,12,33] rfl ?_;refine G.aQ ?_;refine G.cq func29 rfl ?_;refine xp rfl (aj.bC rfl rfl ⟨by omega,by omega⟩) ?_;refine aS 1 [0,5,6,7,8,9,10,12,33] rfl ?_;exact ih2 (b+1,vl2) _ _ ⟨rfl,rfl,rfl,rfl,rfl,rfl,rfl,trivial⟩ ⟨C2,_,row++[to],mk6,⟨by show b+1<=256;omega,by simp[hrlen],by show _<=2000+(b+1);omega⟩,k6,hrs.2.1,hrs.2.2,by show kT ss cur (256-(b+1)) (b+1) _ _=tgt;rw[show 256-(b+1)=m by omega,hto];exact hrow⟩ (by show 256-(b+1)<256-b;omega)
       refine aO rfl rfl (fun hz11=>?_) (fun hz11=>?_)
       · have hl0':l.length=0:=by omega
         refine G.cq func29 rfl ?_;refine aS 1 [0,5,6,7,8,9,10,11,12,13,33,34,51] rfl ?_;refine G.aQ ?_;exact fin (-1) _ _ _ ⟨rfl,rfl,rfl,rfl,rfl,rfl,rfl,rfl,rfl,trivial⟩ (by rw[hsN,if_pos hl0'];exact⟨C,mk4⟩) (by rw[hsN,if_pos hl0']) kz4
       · have hl0':¬l.length=0:=by omega
         rcases hfind:nR 0 lists l with _|j
         · refine aY func29 3 [0,5,6,7,8,9,10,11,12,13,33,34,51,55] rfl ?_;refine aG rfl rfl (fun _=>?_) (fun hc=>absurd hc (by simp));refine bp func29 1 rfl ?_;refine xp rfl (aj.aK underlying152 rfl) ?_;refine aS 1 [0,5,6,7,8,9,10,11,12,13,33,34,51,55] rfl ?_;refine bp func29 2 rfl ?_;refine xo rfl (aq (vs:=[_]) func52 rfl H.Hu rfl (ah.br (hkey e4))) ?_;rintro _ g5 ⟨rfl,e5⟩;have mk5:=mk4.ay e5;have hnone:kJ (bs (yC l)) (mh 0 lists)=none:=by rw[vg,hfind];rfl
           refine bf 1 rfl ?_;refine RW.b9 rfl rfl rfl (aA.mapUpdate (v:=(lists.length:Int)) jq underlying151 underlying9 rfl rfl rfl rfl rfl mk5.mp hnone) ?_;rintro _ g6 ⟨rfl,hm6,x6,z6⟩;have hm6:fF Value.string (Value.int .i64) g6 h2.size (mh 0 (lists++[l])):=by rw[wI,Nat.zero_add];exact hm6
           have mapne:∀{b:Nat}{t:TypeId},dL g5 b t->¬b=h2.size:=fun k e=>mk5.mp.ne k e.symm
           have e35:=e4.trans e5;have ho5w:cO eG g5 g2.size 3 (.slice l11a l.length l11c) l:=cO.ay ho3 e35;have kz5:=kz4.ay e5;have kz6:=kz5.ext x6 (mapne kz5.ty);have d6:=mk5.dblk.ext x6 (mapne mk5.dblk.ty);have nx6:=aR.ext x6 mk5.nx (fun b hb=>mapne (mk5.DX b hb));have ru6:=aR.ext x6 mk5.ru (fun b hb=>mapne (mk5.CU b hb));have ho6w:cO eG g6 g2.size 3 (.slice l11a l.length l11c) l:=aR.ext x6 ho5w (fun b hb=>mapne (aR.ty ho5w hb))
           have ls6:dU Cj (fun b=>¬(C b\/dz (Value.slice l11a l.length l11c).ownBlock b)) g6 h.size 127 (.slice (some ⟨g',0,none⟩) lists.length c') lists :=
            mk5.ls.pF x6 (fun b hb=>mapne (mk5.FU b hb)) (fun b _ hb hC=>mapne (mk5.cty b hC) hb) (fun b _ hb hC=>hb (.inl hC))
           have lty6:dL g6 g' 127:=(mk5.FU g' rfl).ext x6 (mapne (mk5.FU g' rfl));obtain⟨css,hc1,hc2,hc3⟩:=id ls6;have hz5:=mk5.ext.size;have hz2g:=mk.ext.size;refine xd [0,5,6,7,8,9,10,11,12,13,33,34,51,55] rfl ?_;refine G.cq func29 rfl ?_;refine bf 2 rfl ?_;refine xo rfl (aA.aW (us:=[_]) underlying152 H.Gt rfl rfl (by decide) (by simp[Value.oneCell'])) ?_;rintro _ _ ⟨rfl,rfl⟩;refine xo rfl (aA.bN underlying152 H.Gt rfl rfl (hc2) rfl rfl (by first|decide|simp[Value.oneCell']) (by omega) (by decide) (by omega)) ?_;rintro v7 g7 ⟨ho7,hx7,hx7',hv7⟩
           have lne:∀{b:Nat}{t:TypeId},dL g6 b t->127≠t->¬dz (Value.slice (some ⟨g',0,none⟩) lists.length c').ownBlock b:=fun k ht e=>by
            simp only[dz,Value.ownBlock,Option.some.injEq] at e;subst e;exact lty6.ne k ht rfl
           have hsz3:=e3.size;have hsz35:=e35.size;have ty6:∀{b:Nat}{t:TypeId},dL g5 b t->dL g6 b t:=fun k=>k.ext x6 (mapne k)
           have hls7:dU Cj (fun b=>¬(C b\/dz (Value.slice l11a l.length l11c).ownBlock b)) g7 h.size 127 v7 (lists++[l]) :=
            dU.iA (h:=g6) (v:=.slice (some ⟨g',0,none⟩) lists.length c') (css:=css) (cs:=[.slice l11a l.length l11c]) hc1 hc3 ho7 hx7 hv7 ⟨_,rfl,aR.wF (h1:=fun _=>rfl) ho6w (fun b hb k=>by
             rcases k with k|k
             · exact lne (aR.ty ho6w hb) (by decide) k
             · exact k (.inr hb.symm))⟩
           have hmb6:¬dz (Value.slice (some ⟨g',0,none⟩) lists.length c').ownBlock h2.size:=fun e=>by
            simp only[dz,Value.ownBlock,Option.some.injEq] at e;exact hm6.ne (e▸lty6) rfl
           have hext7:aD h g7:=⟨by have:=hx7.size;omega,fun b hb k=>by
            rw[hx7.block b (by omega) (fun e=>by
             simp only[dz,Value.ownBlock,Option.some.injEq] at e;have:=mk5.MR g' rfl;omega),x6.block b (by omega) (by have:=mk5.mge;omega)]
            exact mk5.ext.block b hb k⟩
           have mk7:iF h g7 (fun b=>C b\/dz (Value.slice l11a l.length l11c).ownBlock b) h1.size h2.size v7 vn vr (lists++[l]) next rule :=
            ⟨hext7,d6.ext hx7 (lne d6.ty (by decide)),aR.ext hx7 nx6 (fun b hb=>lne (aR.ty nx6 hb) (by decide)),aR.ext hx7 ru6 (fun b hb=>lne (aR.ty ru6 hb) (by decide)),hm6.ext hx7 hmb6,hls7,
             fun b hb=>by
              rcases hb with hb|hb
              · exact dL.ext (ty6 (mk5.cty b hb)) hx7 (lne (ty6 (mk5.cty b hb)) (by decide))
              · exact dL.ext (aR.ty ho6w hb.symm) hx7 (lne (aR.ty ho6w hb.symm) (by decide)),
             fun b hb hC=>by
              rcases hC with hC|hC
              · exact mk5.cr b hb hC
              · have h1':=(mk.CU b hb).lt;have h2':=(aR.lt ho6w hC.symm).1;omega,mk5.dge,mk5.mge⟩
           obtain⟨v7a,v7c,rfl,_⟩:=ho7.open;refine aS 1 [0,5,6,7,8,9,10,11,12,13,33,34,51,55] rfl ?_;refine G.aQ ?_;exact fin (lists.length:Int) _ _ _ ⟨rfl,rfl,rfl,rfl,rfl,rfl,rfl,rfl,rfl,trivial⟩ (by rw[hsN,if_neg hl0',hfind];exact⟨_,mk7⟩) (by rw[hsN,if_neg hl0',hfind]) (kz6.ext hx7 (lne kz6.ty (by decide)))
         · have hj:=oB lists 0 j l hfind;refine aY func29 3 [0,5,6,7,8,9,10,11,12,13,33,34,51,55] rfl ?_;refine aG rfl rfl (fun hc=>absurd hc (by simp)) (fun _=>?_);refine aB rfl ?_;refine G.aQ ?_;exact fin (j:Int) _ _ _ ⟨rfl,rfl,rfl,rfl,rfl,rfl,rfl,rfl,rfl,trivial⟩ (by rw[hsN,if_neg hl0',hfind];exact⟨C,mk4⟩) (by rw[hsN,if_neg hl0',hfind]) kz4
     · obtain rfl:b=256:=by omega
       rw[Nat.sub_self,kT] at hrow;subst hrow;simp only at hcon;obtain⟨css2,hd1,hd2,hd3⟩:=id mk.ls;obtain⟨la2,lc2,rfl,_⟩:=hd2.open;have hencr:cm (jC row)=row.map (Value.int .i64):=by rw[cm,sH hrlen]
       rw[Nat.sub_self,List.replicate_zero,List.append_nil,<-hencr] at kz;refine bw rfl rfl ?_;refine av rfl ?_;refine bp func29 1 rfl ?_;refine xp rfl (aj.aK underlying152 rfl) ?_;refine aS 1 [0,5,6,7,8,9,33,34,74] rfl ?_;refine aO rfl rfl (fun hbigl=>?_) (fun hbigl=>?_)
       · rw[if_pos (by omega)] at hcon;refine aY func29 2 [0,2,3,5,6,7,8,9,33,34,74] rfl ?_;refine G.ret func29 rfl rfl ?_;exact⟨_,rfl,by rw[hcon];rfl,mk.ext⟩
       · rw[if_neg (by omega)] at hcon
         have nne:∀{b:Nat}{t:TypeId},dL g2 b t->153≠t->¬(dz vn.ownBlock b\/Array.size g2<=b):=fun kt ht e=>by
          rcases e with e|e
          · exact(mk.DX _ e.symm).ne kt ht rfl
          · have:=kt.lt;omega
         have hzM:¬(dz vn.ownBlock g.size\/Array.size g2<=g.size):=by
          rintro(e|e)
          · exact hvz e.symm
          · have:=kz.lt;omega
         have hdM:=nne mk.dblk.ty (by decide);have hnx:aR g2 h.size 153 256 vn next.length (next.flatMap cm):=mk.nx
         have hone:∀u∈cm (jC row),u.oneCell'=true:=fun u hu=>by simp[cm] at hu;obtain⟨_,_,rfl⟩:=hu;rfl
         have hg2:=mk.ext.size;refine aB rfl ?_;refine av rfl ?_;refine bU (fun b=>dz vn.ownBlock b\/Array.size g2<=b) (fun i=>Nat.blt i 10) (sz:=11) (listed:= #[false,false,false,false,false,false,false,false,false,false,false]) func29 H.mixed rfl rfl rfl ?_;refine cJ 0 1 (by kernel_rfl) rfl ?_;refine cJ 1 3 (by kernel_rfl) rfl ?_;refine cJ 2 7 (by kernel_rfl) rfl ?_;refine bM 3 15 (by kernel_rfl) rfl (fun h' e=>af (off:=0) underlying149 rfl rfl H.jW rfl) ?_;refine bM 4 31 (by kernel_rfl) rfl (fun h' e=>ai H.qe rfl (e.cell hdM (mk.dblk.cell (i:=0) rfl))) ?_;refine bM 5 63 (by kernel_rfl) rfl (fun h' e=>aj.aH H.vp H.jV rfl (e.rowAt hzM kz.row) (by first|rfl|(simp;done)|(simp;omega))) ?_;refine eP 6 127 (by kernel_rfl) rfl (aA.cL (cs:=cm (jC row)) underlying147 H.Dg rfl (lu _) (by decide)) ?_;rintro _ _ ⟨rfl,rfl⟩;refine⟨fun _=>(Ext.push _ _ _),?_⟩;refine eP 7 255 (by kernel_rfl) rfl (aA.xD underlying147 H.Dg rfl rfl hnx rfl (by simp) hone (by simp only[maxLen];omega) (by omega) hg2) ?_;rintro v3 g3 ⟨ho3,hx3,hx3',hv3⟩;refine⟨fun _=>hx3'.mono (fun _ _ k=>.inl k),?_⟩;obtain⟨a3,c3,rfl,_⟩:=ho3.open;refine eP 8 511 (by kernel_rfl) rfl (aj.br (aM rfl)) ?_;rintro _ hq_ ⟨rfl,hqe_⟩;replace hqe_:=hqe_.symm;subst hqe_;refine⟨fun _=>Ext.refl _ _,?_⟩;refine bM 9 1023 (by kernel_rfl) rfl (fun h' e=>af (off:=0) underlying149 rfl rfl H.jW rfl) ?_;refine lW 10 2047 (by kernel_rfl) rfl (aA.bz H.jW rfl rfl (mk.dblk.ext hx3 (fun e=>hdM (.inl e))) (by first|decide|exact of_decide_eq_true rfl|(simp;done)|(simp;omega)) rfl) ?_;rintro _ g4 ⟨rfl,k4,x4,z4⟩;refine⟨fun hk=>(nomatch hk),?_⟩;have mk4:=mk.Jc (r:=jC row) rfl ho3 hx3 k4 x4;obtain⟨g',c',cs,hv',_,_,hrowv,_,⟨w,rfl,hw⟩,_⟩:=mk4.ls.put hcur;cases hv';have hng4:cy g4 O nb v ss st:=hn.ay mk4.ext (fun _ _ k=>k);have hwr:bS iC g4 (fun _=>False) w cur:=qh hw (fun _ k=>k.elim);have hnlt:∀j∈cur,j<ss.length:=fun j hj=>List.mem_range.1 (hcsub.subset hj)
         have hcl:=hcsub.length_le;rw[List.length_range] at hcl
         have rne:∀{b:Nat}{t:TypeId},dL g4 b t->3≠t->¬(dz vr.ownBlock b\/Array.size g4<=b):=fun kt ht e=>by
          rcases e with e|e
          · exact(mk4.CU _ e.symm).ne kt ht rfl
          · have:=kt.lt;omega
         have hdM4:=rne mk4.dblk.ty (by decide);have hlM4:=rne (mk4.FU g' rfl) (by decide);have hru:aR g4 h.size 3 1 vr rule.length (rule.map (Value.int .i64)):=mk4.ru;have hg4s:=mk4.ext.size;have hli:i<lists.length:=(List.getElem?_eq_some_iff.1 hcur).1;refine bB (by kernel_rfl) ?_;refine xu [0,5,6,7,8,9,33,34,74] rfl ?_;refine bU (fun b=>dz vr.ownBlock b\/Array.size g4<=b) (fun i=>Nat.blt i 15) (sz:=16) (listed:= #[false,false,false,false,false,false,false,false,false,false,false,false,false,false,false,false]) func29 H.mixed rfl rfl rfl ?_;refine cJ 0 1 (by kernel_rfl) rfl ?_;refine cJ 1 3 (by kernel_rfl) rfl ?_;refine cJ 2 7 (by kernel_rfl) rfl ?_;refine bM 3 15 (by kernel_rfl) rfl (fun h' e=>af (off:=1) underlying149 rfl rfl H.gN rfl) ?_;refine bM 4 31 (by kernel_rfl) rfl (fun h' e=>ai H.nV rfl (e.cell hdM4 (mk4.dblk.cell (i:=1) rfl))) ?_;refine cJ 5 63 (by kernel_rfl) rfl ?_;refine cJ 6 127 (by kernel_rfl) rfl ?_;refine cJ 7 255 (by kernel_rfl) rfl ?_;refine bM 8 511 (by kernel_rfl) rfl (fun h' e=>aj.ax underlying152 H.gN rfl rfl i rfl rfl (by omega)) ?_;refine bM 9 1023 (by kernel_rfl) rfl (fun h' e=>ai H.nV rfl (e.cell hlM4 (hrowv 0 _ rfl))) ?_;refine eP 10 2047 (by kernel_rfl) rfl (aq (vs:=[_,_]) func54 rfl H.LX rfl (ah.br (wh hng4 (by omega) hwr hnlt (by omega)))) ?_;rintro _ g5 ⟨rfl,hg5⟩;refine⟨fun _=>by subst hg5;exact Ext.refl _ _,?_⟩;subst hg5;refine eP 11 4095 (by kernel_rfl) rfl (aA.aW (us:=[_]) underlying127 H.pV rfl rfl (by decide) (by simp[Value.oneCell'])) ?_;rintro _ _ ⟨rfl,rfl⟩;refine⟨fun _=>by first|exact Ext.push _ _ _|assumption,?_⟩;refine eP 12 8191 (by kernel_rfl) rfl (aA.bN underlying127 H.pV rfl rfl (hru) rfl rfl (by first|decide|simp[Value.oneCell']) (by omega) (by decide) (by omega)) ?_;rintro v6 g6 ⟨ho6,hx6,hx6',hv6⟩;refine⟨fun _=>hx6'.mono (fun _ _ k=>.inl k),?_⟩;obtain⟨a6,c6,rfl,_⟩:=ho6.open;refine eP 13 16383 (by kernel_rfl) rfl (aj.br (aM rfl)) ?_;rintro _ hq_ ⟨rfl,hqe_⟩;replace hqe_:=hqe_.symm;subst hqe_;refine⟨fun _=>Ext.refl _ _,?_⟩;refine bM 14 32767 (by kernel_rfl) rfl (fun h' e=>af (off:=1) underlying149 rfl rfl H.gN rfl) ?_;refine lW 15 65535 (by kernel_rfl) rfl (aA.bz H.gN rfl rfl (mk4.dblk.ext hx6 (fun e=>hdM4 (.inl e))) (by first|decide|exact of_decide_eq_true rfl|(simp;done)|(simp;omega)) rfl) ?_;rintro _ g7 ⟨rfl,k7,x7,z7⟩;refine⟨fun hk=>(nomatch hk),?_⟩;have mk7:=mk4.Jb (x:=aJ ss cur) rfl ho6 hx6 hv6 k7 x7;refine bB (by kernel_rfl) ?_;refine xu [0,5,6,7,8,9,33,34,74] rfl ?_;refine G.aQ ?_;refine G.cq func29 rfl ?_;refine ct 1 rfl rfl (aj.bC rfl rfl ⟨by omega,by omega⟩) ?_;refine aS 1 [0,5,6,7,8,9,33,34,74] rfl ?_;exact ih (i+1,_) _ _ ⟨rfl,rfl,rfl,rfl,rfl,trivial⟩ ⟨C,_,_,lists,next++[jC row],rule++[aJ ss cur],mk7,by show i+1<=lists.length;omega,by omega,⟨by simp[hnl],by simp[hrl]⟩,hsl,by rw[hcon,show 2002-(i+1)=n by omega]⟩ (by show 2002-(i+1)<2002-i;omega)
   · have hie:i=lists.length:=by omega
     have hnone:lists[i]? =none:=List.getElem?_eq_none (by omega);obtain⟨n,hnn⟩:∃n,2002-i=n+1:=⟨2001-i,by omega⟩
     rw[hnn,jM,hnone] at hcon;simp only at hcon;refine bw rfl rfl ?_;refine aY func29 3 [0,2,3,5,6,7,8,30] rfl ?_;refine G.ret func29 rfl rfl ?_;refine⟨_,rfl,?_,mk.ext⟩;rw[hcon];exact⟨h1.size,rfl,vn,vr,mk.dblk,kK.read mk.nx (fun _ _ k=>k),cO.read (h1:=fun _=>rfl) mk.ru (fun _ _ k=>k)⟩
end Go.Proofs.YtmehdcdbeafljaaGreatDoor
namespace Go.Proofs.YtmehdcdbeafljaaGreatDoor
open Go
def cg.row (d:cg) (k:Nat):List Int:=match d.next[k]? with|some r=>r.v|none=>[]
def gm (out:List Bool) (t:Int):Bool:=decide (0<=t) && out.getD t.toNat false
def dR (d:cg) (out:List Bool) (k:Nat):Bool:=decide (0<=d.ru k) ||(d.row k).any (gm out)
def cA (d:cg):Nat->Nat->List Bool->Bool->List Bool×Bool
 | 0,_,out,ag=>(out,ag)
 |n+1,k,out,ag=>if out.getD k false=true then cA d n (k+1) out ag else cA d n (k+1) (out.set k (dR d out k)) (ag ||dR d out k)
def gq (out:List Bool):Nat:=(out.filter fun b=> !b).length
def pH (d:cg):Nat->List Bool->List Bool
 | 0,out=>out
 |n+1,out=>if (cA d d.next.length 0 out false).2=true then pH d n (cA d d.next.length 0 out false).1 else (cA d d.next.length 0 out false).1
def bH (d:cg):List Bool:=pH d (d.next.length+1) (List.replicate d.next.length false)
theorem uP:∀(out:List Bool) (k:Nat) (b:Bool),out[k]? =some false->gq (out.set k b)+(if b then 1 else 0)=gq out
 | [],k,b,h=>by simp at h
 |x::r,0,b,h=>by simp at h;subst h;cases b<;>simp[gq]
 |x::r,k+1,b,h=>by
  have:=uP r k b (by simpa using h);unfold gq at this ⊢;rw[List.set_cons_succ];cases x<;>simp at this ⊢ <;>omega
theorem gI (d:cg):∀(n k:Nat) (out:List Bool) (ag:Bool),(cA d n k out ag).1.length=out.length
 | 0,_,_,_=>rfl
 |n+1,k,out,ag=>by
  rw[cA];split
  · exact gI d n _ _ _
  · rw[gI d n];simp
theorem ig (d:cg):∀(n k:Nat) (out:List Bool) (ag:Bool),k+n<=out.length->gq (cA d n k out ag).1<=gq out/\((cA d n k out ag).2=true->ag=true\/gq (cA d n k out ag).1<gq out)
 | 0,_,out,ag,_=>⟨Nat.le_refl _,fun h=>.inl h⟩
 |n+1,k,out,ag,hk=>by
  rw[cA];split
  · exact ig d n (k+1) out ag (by omega)
  · rename_i h
    have hf:out[k]? =some false:=by
     rw[List.getD_eq_getElem?_getD,List.getElem?_eq_getElem (by omega)] at h;rw[List.getElem?_eq_getElem (by omega)];simpa using h
    have h1:=uP out k (dR d out k) hf;have h2:=ig d n (k+1) (out.set k (dR d out k)) (ag ||dR d out k) (by simp;omega);refine⟨by omega,fun ht=>?_⟩
    rcases h2.2 ht with h3|h3
    · cases hb:dR d out k with
      |true=>rw[hb,if_pos rfl] at h1;right;rw[hb] at h2;omega
      |false=>rw[hb,Bool.or_false] at h3;exact .inl h3
    · right;omega
end Go.Proofs.YtmehdcdbeafljaaGreatDoor
namespace Go.Proofs.YtmehdcdbeafljaaGreatDoor
open Go.Proofs.Tryz
open Go Go.Lw
set_option maxRecDepth 20000
theorem An (r:Row):over (List.replicate 256 (Value.int .i64 0)) 0 (cm r)=cm r:=by
 unfold over;rw[List.take_zero,List.nil_append,lu,List.drop_of_length_le (by simp),List.append_nil]
theorem B3 {h:az}{db:Nat}{d:cg}(k:nW h db d) (hok:d.Ok) :
 ah Tryz.prog 56 #[.pointer (some ⟨db,0,none⟩)] h (cT fun r h'=>cO Value.bool h' h.size 4 r (bH d)/\aD h h'):=by
 obtain⟨vn,vr,hk,⟨na,nn,nc,rfl,hnl,hnc,hnm,hgetn⟩,⟨ra,rn,rc,rfl,hrl,hrc,hrm,hgetr⟩⟩:=k;have hlen:=hok.len;have hsize:=hok.size;have hslN:bS Dh h (fun _=>False) (.slice na nn nc) d.next:=⟨_,_,_,rfl,hnl,hnc,hnm,hgetn⟩
 have hslR:bS (.int .i64) h (fun _=>False) (.slice ra rn rc) d.rule:=⟨_,_,_,rfl,hrl,hrc,hrm,hgetr⟩
 subst hnl;generalize htgt:bH d=tgt;refine ah.of func56 rfl rfl ?_;refine aY func56 1 [0,2] rfl ?_;refine bp func56 2 rfl ?_;refine xp rfl (af (off:=0) underlying149 rfl rfl H.jW rfl) ?_;refine xp rfl (ai H.qe rfl (hk.cell (i:=0) rfl)) ?_;refine xp rfl (aj.aK underlying147 rfl) ?_;refine xo rfl (aA.pG underlying157 H.My H.Mq rfl rfl rfl (by omega) (by decide)) ?_;rintro _ h1 ⟨rfl,k1,e1⟩;have k1:cO Value.bool h1 h.size 4 (.slice (some ⟨h.size,0,none⟩) d.next.length d.next.length) (List.replicate d.next.length false):=by unfold cO;simpa using k1
 have hf0:gq (List.replicate d.next.length false)<=d.next.length:=by unfold gq;exact Nat.le_trans (List.length_filter_le _ _) (by simp)
 refine aS 1 [0,2,3] rfl ?_;refine av rfl ?_;refine aY func56 1 [0,2,3,4] rfl ?_;refine G.block rfl rfl ?_;refine bD (σ:=Nat×Bool×List Bool) (fun q=>[(0,.pointer (some ⟨db,0,none⟩)),(3,.slice (some ⟨h.size,0,none⟩) d.next.length d.next.length),(4,.bool q.2.1)]) (fun q h'=>aD h h'/\cO Value.bool h' h.size 4 (.slice (some ⟨h.size,0,none⟩) d.next.length d.next.length) q.2.2/\q.2.2.length=d.next.length/\(q.2.1=true->gq q.2.2<q.1/\pH d q.1 q.2.2=tgt)/\(q.2.1=false->q.2.2=tgt)) (fun q=>q.1+(if q.2.1 then 1 else 0)) ((d.next.length+1,true,List.replicate d.next.length false)) rfl ⟨rfl,rfl,rfl,trivial⟩ ⟨e1,k1,by simp,fun _=>⟨Nat.lt_succ_of_le hf0,htgt⟩,fun k=>(by cases k)⟩ ?_;rintro⟨n,ag,out⟩ g ⟨eg,ho,hol,hT,hF⟩ ih
 try dsimp only
 dsimp only at ho hol hT hF;refine av rfl ?_;refine aY func56 1 [0,3,4,15] rfl ?_;refine aG rfl rfl (fun hag=>?_) (fun hag=>?_)
 · subst hag;obtain⟨hfn,hcon⟩:=hT rfl;obtain⟨n,rfl⟩:∃m,n=m+1:=⟨n-1,by omega⟩
   rw[pH] at hcon;have hless:=ig d d.next.length 0 out false (by omega)
   generalize hps:cA d d.next.length 0 out false=ps at hcon hless
   refine aB rfl ?_;refine G.block rfl rfl ?_;refine aY func56 1 [0,3,4,15] rfl ?_;refine bp func56 2 rfl ?_;refine xp rfl (af (off:=0) underlying149 rfl rfl H.jW rfl) ?_;refine xp rfl (ai H.qe rfl ((hk.ay eg).cell (i:=0) rfl)) ?_;refine xp rfl (aj.aK underlying147 rfl) ?_;refine aS 1 [0,3,4,15,19,20,21] rfl ?_;refine G.block rfl rfl ?_;refine bD (σ:=Nat×Bool×List Bool) (fun q=>[(0,.pointer (some ⟨db,0,none⟩)),(3,.slice (some ⟨h.size,0,none⟩) d.next.length d.next.length),(4,.bool q.2.1),(19,.slice na d.next.length nc),(20,.int .i64 (d.next.length:Nat)),(21,.int .i64 (q.1:Nat))]) (fun q h'=>aD h h'/\cO Value.bool h' h.size 4 (.slice (some ⟨h.size,0,none⟩) d.next.length d.next.length) q.2.2/\q.2.2.length=d.next.length/\q.1<=d.next.length/\cA d (d.next.length-q.1) q.1 q.2.2 q.2.1=ps) (fun q=>d.next.length-q.1) ((0,false,out)) rfl ⟨rfl,rfl,rfl,rfl,rfl,rfl,trivial⟩ ⟨eg,ho,hol,Nat.zero_le _,hps⟩ ?_;rintro⟨k,ag,out⟩ g2 ⟨eg2,ho,hol,hkl,hcon2⟩ ih2
   try dsimp only
   dsimp only at ho hol hkl hcon2;refine aY func56 1 [0,3,4,19,20,21,22] rfl ?_;refine av rfl ?_;refine aO rfl rfl (fun hlt=>?_) (fun hlt=>?_)
   · have hkN:k<d.next.length:=by omega
     obtain⟨m,hm⟩:∃m,d.next.length-k=m+1:=⟨d.next.length-k-1,by omega⟩
     rw[hm,cA] at hcon2;obtain⟨r,hr⟩:∃r,d.next[k]? =some r:=⟨_,List.getElem?_eq_getElem hkN⟩
     obtain⟨oa',n',c',hv',_,_,_,hgetn⟩:=id (hslN.mv (Mv.ay eg2));cases hv';obtain⟨b1,o1,cs1,ha1,_,hrow1,rfl⟩:=hgetn k r hr;have hone:∀u∈cm r,u.oneCell'=true:=fun u hu=>by simp[cm] at hu;obtain⟨_,_,rfl⟩:=hu;rfl
     obtain⟨bx,hbx⟩:∃bx,out[k]? =some bx:=⟨_,List.getElem?_eq_getElem (by omega)⟩
     have hgd:out.getD k false=bx:=by rw[List.getD_eq_getElem?_getD,hbx];rfl
     rw[hgd] at hcon2;refine aB rfl ?_;refine av rfl ?_;refine G.block rfl rfl ?_;refine bp func56 1 rfl ?_;refine xp rfl (aj.ax underlying147 H.jV rfl rfl k rfl ha1 (by omega)) ?_;refine xp rfl (aj.aH H.vp H.jV rfl hrow1 (by first|rfl|(simp;done)|(simp;omega))) ?_;refine xo rfl (aA.aX H.CJ) ?_;rintro _ g3 ⟨rfl,k6,e3,z3⟩;have k6:bh g3 g2.size 153 (List.replicate 256 (Value.int .i64 0)):=k6;refine bf 1 rfl ?_;refine RW.b9 rfl rfl rfl (aA.aC H.jV rfl rfl k6 (by first|rfl|(simp;done)|(simp;omega)) (by first|decide|exact of_decide_eq_true rfl|(simp;done)|(simp;omega)) (hone)) ?_;rintro _ g4 ⟨rfl,k7,x7,z7⟩;have k7:bh g4 g2.size 153 (cm r):=by rw[<-An r];exact k7
     have e4:aD g2 g4:=aD.only e3 x7 (Nat.le_refl _);have eg4:=eg2.trans e4;have ho4:=cO.ay ho e4;obtain⟨gg,c4,hv4,hgb,hglt,hcell,hfz,hset⟩:=ho4.at hbx;rw[hol] at hv4;cases hv4;refine xd [0,3,4,5,6,19,20,21,22] rfl ?_;refine av rfl ?_;refine bp func56 2 rfl ?_;refine xp rfl (aj.ax underlying157 H.lT rfl rfl k rfl rfl (by omega)) ?_;refine xp rfl (ai H.vk rfl hcell) ?_;refine xd [0,3,4,5,6,19,20,21,22,29] rfl ?_;refine aG rfl rfl (fun hb=>?_) (fun hb=>?_)
     · subst hb;rw[if_pos rfl] at hcon2;refine bw rfl rfl ?_;refine G.cq func56 rfl ?_;refine xp rfl (aj.bC rfl rfl ⟨by omega,by omega⟩) ?_;refine aS 1 [0,3,4,5,6,19,20,21,22,29] rfl ?_;exact ih2 (k+1,ag,out) _ _ ⟨rfl,rfl,rfl,rfl,rfl,rfl,trivial⟩ ⟨eg4,ho4,hol,hkN,by show cA d (d.next.length-(k+1)) _ _ _=ps;rw[show d.next.length-(k+1)=m by omega];exact hcon2⟩ (by show d.next.length-(k+1)<d.next.length-k;omega)
     · subst hb;rw[if_neg (by decide)] at hcon2;obtain⟨x,hx⟩:∃x,d.rule[k]? =some x:=⟨_,List.getElem?_eq_getElem (by omega)⟩
       have hru:d.ru k=x:=by unfold cg.ru;rw[List.getD_eq_getElem?_getD,hx];rfl
       have hrow:d.row k=r.v:=by unfold cg.row;rw[hr]
       obtain⟨oa',n',c',hv',_,_,_,hgetr⟩:=id (hslR.mv (Mv.ay eg4));cases hv';obtain⟨b2,o2,cs2,ha2,_,hrow2,rfl⟩:=hgetr k x hx;refine aB rfl ?_;refine bp func56 4 rfl ?_;refine xp rfl (af (off:=1) underlying149 rfl rfl H.gN rfl) ?_;refine xp rfl (ai H.nV rfl ((hk.ay eg4).cell (i:=1) rfl)) ?_;refine ct 1 rfl rfl (aj.ax underlying127 H.bW rfl rfl k rfl ha2 (by omega)) ?_;refine xp rfl (ai H.cM rfl (hrow2 0 _ rfl)) ?_;refine ct 1 rfl rfl (aj.ax underlying157 H.lT rfl rfl k rfl rfl (by omega)) ?_;refine RW.b9 rfl rfl rfl (cF H.lT rfl rfl rfl hcell hfz) ?_;rintro _ g5 ⟨rfl,hg5⟩;have hset:=hset (decide (0<=x));rw[<-hg5] at hset;have x5:Ext (fun b=>b=h.size) g4 g5:=by rw[hg5];exact Ext.eB _ _ _ rfl
       have e5:aD h g5:=aD.only eg4 x5 (Nat.le_refl _);have hz2:=eg2.size;have hlt2:h.size<g2.size:=(aR.lt ho rfl).2;have k8:=k7.ext x5 (by show ¬_=_;omega);refine xd [0,3,4,5,6,19,20,21,22,29] rfl ?_;refine av rfl ?_;refine xr func56 rfl ?_;refine xp rfl (aj.aH H.vp H.jV rfl k8.row (by first|rfl|(simp;done)|(simp;omega))) ?_;refine aS 1 [0,3,4,5,6,19,20,21,22,29,41,42] rfl ?_;refine G.block rfl rfl ?_;refine bD (σ:=Nat) (fun j=>[(0,.pointer (some ⟨db,0,none⟩)),(3,.slice (some ⟨h.size,0,none⟩) d.next.length d.next.length),(4,.bool ag),(5,.int .i64 (k:Nat)),(19,.slice na d.next.length nc),(20,.int .i64 (d.next.length:Nat)),(21,.int .i64 (k:Nat)),(41,.agg (cm r).toArray),(42,.int .i64 (j:Nat))]) (fun j h'=>aD h h'/\cO Value.bool h' h.size 4 (.slice (some ⟨h.size,0,none⟩) d.next.length d.next.length) (out.set k (decide (0<=x) ||(r.v.take j).any (gm out)))/\j<=256) (fun j=>256-j) (0) rfl ⟨rfl,rfl,rfl,rfl,rfl,rfl,rfl,rfl,rfl,trivial⟩ ⟨e5,by simpa using hset,Nat.zero_le _⟩ ?_;rintro j g6 ⟨eg6,ho6,hj⟩ ih3;refine aY func56 1 [0,3,4,5,19,20,21,41,42,43] rfl ?_;refine av rfl ?_;refine aO rfl rfl (fun hlt3=>?_) (fun hlt3=>?_)
       · have hj2:j<256:=by omega
         obtain⟨t,ht⟩:∃t,r.v[j]? =some t:=⟨_,List.getElem?_eq_getElem (by rw[r.len];exact hj2)⟩
         have htr:(r.v.take (j+1)).any (gm out)=((r.v.take j).any (gm out) ||gm out t):=by rw[List.take_add_one,ht,List.any_append];simp
         have htm:=hok.to r (List.mem_of_getElem? hr) t (List.mem_of_getElem? ht);generalize hc:(decide (0<=x) ||(r.v.take j).any (gm out))=cb at ho6;have hcell6:(out.set k cb)[k]? =some cb:=by rw[List.getElem?_set_self (by rw[hol];exact hkN)]
         obtain⟨gg,c6,hv6,_,_,hcc6,hfz6,hset6⟩:=ho6.at hcell6;rw[List.length_set,hol] at hv6;cases hv6
         have fin:∀y g7,y=(decide (0<=x) ||(r.v.take (j+1)).any (gm out))->g7=eB g6 ⟨h.size,0+k*1,none⟩ (.bool y)->aD h g7/\cO Value.bool g7 h.size 4 (.slice (some ⟨h.size,0,none⟩) d.next.length d.next.length) (out.set k (decide (0<=x) ||(r.v.take (j+1)).any (gm out)))/\j+1<=256:=by
          rintro y g7 rfl rfl;have k9:=hset6 (decide (0<=x) ||(r.v.take (j+1)).any (gm out));rw[List.set_set] at k9;exact⟨aD.only eg6 (Ext.eB (M:=fun b=>b=h.size) g6 _ _ rfl) (Nat.le_refl _),k9,hj2⟩
         refine aB rfl ?_;refine av rfl ?_;refine G.block rfl rfl ?_;refine xr func56 rfl ?_;refine xp rfl (aj.uD underlying153 H.bW H.cM rfl rfl j rfl hj2 (show (cm r).toArray[j]? =some (Value.int .i64 t) by simp[cm,ht])) ?_;refine aS 1 [0,3,4,5,8,19,20,21,41,42,43] rfl ?_;refine G.cq func56 rfl ?_;refine ct 4 rfl rfl (aj.ax underlying157 H.lT rfl rfl k rfl rfl (by omega)) ?_;refine xp rfl (ai H.vk rfl hcc6) ?_;refine bf 1 rfl ?_;refine aN (d:=51) rfl (fun hg=>?_) (fun hg=>?_)
         · refine ct 9 rfl rfl (aj.ax underlying157 H.lT rfl rfl k rfl rfl (by omega)) ?_;refine RW.b9 rfl rfl rfl (cF H.lT rfl rfl rfl hcc6 hfz6) ?_;rintro _ g7 ⟨rfl,hg7⟩;refine xd [0,3,4,5,8,19,20,21,41,42,43] rfl ?_;refine G.aQ ?_;refine G.cq func56 rfl ?_;refine xp rfl (aj.bC rfl rfl ⟨by omega,by omega⟩) ?_;refine aS 1 [0,3,4,5,8,19,20,21,41,42,43] rfl ?_;exact ih3 (j+1) _ _ ⟨rfl,rfl,rfl,rfl,rfl,rfl,rfl,rfl,rfl,trivial⟩ (fin true g7 (by rw[htr,<-Bool.or_assoc,hc,hg];rfl) hg7) (by omega)
         · refine bf 3 rfl ?_;refine aN (d:=54) rfl (fun hg2=>?_) (fun hg2=>?_)
           · have hg2':=of_decide_eq_true hg2;obtain⟨t2,rfl⟩:=Int.eq_ofNat_of_zero_le hg2';obtain⟨bt,hbt⟩:∃bt,(out.set k cb)[t2]? =some bt:=⟨_,List.getElem?_eq_getElem (by rw[List.length_set,hol];omega)⟩
             obtain⟨gg,c6,hv6,_,_,hct,_,_⟩:=ho6.at hbt;rw[List.length_set,hol] at hv6;cases hv6
             have hlt2:gm out (t2:Nat)=bt:=by
              unfold gm;rw[decide_eq_true (show (0:Int)<=(t2:Nat) by omega),Bool.true_and,Int.toNat_natCast,List.getD_eq_getElem?_getD]
              by_cases e:k=t2
              · subst e;rw[hcell6] at hbt;cases hbt;rw[hbx,hg];rfl
              · rw[List.getElem?_set_ne e] at hbt;rw[hbt];rfl
             refine ct 2 rfl rfl (aj.ax underlying157 H.lT rfl rfl t2 rfl rfl (by omega)) ?_;refine xp rfl (ai H.vk rfl hct) ?_;refine ct 2 rfl rfl (aj.ax underlying157 H.lT rfl rfl k rfl rfl (by omega)) ?_;refine RW.b9 rfl rfl rfl (cF H.lT rfl rfl rfl hcc6 hfz6) ?_;rintro _ g7 ⟨rfl,hg7⟩;refine xd [0,3,4,5,8,19,20,21,41,42,43] rfl ?_;refine G.aQ ?_;refine G.cq func56 rfl ?_;refine xp rfl (aj.bC rfl rfl ⟨by omega,by omega⟩) ?_;refine aS 1 [0,3,4,5,8,19,20,21,41,42,43] rfl ?_;exact ih3 (j+1) _ _ ⟨rfl,rfl,rfl,rfl,rfl,rfl,rfl,rfl,rfl,trivial⟩ (fin bt g7 (by rw[htr,<-Bool.or_assoc,hc,hg,hlt2,Bool.false_or]) hg7) (by omega)
           · have hg2':=of_decide_eq_false hg2;refine ct 6 rfl rfl (aj.ax underlying157 H.lT rfl rfl k rfl rfl (by omega)) ?_;refine RW.b9 rfl rfl rfl (cF H.lT rfl rfl rfl hcc6 hfz6) ?_;rintro _ g7 ⟨rfl,hg7⟩;refine xd [0,3,4,5,8,19,20,21,41,42,43] rfl ?_;refine G.aQ ?_;refine G.cq func56 rfl ?_;refine xp rfl (aj.bC rfl rfl ⟨by omega,by omega⟩) ?_;refine aS 1 [0,3,4,5,8,19,20,21,41,42,43] rfl ?_;exact ih3 (j+1) _ _ ⟨rfl,rfl,rfl,rfl,rfl,rfl,rfl,rfl,rfl,trivial⟩ (fin false g7 (by rw[htr,<-Bool.or_assoc,hc,hg];unfold gm;rw[decide_eq_false hg2'];rfl) hg7) (by omega)
       · have hje:j=256:=by omega
         have hla:(decide (0<=x) ||(r.v.take j).any (gm out))=dR d out k:=by
          unfold dR;rw[hru,hrow,hje,List.take_of_length_le (by rw[r.len];exact Nat.le_refl _)]
         rw[hla] at ho6;have hcell6:(out.set k (dR d out k))[k]? =some (dR d out k):=by rw[List.getElem?_set_self (by rw[hol];exact hkN)]
         obtain⟨gg,c6,hv6,_,_,hcc6,hfz6,_⟩:=ho6.at hcell6;rw[List.length_set,hol] at hv6;cases hv6;refine bw rfl rfl ?_;refine G.bE [(4,.bool (ag ||dR d out k))] [(0,_),(3,_),(5,_),(19,_),(20,_),(21,_),(41,_),(42,_),(43,_)] ⟨rfl,rfl,rfl,rfl,rfl,rfl,rfl,rfl,rfl,trivial⟩ func56 rfl ?_ ?_
         · refine bf 2 rfl ?_;refine aN (d:=64) rfl (fun hg=>?_) (fun hg=>?_)
           · refine bf 6 rfl ?_;refine aE rfl ?_;exact⟨rfl,aF rfl (by rw[hg];rfl),rfl,rfl,rfl,rfl,rfl,rfl,rfl,rfl,rfl,trivial⟩
           · refine ct 2 rfl rfl (aj.ax underlying157 H.lT rfl rfl k rfl rfl (by omega)) ?_;refine xp rfl (ai H.vk rfl hcc6) ?_;refine bf 2 rfl ?_;refine aE rfl ?_;exact⟨rfl,aF rfl (by rw[hg];rfl),rfl,rfl,rfl,rfl,rfl,rfl,rfl,rfl,rfl,trivial⟩
         · refine G.aQ ?_;refine G.cq func56 rfl ?_;refine xp rfl (aj.bC rfl rfl ⟨by omega,by omega⟩) ?_;refine aS 1 [0,3,4,5,19,20,21,41,42,43] rfl ?_;exact ih2 (k+1,ag ||dR d out k,out.set k (dR d out k)) _ _ ⟨rfl,rfl,rfl,rfl,rfl,rfl,trivial⟩ ⟨eg6,ho6,by show (out.set k _).length=_;rw[List.length_set];exact hol,hkN,by show cA d (d.next.length-(k+1)) _ _ _=ps;rw[show d.next.length-(k+1)=m by omega];exact hcon2⟩ (by show d.next.length-(k+1)<d.next.length-k;omega)
   · have hke:d.next.length-k=0:=by omega
     rw[hke,cA] at hcon2;subst hcon2;simp only at hcon hless;refine bw rfl rfl ?_;refine G.aQ ?_
     exact ih (n,ag,out) _ _ ⟨rfl,rfl,rfl,trivial⟩ ⟨eg2,ho,hol,fun ht=>by
      subst ht;rw[if_pos rfl] at hcon
      rcases hless.2 rfl with k|k
      · cases k
      · exact⟨by show gq out<n;omega,hcon⟩,fun hf=>by
      subst hf;rw[if_neg (by decide)] at hcon;exact hcon⟩ (by show n+(if ag=true then 1 else 0)<n+1+(if true=true then 1 else 0);rw[if_pos rfl];split<;>omega)
 · subst hag;have hcon:=hF rfl;refine bw rfl rfl ?_;refine aY func56 2 [0,2,3,4,15] rfl ?_;refine G.ret func56 rfl rfl ?_;exact⟨_,rfl,by rw[<-hcon];unfold cO at ho ⊢;rw[hol] at ho ⊢;exact ho,eg⟩
end Go.Proofs.YtmehdcdbeafljaaGreatDoor
namespace Go.Proofs.YtmehdcdbeafljaaGreatDoor
open Go
def jE:Nat->List (List Int)->List Int->Option Nat
 |_,[],_=>none
 |i,x::r,l=>if l=x then some i else jE (i+1) r l
theorem oC:∀(ls:List (List Int)) (i j:Nat) (l:List Int),jE i ls l=some j->i<=j/\ls[j-i]? =some l
 | [],i,j,l,h=>by cases h
 |x::r,i,j,l,h=>by
  rw[jE] at h;split at h
  · rename_i e;cases h;subst e;exact⟨Nat.le_refl _,by simp⟩
  · have:=oC r (i+1) j l h;refine⟨by omega,?_⟩;rw[show j-i=(j-(i+1))+1 by omega,List.getElem?_cons_succ];exact this.2
def cG (live:List Bool) (cls:List Int) (t:Int):Int:=if t<0\/live.getD t.toNat false=false then -2 else cls.getD t.toNat 0
def fA (d:cg) (live:List Bool) (cls:List Int) (k:Nat):List Int:=cls.getD k 0::(d.row k).map (cG live cls)
def bF (d:cg) (live:List Bool) (cls:List Int):Nat->Nat->List (List Int)->List Int->List (List Int)×List Int
 | 0,_,seen,after=>(seen,after)
 |n+1,k,seen,after =>
  match jE 0 seen (fA d live cls k) with
  |some i=>bF d live cls n (k+1) seen (after++[(i:Int)])
  |none=>bF d live cls n (k+1) (seen++[fA d live cls k]) (after++[(seen.length:Int)])
def jP (d:cg) (live:List Bool):Nat->Nat->List Int->List Int
 | 0,_,cls=>cls
 |n+1,many,cls =>
  if (bF d live cls d.next.length 0 [] []).1.length=many then (bF d live cls d.next.length 0 [] []).2
  else jP d live n (bF d live cls d.next.length 0 [] []).1.length (bF d live cls d.next.length 0 [] []).2
def ei (d:cg) (live:List Bool):List Int:=jP d live (d.next.length+1) 0 d.rule
def js (m:Nat) (l:List Int):Prop:=∀i,i<m->(i:Int)∈l
theorem oH:∀(m:Nat) (l:List Int),js m l->m<=l.length
 | 0,_,_=>Nat.zero_le _
 |m+1,l,h=>by
  have hm:=h m (Nat.lt_succ_self m);have h1:js m (l.erase (m:Int)):=fun i hi=>(List.mem_erase_of_ne (by omega)).2 (h i (by omega))
  have h2:=oH m _ h1;have h3:=List.length_erase_of_mem hm;have h4:0<l.length:=List.length_pos_of_mem hm;omega
structure CA (d:cg) (live:List Bool) (cls:List Int) (k:Nat) (seen:List (List Int)) (after:List Int):Prop where
 len:after.length=k
 size:seen.length<=k
 nums:js seen.length after
 bound:∀x∈after,0<=x/\x<seen.length
 all:∀j,j<k->fA d live cls j∈seen
theorem lB {d:cg}{live:List Bool}{cls:List Int}:∀(n k:Nat) (seen:List (List Int)) (after:List Int),CA d live cls k seen after->CA d live cls (k+n) (bF d live cls n k seen after).1 (bF d live cls n k seen after).2
 | 0,k,seen,after,h=>h
 |n+1,k,seen,after,h=>by
  rw[bF,show k+(n+1)=(k+1)+n by omega];split
  · rename_i i hi;have hi':=oC seen 0 i _ hi;have hil:=(List.getElem?_eq_some_iff.1 hi'.2).1
    exact lB n (k+1) _ _ ⟨by simp[h.len],by have:=h.size;omega,fun j hj=>List.mem_append_left _ (h.nums j hj),fun x hx=>by
     rcases List.mem_append.1 hx with e|e
     · exact h.bound x e
     · have:x=(i:Int):=by simpa using e
       rw[this];omega,fun j hj=>by
     by_cases e:j=k
     · subst e;exact List.mem_of_getElem? hi'.2
     · exact h.all j (by omega)⟩
  · exact lB n (k+1) _ _ ⟨by simp[h.len],by have:=h.size;simp;omega,fun j hj=>by
     simp only[List.length_append,List.length_singleton] at hj
     by_cases e:j=seen.length
     · subst e;simp
     · exact List.mem_append_left _ (h.nums j (by omega)),fun x hx=>by
     simp only[List.length_append,List.length_singleton]
     rcases List.mem_append.1 hx with e|e
     · have:=h.bound x e;omega
     · have:x=(seen.length:Int):=by simpa using e
       omega,fun j hj=>by
     by_cases e:j=k
     · subst e;simp
     · exact List.mem_append_left _ (h.all j (by omega))⟩
theorem eZ (d:cg) (live:List Bool) (cls:List Int):CA d live cls d.next.length (bF d live cls d.next.length 0 [] []).1 (bF d live cls d.next.length 0 [] []).2:=by
 have:=lB (d:=d) (live:=live) (cls:=cls) d.next.length 0 [] [] ⟨rfl,Nat.le_refl _,fun i hi=>absurd hi (Nat.not_lt_zero _),fun x hx=>(by cases hx),fun j hj=>absurd hj (Nat.not_lt_zero _)⟩
 rwa [Nat.zero_add] at this
theorem mN {d:cg}{live:List Bool}{cls:List Int}{many:Nat}(hc:js many cls) (hl:cls.length=d.next.length):many<=(bF d live cls d.next.length 0 [] []).1.length:=by
 have h:=eZ d live cls
 have:js many ((bF d live cls d.next.length 0 [] []).1.map fun s=>s.getD 0 0):=fun i hi=>by
  obtain⟨k,hk⟩:=List.getElem?_of_mem (hc i hi);have hkl:=(List.getElem?_eq_some_iff.1 hk).1;have:=h.all k (by omega);refine List.mem_map.2 ⟨_,this,?_⟩;simp[fA,List.getD_eq_getElem?_getD,hk]
 have:=oH _ _ this;simpa using this
end Go.Proofs.YtmehdcdbeafljaaGreatDoor
namespace Go.Proofs.YtmehdcdbeafljaaGreatDoor
open Go.Proofs.Tryz
open Go Go.Lw
set_option maxRecDepth 20000
section
variable {live:List Bool}{cls:List Int}
def gO:Nat->List (List Int)->List (ByteArray×Int)
 |_,[]=>[]
 |i,x::r=>(bs (gz x),(i:Int))::gO (i+1) r
theorem tH:∀(ls:List (List Int)) (i:Nat) (l:List Int),gO i (ls++[l])=gO i ls++[(bs (gz l),((i+ls.length:Nat):Int))]
 | [],i,l=>by simp[gO]
 |x::r,i,l=>by
  simp only[List.cons_append,gO];rw[tH r (i+1) l,List.length_cons,show i+1+r.length=i+(r.length+1) by omega]
theorem qw:∀(ls:List (List Int)) (i:Nat),(gO i ls).length=ls.length
 | [],_=>rfl
 |x::r,i=>by rw[gO,List.length_cons,List.length_cons,qw r (i+1)]
theorem kF:∀(ls:List (List Int)) (i:Nat) (l:List Int),kJ (bs (gz l)) (gO i ls)=(jE i ls l).map fun j=>(j:Int)
 | [],i,l=>rfl
 |x::r,i,l=>by
  rw[gO,kJ,jE]
  by_cases h:l=x
  · subst h;rw[if_pos rfl,if_pos rfl];rfl
  · have hk:¬bs (gz l)=bs (gz x):=fun e=>h (key_inj (eK e))
    rw[if_neg hk,if_neg h];exact kF r (i+1) l
theorem u7 {t:Int}(h:t<0\/live.getD t.toNat false=false):cG live cls t= -2:=if_pos h
theorem Cr {t:Int}(h:¬(t<0\/live.getD t.toNat false=false)):cG live cls t=cls.getD t.toNat 0:=if_neg h
theorem rJ (hcb:∀x∈cls,-1<=x/\x<=1000000) (k:Nat) : -1<=cls.getD k 0/\cls.getD k 0<=1000000:=by
 rw[List.getD_eq_getElem?_getD];cases hk:cls[k]? with
 |none=>simp
 |some x=>exact hcb x (List.mem_of_getElem? hk)
theorem xV {d:cg}(hcb:∀x∈cls,-1<=x/\x<=1000000) (k:Nat):∀x∈fA d live cls k,-9223372036854775808<=x/\x<=9223372036854775807:=by
 intro x hx
 rcases List.mem_cons.1 hx with e|e
 · have:=rJ hcb k;omega
 · obtain⟨t,_,rfl⟩:=List.mem_map.1 e;unfold cG;split
   · omega
   · have:=rJ hcb t.toNat;omega
theorem uM:∀(ls:List (List Int)) (i:Nat) (l:List Int),jE i ls l=none->jE i (ls++[l]) l=some (i+ls.length)
 | [],i,l,_=>by simp[jE]
 |x::r,i,l,h=>by
  rw[jE] at h;split at h
  · cases h
  · rename_i hn;rw[List.cons_append,jE,if_neg hn,uM r (i+1) l h,List.length_cons]
    congr 1;omega
theorem vX {h:az}{db:Nat}{d:cg}{lv:Value}(htens:sy h) (k:nW h db d) (hok:d.Ok) (hlv:bS .bool h (fun _=>False) lv live) (hll:live.length=d.next.length) :
 ah Tryz.prog 57 #[.pointer (some ⟨db,0,none⟩),lv] h (cT fun r h'=>cO (Value.int .i64) h' h.size 3 r (ei d live)/\aD h h'):=by
 obtain⟨vn,vr,hk,⟨na,nn,nc,rfl,hnl,hnc,hnm,hgetn⟩,⟨ra,rn,rc,rfl,hrl,hrc,hrm,hgetr⟩⟩:=k;obtain⟨va,vm,vc,rfl,hvl,hvc,hvm,hgetv⟩:=hlv;have hlen:=hok.len;have hsize:=hok.size;have hslN:bS Dh h (fun _=>False) (.slice na nn nc) d.next:=⟨_,_,_,rfl,hnl,hnc,hnm,hgetn⟩
 have hslR:bS (.int .i64) h (fun _=>False) (.slice ra rn rc) d.rule:=⟨_,_,_,rfl,hrl,hrc,hrm,hgetr⟩
 have hslV:bS .bool h (fun _=>False) (.slice va vm vc) live:=⟨_,_,_,rfl,hvl,hvc,hvm,hgetv⟩
 subst hnl;generalize htgt:ei d live=tgt;refine ah.of func57 rfl rfl ?_;refine aY func57 1 [0,1,4] rfl ?_;refine bp func57 2 rfl ?_;refine xp rfl (af (off:=0) underlying149 rfl rfl H.jW rfl) ?_;refine xp rfl (ai H.qe rfl (hk.cell (i:=0) rfl)) ?_;refine xp rfl (aj.aK underlying147 rfl) ?_;refine xo rfl (aA.pG underlying127 H.pV H.Lp rfl rfl rfl (by omega) (by decide)) ?_;rintro _ h1 ⟨rfl,k1,e1⟩;have k1:cO (Value.int .i64) h1 h.size 3 (.slice (some ⟨h.size,0,none⟩) d.next.length d.next.length) (List.replicate d.next.length 0):=by unfold cO;simpa using k1
 refine aS 1 [0,1,4,5] rfl ?_;refine av rfl ?_;refine bp func57 1 rfl ?_;refine xp rfl (aj.aK underlying127 rfl) ?_;refine aS 1 [0,1,4,5,25,26] rfl ?_;refine G.block rfl rfl ?_;refine bD (σ:=Nat) (fun i=>[(0,.pointer (some ⟨db,0,none⟩)),(1,.slice va vm vc),(5,.slice (some ⟨h.size,0,none⟩) d.next.length d.next.length),(25,.int .i64 (d.next.length:Nat)),(26,.int .i64 (i:Nat))]) (fun i h'=>aD h h'/\cO (Value.int .i64) h' h.size 3 (.slice (some ⟨h.size,0,none⟩) d.next.length d.next.length) (d.rule.take i++List.replicate (d.next.length-i) 0)/\i<=d.next.length) (fun i=>d.next.length-i) (0) rfl ⟨rfl,rfl,rfl,rfl,rfl,trivial⟩ ⟨e1,by simpa using k1,Nat.zero_le _⟩ ?_;rintro i g ⟨eg,ho,hi⟩ ih;refine aY func57 1 [0,1,5,25,26,27] rfl ?_;refine av rfl ?_;refine aO rfl rfl (fun hlt=>?_) (fun hlt=>?_)
 · have hiN:i<d.next.length:=by omega
   obtain⟨x,hx⟩:∃x,d.rule[i]? =some x:=⟨_,List.getElem?_eq_getElem (by omega)⟩
   have hxe:d.rule[i]'(by omega)=x:=(List.getElem?_eq_some_iff.1 hx).2;obtain⟨oa',n',c',hv',_,_,_,hgetr⟩:=id (hslR.mv (Mv.ay eg));cases hv';obtain⟨b2,o2,cs2,ha2,_,hrow2,rfl⟩:=hgetr i x hx;obtain⟨gg,c4,hv4,hgb,hglt,hcell,hfz,hset⟩:=ho.at (Gm (z:=(0:Int)) hlen hiN);rw[Gl hlen hi] at hv4;cases hv4;refine aB rfl ?_;refine av rfl ?_;refine G.block rfl rfl ?_;refine aY func57 2 [0,1,5,6,25,26,27] rfl ?_;refine G.cq func57 rfl ?_;refine ct 4 rfl rfl (af (off:=1) underlying149 rfl rfl H.gN rfl) ?_;refine xp rfl (ai H.nV rfl ((hk.ay eg).cell (i:=1) rfl)) ?_;refine ct 1 rfl rfl (aj.ax underlying127 H.bW rfl rfl i rfl ha2 (by omega)) ?_;refine xp rfl (ai H.cM rfl (hrow2 0 _ rfl)) ?_;refine xp rfl (aj.ax underlying127 H.bW rfl rfl i rfl rfl (by omega)) ?_;refine RW.b9 rfl rfl rfl (cF H.bW rfl rfl rfl hcell hfz) ?_;rintro _ g2 ⟨rfl,hg2⟩;have hset:=hset x;rw[<-hg2,<-hxe,Gk hlen hiN] at hset;have x2:Ext (fun b=>b=h.size) g g2:=by rw[hg2];exact Ext.eB _ _ _ rfl
   have e2:aD h g2:=aD.only eg x2 (Nat.le_refl _);refine xd [0,1,5,6,25,26,27] rfl ?_;refine G.aQ ?_;refine G.cq func57 rfl ?_;refine xp rfl (aj.bC rfl rfl ⟨by omega,by omega⟩) ?_;refine aS 1 [0,1,5,6,25,26,27] rfl ?_;exact ih (i+1) _ _ ⟨rfl,rfl,rfl,rfl,rfl,trivial⟩ ⟨e2,hset,hiN⟩ (by show d.next.length-(i+1)<d.next.length-i;omega)
 · obtain rfl:i=d.next.length:=by omega
   rw[Nat.sub_self,List.replicate_zero,List.append_nil,List.take_of_length_le (by omega)] at ho;refine bw rfl rfl ?_;refine aY func57 1 [0,1,5,7,25,26,27] rfl ?_;refine G.block rfl rfl ?_;refine bD (σ:=Nat×Nat×Value×List Int) (fun q=>[(0,.pointer (some ⟨db,0,none⟩)),(1,.slice va vm vc),(5,q.2.2.1),(7,.int .i64 (q.2.1:Nat))]) (fun q h'=>aD h h'/\cO (Value.int .i64) h' h.size 3 q.2.2.1 q.2.2.2/\q.2.2.2.length=d.next.length/\(∀x∈q.2.2.2,-1<=x/\x<=1000000)/\(q.2.1<=d.next.length/\js q.2.1 q.2.2.2/\d.next.length+1<=q.1+q.2.1)/\jP d live q.1 q.2.1 q.2.2.2=tgt) (fun q=>q.1) ((d.next.length+1,0,.slice (some ⟨h.size,0,none⟩) d.next.length d.next.length,d.rule)) rfl ⟨rfl,rfl,rfl,rfl,trivial⟩ ⟨eg,ho,hlen,hok.ru,⟨Nat.zero_le _,fun i hi=>absurd hi (Nat.not_lt_zero _),by simp⟩,htgt⟩ ?_;rintro⟨n,many,vcl,cls⟩ g ⟨eg,ho,hcl,hcb,⟨hmN,hcov,hfuel⟩,hcon⟩ ih
   try dsimp only
   dsimp only at ho hcl hcb hmN hcov hfuel hcon;obtain⟨n,rfl⟩:∃m,n=m+1:=⟨n-1,by omega⟩
   rw[jP] at hcon;have hmore:=mN (d:=d) (live:=live) hcov hcl;have hend:=eZ d live cls;generalize hps:bF d live cls d.next.length 0 [] []=ps at hcon hmore hend
   obtain⟨la,lc,rfl,_⟩:=(show aR g h.size 3 1 vcl cls.length (cls.map (Value.int .i64)) from ho).open;rw[hcl] at ho;have hown:∀b,(Value.slice la d.next.length lc).ownBlock=some b->b<g.size:=fun b hb=>(aR.lt ho hb).2
   rw[hcl];refine G.block rfl rfl ?_;refine xr func57 rfl ?_;refine xo rfl (mW (ek:=Value.string) (ev:=Value.int .i64)) ?_;rintro _ g1 ⟨rfl,hm1,e1',z1⟩;refine aS 1 [0,1,5,7,8] rfl ?_;refine bp func57 1 rfl ?_;refine xp rfl (aj.aK underlying127 rfl) ?_;refine xo rfl (aA.pG underlying127 H.pV H.Lp rfl rfl rfl (by omega) (by decide)) ?_;rintro _ g2 ⟨rfl,k2,e2⟩;have k2:cO (Value.int .i64) g2 g1.size 3 (.slice (some ⟨g1.size,0,none⟩) d.next.length d.next.length) (List.replicate d.next.length 0):=by unfold cO;simpa using k2
   have hm2:=hm1.ext e2 (fun k=>k);have e12:=e1'.trans e2;refine aS 1 [0,1,5,7,8,9] rfl ?_;refine av rfl ?_;refine bp func57 2 rfl ?_;refine xp rfl (af (off:=0) underlying149 rfl rfl H.jW rfl) ?_;refine xp rfl (ai H.qe rfl ((hk.ay (eg.trans e12)).cell (i:=0) rfl)) ?_;refine xp rfl (aj.aK underlying147 rfl) ?_;refine aS 1 [0,1,5,7,8,9,47,48,49] rfl ?_;refine G.block rfl rfl ?_;refine bD (σ:=Nat×List (List Int)×List Int) (fun q=>[(0,.pointer (some ⟨db,0,none⟩)),(1,.slice va vm vc),(5,.slice la d.next.length lc),(7,.int .i64 (many:Nat)),(8,.map (some g.size)),(9,.slice (some ⟨g1.size,0,none⟩) d.next.length d.next.length),(47,.slice na d.next.length nc),(48,.int .i64 (d.next.length:Nat)),(49,.int .i64 (q.1:Nat))]) (fun q h'=>aD g h'/\fF Value.string (Value.int .i64) h' g.size (gO 0 q.2.1)/\cO (Value.int .i64) h' g1.size 3 (.slice (some ⟨g1.size,0,none⟩) d.next.length d.next.length) (q.2.2++List.replicate (d.next.length-q.1) 0)/\(q.1<=d.next.length/\q.2.2.length=q.1/\q.2.1.length<=q.1)/\bF d live cls (d.next.length-q.1) q.1 q.2.1 q.2.2=ps) (fun q=>d.next.length-q.1) ((0,[],[])) rfl ⟨rfl,rfl,rfl,rfl,rfl,rfl,rfl,rfl,rfl,trivial⟩ ⟨e12,hm2,k2,⟨Nat.zero_le _,rfl,Nat.le_refl _⟩,hps⟩ ?_;rintro⟨k,seen,after⟩ g3 ⟨e3,hmp,haf,⟨hkN,hal,hsl⟩,hcon2⟩ ih2
   try dsimp only
   dsimp only at hmp haf hkN hal hsl hcon2;have eg3:=eg.trans e3;have ho3:=cO.ay ho e3;refine aY func57 1 [0,1,5,7,8,9,47,48,49,50] rfl ?_;refine av rfl ?_;refine aO rfl rfl (fun hlt=>?_) (fun hlt=>?_)
   · have hkN:k<d.next.length:=by omega
     obtain⟨m,hm⟩:∃m,d.next.length-k=m+1:=⟨d.next.length-k-1,by omega⟩
     rw[hm,bF] at hcon2;obtain⟨r,hr⟩:∃r,d.next[k]? =some r:=⟨_,List.getElem?_eq_getElem hkN⟩
     obtain⟨oa',n',c',hv',_,_,_,hgetn⟩:=id (hslN.mv (Mv.ay eg3));cases hv';obtain⟨b1,o1,cs1,ha1,_,hrow1,rfl⟩:=hgetn k r hr;have hone:∀u∈cm r,u.oneCell'=true:=fun u hu=>by simp[cm] at hu;obtain⟨_,_,rfl⟩:=hu;rfl
     have hrow:d.row k=r.v:=by unfold cg.row;rw[hr]
     refine aB rfl ?_;refine av rfl ?_;refine G.block rfl rfl ?_;refine bp func57 1 rfl ?_;refine xp rfl (aj.ax underlying147 H.jV rfl rfl k rfl ha1 (by omega)) ?_;refine xp rfl (aj.aH H.vp H.jV rfl hrow1 (by first|rfl|(simp;done)|(simp;omega))) ?_;refine xo rfl (aA.aX H.CJ) ?_;rintro _ g4 ⟨rfl,k4,e4,z4⟩;have k4:bh g4 g3.size 153 (List.replicate 256 (Value.int .i64 0)):=k4;refine bf 1 rfl ?_;refine RW.b9 rfl rfl rfl (aA.aC H.jV rfl rfl k4 (by first|rfl|(simp;done)|(simp;omega)) (by first|decide|exact of_decide_eq_true rfl|(simp;done)|(simp;omega)) (hone)) ?_;rintro _ g5 ⟨rfl,k5,x5,z5⟩;have k5:bh g5 g3.size 153 (cm r):=by rw[<-An r];exact k5
     have e5:aD g3 g5:=aD.only e4 x5 (Nat.le_refl _);have ho5:=cO.ay ho3 e5;obtain⟨c,hc⟩:∃c,cls[k]? =some c:=⟨_,List.getElem?_eq_getElem (by omega)⟩
     have hgd:cls.getD k 0=c:=by rw[List.getD_eq_getElem?_getD,hc];rfl
     obtain⟨gg,c4,hv4,hgb,hglt,hcell,hfz,hset⟩:=ho5.at hc;rw[hcl] at hv4;have hla:la=some ⟨gg,0,none⟩:=by cases hv4;rfl
     refine xd [0,1,5,7,8,9,10,11,47,48,49,50] rfl ?_;refine bp func57 2 rfl ?_;refine xp rfl (aj.ax underlying127 H.bW rfl rfl k rfl hla (by omega)) ?_;refine xp rfl (ai H.cM rfl hcell) ?_;have e56:aD g5 (g5.push (.cells #[.int .i64 c] 3)):=Ext.push _ _ _;have hl6:cO (Value.int .i64) (g5.push (.cells #[.int .i64 c] 3)) g5.size 3 (.slice (some ⟨g5.size,0,none⟩) 1 1) [c]:=jo (Value.int .i64) g5 3 [c] 1 rfl (by decide) g5.size (Nat.le_refl _) rfl;refine xo rfl (aA.aW (us:=[_]) underlying127 H.pV rfl rfl (by decide) (by simp[Value.oneCell'])) ?_;rintro _ _ ⟨rfl,rfl⟩;refine aS 1 [0,1,5,7,8,9,10,11,12,47,48,49,50] rfl ?_;refine av rfl ?_;refine xr func57 rfl ?_;generalize g5.push (.cells #[.int .i64 c] 3)=g6 at *;have k6:=k5.ay e56;have e36:aD g3 g6:=e5.trans e56;have ho6:=cO.ay ho5 e56;have hz5:=e5.size;refine xp rfl (aj.aH H.vp H.jV rfl k6.row (by first|rfl|(simp;done)|(simp;omega))) ?_;refine aS 1 [0,1,5,7,8,9,10,11,12,47,48,49,50,59,60] rfl ?_;refine G.block rfl rfl ?_;refine bD (σ:=Nat×Value) (fun q=>[(0,.pointer (some ⟨db,0,none⟩)),(1,.slice va vm vc),(5,.slice la d.next.length lc),(7,.int .i64 (many:Nat)),(8,.map (some g.size)),(9,.slice (some ⟨g1.size,0,none⟩) d.next.length d.next.length),(10,.int .i64 (k:Nat)),(12,q.2),(47,.slice na d.next.length nc),(48,.int .i64 (d.next.length:Nat)),(49,.int .i64 (k:Nat)),(59,.agg (cm r).toArray),(60,.int .i64 (q.1:Nat))]) (fun q h'=>aD g3 h'/\cO (Value.int .i64) h' g5.size 3 q.2 (c::(r.v.take q.1).map (cG live cls))/\q.1<=256/\g5.size<=h'.size) (fun q=>256-q.1) ((0,.slice (some ⟨g5.size,0,none⟩) 1 1)) rfl ⟨rfl,rfl,rfl,rfl,rfl,rfl,rfl,rfl,rfl,rfl,rfl,rfl,rfl,trivial⟩ ⟨e36,hl6,Nat.zero_le _,e56.size⟩ ?_;rintro⟨j,vl⟩ g7 ⟨e7,hl7,hj,hz7⟩ ih3
     try dsimp only
     dsimp only at hl7 hj;have eg7:=eg3.trans e7;have ho7:=cO.ay ho3 e7;have hlen7:(c::(r.v.take j).map (cG live cls)).length=j+1:=by simp[r.len];omega
     refine aY func57 1 [0,1,5,7,8,9,10,12,47,48,49,59,60,61] rfl ?_;refine av rfl ?_;refine aO rfl rfl (fun hlt3=>?_) (fun hlt3=>?_)
     · have hj2:j<256:=by omega
       obtain⟨t,ht⟩:∃t,r.v[j]? =some t:=⟨_,List.getElem?_eq_getElem (by rw[r.len];exact hj2)⟩
       have htm:=hok.to r (List.mem_of_getElem? hr) t (List.mem_of_getElem? ht);have htr:c::(r.v.take (j+1)).map (cG live cls)=(c::(r.v.take j).map (cG live cls))++[cG live cls t]:=by rw[List.take_add_one,ht];simp
       have hlo:aR g7 g5.size 3 1 vl (c::(r.v.take j).map (cG live cls)).length ((c::(r.v.take j).map (cG live cls)).map (Value.int .i64)):=hl7;have hlo2:=hlo;rw[hlen7] at hlo2;obtain⟨wa,wc,rfl,_⟩:=hlo2.open;have hl8:cO (Value.int .i64) g7 g5.size 3 (.slice wa (j+1) wc) (c::(r.v.take j).map (cG live cls)):=hl7
       have fin:∀v8 g8 x,aR g8 g5.size 3 1 v8 (j+1+1) ((c::(r.v.take j).map (cG live cls)).map (Value.int .i64)++[.int .i64 x])->Ext (dz (Value.slice wa (j+1) wc).ownBlock) g7 g8->x=cG live cls t->aD g3 g8/\cO (Value.int .i64) g8 g5.size 3 v8 (c::(r.v.take (j+1)).map (cG live cls))/\j+1<=256/\g5.size<=g8.size:=by
        rintro v8 g8 x ho hx rfl;refine⟨cO.grown e7 hl8 hz5 hx,?_,hj2,Nat.le_trans hz7 hx.size⟩;rw[htr];exact cO.of ho hlen7.symm rfl rfl
       refine aB rfl ?_;refine av rfl ?_;refine G.block rfl rfl ?_;refine xr func57 rfl ?_;refine xp rfl (aj.uD underlying153 H.bW H.cM rfl rfl j rfl hj2 (show (cm r).toArray[j]? =some (Value.int .i64 t) by simp[cm,ht])) ?_;refine aS 1 [0,1,5,7,8,9,10,12,14,47,48,49,59,60,61] rfl ?_;refine bp func57 3 rfl ?_;refine aN (d:=65) rfl (fun hg=>?_) (fun hg=>?_)
       · have hg':=of_decide_eq_true hg;refine aS 6 [0,1,5,7,8,9,10,12,14,47,48,49,59,60,61,71] rfl ?_;refine aG rfl rfl (fun _=>?_) (fun hc=>absurd hc (by simp));refine G.cq func57 rfl ?_;refine bf 1 rfl ?_;refine xo rfl (aA.aW (us:=[_]) underlying127 H.pV rfl rfl (by decide) (by simp[Value.oneCell'])) ?_;rintro _ _ ⟨rfl,rfl⟩;refine xo rfl (aA.bN underlying127 H.pV rfl rfl (hlo2) rfl rfl (by first|decide|simp[Value.oneCell']) (by omega) (by decide) (by omega)) ?_;rintro v8 g8 ⟨ho8,hx8,hx8',hv8⟩;have ff:=fin v8 g8 (-2) ho8 hx8 (u7 (.inl hg')).symm;obtain⟨v8a,v8c,rfl,_⟩:=ho8.open;refine aS 1 [0,1,5,7,8,9,10,12,14,47,48,49,59,60,61,71] rfl ?_;refine G.aQ ?_;refine G.cq func57 rfl ?_;refine xp rfl (aj.bC rfl rfl ⟨by omega,by omega⟩) ?_;refine aS 1 [0,1,5,7,8,9,10,12,14,47,48,49,59,60,61,71] rfl ?_;exact ih3 (j+1,_) _ _ ⟨rfl,rfl,rfl,rfl,rfl,rfl,rfl,rfl,rfl,rfl,rfl,rfl,rfl,trivial⟩ ff (by show 256-(j+1)<256-j;omega)
       · have hg':=of_decide_eq_false hg;obtain⟨t2,rfl⟩:=Int.eq_ofNat_of_zero_le (show 0<=t by omega);obtain⟨bt,hbt⟩:∃bt,live[t2]? =some bt:=⟨_,List.getElem?_eq_getElem (by omega)⟩
         have hlt2:live.getD t2 false=bt:=by rw[List.getD_eq_getElem?_getD,hbt];rfl
         obtain⟨oa',n',c',hv',_,_,_,hgetv⟩:=id (hslV.mv (Mv.ay eg7));cases hv';obtain⟨b3,o3,cs3,ha3,_,hrow3,rfl⟩:=hgetv t2 bt hbt;refine ct 2 rfl rfl (aj.ax underlying157 H.lT rfl rfl t2 rfl ha3 (by omega)) ?_;refine xp rfl (ai H.vk rfl (hrow3 0 _ rfl)) ?_;refine aS 2 [0,1,5,7,8,9,10,12,14,47,48,49,59,60,61,71] rfl ?_;refine aG rfl rfl (fun hb=>?_) (fun hb=>?_)
         · have hb':bt=false:=by simpa using hb
           refine G.cq func57 rfl ?_;refine bf 1 rfl ?_;refine xo rfl (aA.aW (us:=[_]) underlying127 H.pV rfl rfl (by decide) (by simp[Value.oneCell'])) ?_;rintro _ _ ⟨rfl,rfl⟩;refine xo rfl (aA.bN underlying127 H.pV rfl rfl (hlo2) rfl rfl (by first|decide|simp[Value.oneCell']) (by omega) (by decide) (by omega)) ?_;rintro v8 g8 ⟨ho8,hx8,hx8',hv8⟩;have ff:=fin v8 g8 (-2) ho8 hx8 (u7 (.inr (by show live.getD t2 false=false;rw[hlt2,hb']))).symm;obtain⟨v8a,v8c,rfl,_⟩:=ho8.open;refine aS 1 [0,1,5,7,8,9,10,12,14,47,48,49,59,60,61,71] rfl ?_;refine G.aQ ?_;refine G.cq func57 rfl ?_;refine xp rfl (aj.bC rfl rfl ⟨by omega,by omega⟩) ?_;refine aS 1 [0,1,5,7,8,9,10,12,14,47,48,49,59,60,61,71] rfl ?_;exact ih3 (j+1,_) _ _ ⟨rfl,rfl,rfl,rfl,rfl,rfl,rfl,rfl,rfl,rfl,rfl,rfl,rfl,trivial⟩ ff (by show 256-(j+1)<256-j;omega)
         · have hb':bt=true:=by simpa using hb
           obtain⟨c2,hc2⟩:∃c2,cls[t2]? =some c2:=⟨_,List.getElem?_eq_getElem (by omega)⟩
           have hgd2:cls.getD t2 0=c2:=by rw[List.getD_eq_getElem?_getD,hc2];rfl
           obtain⟨gg2,c42,hv42,hgb2,hglt2,hcell2,hfz2,hset2⟩:=ho7.at hc2;rw[hcl] at hv42;have hla2:la=some ⟨gg2,0,none⟩:=by cases hv42;rfl
           refine G.cq func57 rfl ?_;refine ct 3 rfl rfl (aj.ax underlying127 H.bW rfl rfl t2 rfl hla2 (by omega)) ?_;refine xp rfl (ai H.cM rfl hcell2) ?_;refine xo rfl (aA.aW (us:=[_]) underlying127 H.pV rfl rfl (by decide) (by simp[Value.oneCell'])) ?_;rintro _ _ ⟨rfl,rfl⟩;refine xo rfl (aA.bN underlying127 H.pV rfl rfl (hlo2) rfl rfl (by first|decide|simp[Value.oneCell']) (by omega) (by decide) (by omega)) ?_;rintro v8 g8 ⟨ho8,hx8,hx8',hv8⟩
           have ff:=fin v8 g8 c2 ho8 hx8 (by
            rw[Cr (by
             rintro(e|e)
             · exact hg' e
             · rw[Int.toNat_natCast,hlt2,hb'] at e;cases e),Int.toNat_natCast,hgd2])
           obtain⟨v8a,v8c,rfl,_⟩:=ho8.open;refine aS 1 [0,1,5,7,8,9,10,12,14,47,48,49,59,60,61,71] rfl ?_;refine G.aQ ?_;refine G.cq func57 rfl ?_;refine xp rfl (aj.bC rfl rfl ⟨by omega,by omega⟩) ?_;refine aS 1 [0,1,5,7,8,9,10,12,14,47,48,49,59,60,61,71] rfl ?_;exact ih3 (j+1,_) _ _ ⟨rfl,rfl,rfl,rfl,rfl,rfl,rfl,rfl,rfl,rfl,rfl,rfl,rfl,trivial⟩ ff (by show 256-(j+1)<256-j;omega)
     · obtain rfl:j=256:=by omega
       have hkey:c::(r.v.take 256).map (cG live cls)=fA d live cls k:=by unfold fA;rw[hgd,hrow,List.take_of_length_le (by rw[r.len];exact Nat.le_refl _)]
       have hkb:=xV (d:=d) (live:=live) hcb k;have hkl:(fA d live cls k).length<=1000000:=by rw[<-hkey,hlen7];decide
       rw[hkey] at hl7;generalize hkk:fA d live cls k=key at *;refine bw rfl rfl ?_;refine bp func57 1 rfl ?_;refine xo rfl (aq (vs:=[_]) func52 rfl H.Hu rfl (ah.br (qF (O:=fun _=>False) (htens.ay eg7) (cO.read (h1:=fun _=>rfl) hl7 (fun _ _ k=>k)) hkl hkb))) ?_;rintro _ g8 ⟨rfl,e8⟩;have e38:aD g3 g8:=e7.trans e8;have eg8:aD g g8:=e3.trans e38;have mp8:=hmp.ext e38 (fun k=>k);have haf8:=cO.ay haf e38
       have hk0:(after++List.replicate (d.next.length-k) (0:Int))[k]? =some 0:=by
        rw[List.getElem?_append_right (by omega),List.getElem?_replicate,if_pos (by omega)]
       have hl0:(after++List.replicate (d.next.length-k) (0:Int)).length=d.next.length:=by simp;omega
       have hsetA:∀y:Int,(after++List.replicate (d.next.length-k) (0:Int)).set k y=(after++[y])++List.replicate (d.next.length-(k+1)) 0:=fun y=>by
        rw[List.set_append_right _ _ (by omega),hal,Nat.sub_self,show d.next.length-k=(d.next.length-(k+1))+1 by omega,List.replicate_succ,List.set_cons_zero];simp
       have hz12:=e1'.size
       have fin2:∀(gA gB:az) (seen':List (List Int)) (y:Int),aD g gA->fF Value.string (Value.int .i64) gA g.size (gO 0 seen')->cO (Value.int .i64) gB g1.size 3 (.slice (some ⟨g1.size,0,none⟩) d.next.length d.next.length) ((after++List.replicate (d.next.length-k) (0:Int)).set k y)->gB=eB gA ⟨g1.size,0+k*1,none⟩ (.int .i64 y)->bF d live cls m (k+1) seen' (after++[y])=ps->seen'.length<=k+1->aD g gB/\fF Value.string (Value.int .i64) gB g.size (gO 0 seen')/\cO (Value.int .i64) gB g1.size 3 (.slice (some ⟨g1.size,0,none⟩) d.next.length d.next.length) ((after++[y])++List.replicate (d.next.length-(k+1)) 0)/\(k+1<=d.next.length/\(after++[y]).length=k+1/\seen'.length<=k+1)/\bF d live cls (d.next.length-(k+1)) (k+1) seen' (after++[y])=ps:=by
        rintro gA gB seen' y eA mA hB hgB hcp hsl';have xB:Ext (fun b=>b=g1.size) gA gB:=by rw[hgB];exact Ext.eB _ _ _ rfl
        refine⟨aD.only eA xB hz12,mA.ext xB (by show ¬_=_;omega),?_,⟨hkN,by simp[hal],hsl'⟩,?_⟩
        · rw[<-hsetA];exact hB
        · rw[show d.next.length-(k+1)=m by omega];exact hcp
       refine aS 1 [0,1,5,7,8,9,10,12,15,47,48,49,59,60,61] rfl ?_;refine av rfl ?_;refine bp func57 2 rfl ?_;refine xp rfl (aj.ug (z:=.int .i64 0) jq underlying151 underlying9 (by kernel_rfl) rfl rfl rfl mp8) ?_;rw[kF]
       rcases hfind:jE 0 seen key with _|i0
       · rw[hfind] at hcon2;simp only at hcon2;have hnone:kJ (bs (gz key)) (gO 0 seen)=none:=by rw[kF,hfind];rfl
         refine aS 5 [0,1,5,7,8,9,10,12,15,17,47,48,49,59,60,61] rfl ?_;refine aY func57 2 [0,1,5,7,8,9,10,12,15,17,47,48,49,59,60,61,92] rfl ?_;refine aG rfl rfl (fun _=>?_) (fun hc=>absurd hc (by simp));refine G.cq func57 rfl ?_;refine ct 3 rfl rfl (aj.B7 underlying151 rfl (mp8)) ?_;refine RW.b9 rfl rfl rfl (aA.mapUpdate (v:=((gO 0 seen).length:Int)) jq underlying151 underlying9 rfl rfl rfl rfl rfl mp8 hnone) ?_;rintro _ g9 ⟨rfl,mp9,x9,z9⟩;have mp9:fF Value.string (Value.int .i64) g9 g.size (gO 0 (seen++[key])):=by rw[tH,Nat.zero_add,<-qw seen 0];exact mp9
         have hsz8:=eg8.size;have e9:aD g g9:=aD.only eg8 x9 (Nat.le_refl _);have haf9:cO (Value.int .i64) g9 g1.size 3 (.slice (some ⟨g1.size,0,none⟩) d.next.length d.next.length) (after++List.replicate (d.next.length-k) (0:Int)):=aR.ext x9 haf8 (fun b hb (e:b=g.size)=>by have:=(aR.lt haf8 hb).1;omega);obtain⟨gg3,c3,hv3,_,_,hcell3,hfz3,hset3⟩:=haf9.at hk0;rw[hl0] at hv3;cases hv3;have hasc:kJ (bs (gz key)) (gO 0 (seen++[key]))=some ((seen.length:Nat):Int):=by rw[kF,uM seen 0 key hfind,Nat.zero_add];rfl
         refine xd [0,1,5,7,8,9,10,12,15,17,47,48,49,59,60,61,92] rfl ?_;refine G.cq func57 rfl ?_;refine ct 4 rfl rfl (aj.lookup (z:=.int .i64 0) jq underlying151 underlying9 (by kernel_rfl) rfl rfl rfl mp9) ?_;rw[hasc,Option.map_some,Option.getD_some];refine xp rfl (aj.ax underlying127 H.bW rfl rfl k rfl rfl (by omega)) ?_;refine RW.b9 rfl rfl rfl (cF H.bW rfl rfl rfl hcell3 hfz3) ?_;rintro _ g10 ⟨rfl,hg10⟩;have hg10:g10=eB g9 ⟨g1.size,0+k*1,none⟩ (.int .i64 ((seen.length:Nat):Int)):=hg10;have hB:=hset3 ((seen.length:Nat):Int);rw[<-hg10] at hB;refine xd [0,1,5,7,8,9,10,12,15,17,47,48,49,59,60,61,92] rfl ?_;refine G.aQ ?_;refine G.cq func57 rfl ?_;refine xp rfl (aj.bC rfl rfl ⟨by omega,by omega⟩) ?_;refine aS 1 [0,1,5,7,8,9,10,12,15,17,47,48,49,59,60,61,92] rfl ?_;exact ih2 (k+1,seen++[key],after++[((seen.length:Nat):Int)]) _ _ ⟨rfl,rfl,rfl,rfl,rfl,rfl,rfl,rfl,rfl,trivial⟩ (fin2 g9 g10 _ _ e9 mp9 hB hg10 hcon2 (by simp;omega)) (by show d.next.length-(k+1)<d.next.length-k;omega)
       · rw[hfind] at hcon2;simp only at hcon2;refine aS 5 [0,1,5,7,8,9,10,12,15,17,47,48,49,59,60,61] rfl ?_;refine aY func57 2 [0,1,5,7,8,9,10,12,15,17,47,48,49,59,60,61,92] rfl ?_;refine aG rfl rfl (fun hc=>absurd hc (by simp)) (fun _=>?_);obtain⟨gg3,c3,hv3,_,_,hcell3,hfz3,hset3⟩:=haf8.at hk0;rw[hl0] at hv3;cases hv3;have hasc:kJ (bs (gz key)) (gO 0 seen)=some ((i0:Nat):Int):=by rw[kF,hfind];rfl
         refine aB rfl ?_;refine G.cq func57 rfl ?_;refine ct 4 rfl rfl (aj.lookup (z:=.int .i64 0) jq underlying151 underlying9 (by kernel_rfl) rfl rfl rfl mp8) ?_;rw[hasc,Option.map_some,Option.getD_some];refine xp rfl (aj.ax underlying127 H.bW rfl rfl k rfl rfl (by omega)) ?_;refine RW.b9 rfl rfl rfl (cF H.bW rfl rfl rfl hcell3 hfz3) ?_;rintro _ g10 ⟨rfl,hg10⟩;have hg10:g10=eB g8 ⟨g1.size,0+k*1,none⟩ (.int .i64 ((i0:Nat):Int)):=hg10;have hB:=hset3 ((i0:Nat):Int);rw[<-hg10] at hB;refine xd [0,1,5,7,8,9,10,12,15,17,47,48,49,59,60,61,92] rfl ?_;refine G.aQ ?_;refine G.cq func57 rfl ?_;refine xp rfl (aj.bC rfl rfl ⟨by omega,by omega⟩) ?_;refine aS 1 [0,1,5,7,8,9,10,12,15,17,47,48,49,59,60,61,92] rfl ?_;exact ih2 (k+1,seen,after++[((i0:Nat):Int)]) _ _ ⟨rfl,rfl,rfl,rfl,rfl,rfl,rfl,rfl,rfl,trivial⟩ (fin2 g8 g10 _ _ eg8 mp8 hB hg10 hcon2 (Nat.le_succ_of_le hsl)) (by show d.next.length-(k+1)<d.next.length-k;omega)
   · obtain rfl:k=d.next.length:=by omega
     rw[Nat.sub_self,List.replicate_zero,List.append_nil] at haf;rw[Nat.sub_self,bF] at hcon2;subst hcon2;dsimp only at hcon hmore hend;have hm:=hend.size;have hsl':(gO 0 seen).length=seen.length:=qw seen 0
     have ha':cO (Value.int .i64) g3 h.size 3 (.slice (some ⟨g1.size,0,none⟩) d.next.length d.next.length) after:=CC (show aR g3 g1.size 3 1 _ after.length (after.map (Value.int .i64)) from haf) (fun b hb=>by
      cases hb;have:=eg.size;have:=e1'.size
      show h.size<=g1.size
      omega)
     refine bw rfl rfl ?_;refine aY func57 2 [0,1,5,7,8,9,47,48,49,50] rfl ?_;refine av rfl ?_;refine bp func57 1 rfl ?_;refine xp rfl (aj.B7 underlying151 rfl (hmp)) ?_;rw[hsl'];refine aS 2 [0,1,5,7,8,9,47,48,49,50,108] rfl ?_;refine aO rfl rfl (fun heq=>?_) (fun heq=>?_)
     · rw[if_pos (by omega)] at hcon;refine aY func57 2 [0,1,4,5,7,8,9,47,48,49,50,108] rfl ?_;refine G.ret func57 rfl rfl ?_;exact⟨_,rfl,by rw[<-hcon];exact ha',eg3⟩
     · rw[if_neg (by omega)] at hcon;refine aB rfl ?_;refine G.cq func57 rfl ?_;refine ct 1 rfl rfl (aj.B7 underlying151 rfl (hmp)) ?_;rw[hsl'];refine aS 1 [0,1,5,7,8,9,47,48,49,50,108] rfl ?_;refine G.aQ ?_;exact ih (n,seen.length,_,after) _ _ ⟨rfl,rfl,rfl,rfl,trivial⟩ ⟨eg3,ha',hal,fun x hx=>by have:=hend.bound x hx;omega,⟨by show seen.length<=_;omega,hend.nums,by show _<=n+seen.length;omega⟩,hcon⟩ (by show n<n+1;omega)
end
end Go.Proofs.YtmehdcdbeafljaaGreatDoor
namespace Go.Proofs.YtmehdcdbeafljaaGreatDoor
open Go
section
variable {of:List Nat}
def nS (cls:List Int):Nat->List Nat->Int->Option Nat
 |_,[],_=>none
 |i,x::r,c=>if c=cls.getD x 0 then some i else nS cls (i+1) r c
theorem uO {cls:List Int}:∀(of:List Nat) (i j:Nat) (c:Int),nS cls i of c=some j->i<=j/\∃x,of[j-i]? =some x/\c=cls.getD x 0
 | [],i,j,c,h=>by cases h
 |x::r,i,j,c,h=>by
  rw[nS] at h;split at h
  · rename_i e;cases h;exact⟨Nat.le_refl _,x,by simp,e⟩
  · obtain⟨h1,y,h2,h3⟩:=uO r (i+1) j c h;refine⟨by omega,y,?_,h3⟩;rw[show j-i=(j-(i+1))+1 by omega,List.getElem?_cons_succ];exact h2
theorem oD {cls:List Int}:∀(of:List Nat) (i:Nat) (c:Int),nS cls i of c=none->∀x∈of,c≠cls.getD x 0
 | [],i,c,h,x,hx=>by cases hx
 |y::r,i,c,h,x,hx=>by
  rw[nS] at h;split at h
  · cases h
  · rename_i hn
    rcases List.mem_cons.1 hx with e|e
    · subst e;exact hn
    · exact oD r (i+1) c h x e
def dA (live:List Bool) (cls:List Int) (of:List Nat) (t:Int):List Nat×Int :=
 if t<0\/live.getD t.toNat false=false then (of,-1) else
  match nS cls 0 of (cls.getD t.toNat 0) with
  |some i=>(of,(i:Int))
  |none=>(of++[t.toNat],(of.length:Int))
def fK (live:List Bool) (cls:List Int):List Int->List Nat->List Int->List Nat×List Int
 | [],of,row=>(of,row)
 |t::r,of,row=>fK live cls r (dA live cls of t).1 (row++[(dA live cls of t).2])
def AB (d:cg) (live:List Bool) (cls:List Int):Nat->Nat->List Nat->List Row->List Int->cg
 | 0,_,_,next,rule=>⟨next,rule⟩
 |n+1,i,of,next,rule =>
  match of[i]? with
  |none=>⟨next,rule⟩
  |some k=>AB d live cls n (i+1) (fK live cls (d.row k) of []).1 (next++[jC (fK live cls (d.row k) of []).2]) (rule++[d.ru k])
def kX (d:cg):cg:=if d.next.length=0 then ⟨[],[]⟩ else AB d (bH d) (ei d (bH d)) (d.next.length+1) 0 [0] [] []
structure Bi (n:Nat) (of:List Nat):Prop where
 once:of.Nodup
 lt:∀x∈of,x<n
theorem Aq:∀(n:Nat) (l:List Nat),l.Nodup->(∀x∈l,x<n)->l.length<=n
 | 0,[],_,_=>Nat.le_refl _
 | 0,x::l,_,h=>absurd (h x (by simp)) (Nat.not_lt_zero _)
 |n+1,l,hl,h=>by
  have h1:=Aq n (l.erase n) (hl.erase n) (fun x hx=>by
   have:=(hl.mem_erase_iff).1 hx;have:=h x this.2;omega)
  by_cases hn:n∈l
  · have:=List.length_erase_of_mem hn;omega
  · rw[List.erase_of_not_mem hn] at h1;omega
theorem Bi.len {n:Nat}(k:Bi n of):of.length<=n:=Aq n of k.once k.lt
theorem tZ {live:List Bool}{cls:List Int}{n:Nat}{t:Int}(k:Bi n of) (ht:t<n):Bi n (dA live cls of t).1:=by
 unfold dA;split
 · exact k
 · rename_i hn;split
   · exact k
   · rename_i hf;have hne:=oD of 0 _ hf;refine⟨List.nodup_append.2 ⟨k.once,by simp,fun a ha b hb e=>?_⟩,fun x hx=>?_⟩
     · have:b=t.toNat:=by simpa using hb
       subst e;subst this;exact hne _ ha rfl
     · rcases List.mem_append.1 hx with e|e
       · exact k.lt x e
       · have:x=t.toNat:=by simpa using e
         omega
theorem B0 {live:List Bool}{cls:List Int}{t:Int}:of.length<=(dA live cls of t).1.length/\∀(i x:Nat),of[i]? =some x->(dA live cls of t).1[i]? =some x:=by
 unfold dA;split
 · exact⟨Nat.le_refl _,fun _ _ h=>h⟩
 · split
   · exact⟨Nat.le_refl _,fun _ _ h=>h⟩
   · exact⟨by simp,fun i x h=>by rw[List.getElem?_append_left (List.getElem?_eq_some_iff.1 h).1];exact h⟩
end
end Go.Proofs.YtmehdcdbeafljaaGreatDoor
namespace Go.Proofs.YtmehdcdbeafljaaGreatDoor
open Go.Proofs.Tryz
open Go Go.Lw
set_option maxRecDepth 20000
section
variable {v3:Value}{n:Nat}
def jZ (cls:List Int):Nat->List Nat->List (Int×Int)
 |_,[]=>[]
 |i,x::r=>(cls.getD x 0,(i:Int))::jZ cls (i+1) r
theorem tI (cls:List Int):∀(ls:List Nat) (i:Nat) (l:Nat),jZ cls i (ls++[l])=jZ cls i ls++[(cls.getD l 0,((i+ls.length:Nat):Int))]
 | [],i,l=>by simp[jZ]
 |x::r,i,l=>by
  simp only[List.cons_append,jZ];rw[tI cls r (i+1) l,List.length_cons,show i+1+r.length=i+(r.length+1) by omega]
theorem qR (cls:List Int):∀(ls:List Nat) (i:Nat) (c:Int),kJ c (jZ cls i ls)=(nS cls i ls c).map fun j=>(j:Int)
 | [],i,c=>rfl
 |x::r,i,c=>by
  rw[jZ,kJ,nS]
  by_cases h:c=cls.getD x 0
  · rw[if_pos h,if_pos h];rfl
  · rw[if_neg h,if_neg h];exact qR cls r (i+1) c
structure eJ (h0 h:az) (cls:List Int) (db mb:Nat) (vo vn vr:Value) (of:List Nat) (next:List Row) (rule:List Int):Prop where
 ext:aD h0 h
 dblk:bh h db 149 [vn,vr]
 nx:kK 256 cm h h0.size 153 vn next
 ru:cO (Value.int .i64) h h0.size 3 vr rule
 ol:cO eG h h0.size 3 vo of
 mp:fF (Value.int .i64) (Value.int .i64) h mb (jZ cls 0 of)
 ne:∀b,vo.ownBlock=some b->vr.ownBlock≠some b
 dge:h0.size<=db
 mge:h0.size<=mb
section
variable {h0 h:az}{cls:List Int}{db mb:Nat}{vo vn vr:Value}{of:List Nat}{next:List Row}{rule:List Int}
theorem eJ.DX (k:eJ h0 h cls db mb vo vn vr of next rule):∀b,vn.ownBlock=some b->dL h b 153:=fun _ hb=>aR.ty k.nx hb
theorem eJ.CU (k:eJ h0 h cls db mb vo vn vr of next rule):∀b,vr.ownBlock=some b->dL h b 3:=fun _ hb=>aR.ty k.ru hb
theorem eJ.JY (k:eJ h0 h cls db mb vo vn vr of next rule):∀b,vo.ownBlock=some b->dL h b 3:=fun _ hb=>aR.ty k.ol hb
theorem eJ.ay {h':az}(k:eJ h0 h cls db mb vo vn vr of next rule) (e:aD h h'):eJ h0 h' cls db mb vo vn vr of next rule :=
 ⟨k.ext.trans e,k.dblk.ay e,kK.ay k.nx e,cO.ay k.ru e,cO.ay k.ol e,k.mp.ext e (fun k=>k),k.ne,k.dge,k.mge⟩
theorem eJ.put {h':az}{x:Nat}(k:eJ h0 h cls db mb vo vn vr of next rule) (e:Ext (fun b=>b=x) h h') (hx:dL h x 153) (hn:vn.ownBlock≠some x) (hge:h0.size<=x):eJ h0 h' cls db mb vo vn vr of next rule:=by
 have hd:¬db=x:=k.dblk.ty.ne hx (by decide);have hm:¬mb=x:=k.mp.ne hx;exact⟨aD.only k.ext e hge,k.dblk.ext e hd,aR.ext e k.nx (fun b hb hbx=>hn (by subst hbx;exact hb)),aR.ext e k.ru (fun b hb=>(k.CU b hb).ne hx (by decide)),aR.ext e k.ol (fun b hb=>(k.JY b hb).ne hx (by decide)),k.mp.ext e hm,k.ne,k.dge,k.mge⟩
theorem eJ.Jc {g3 g4:az}{r:Row}(k:eJ h0 h cls db mb vo vn vr of next rule) (hn:n=next.length) (ho:aR g3 h0.size 153 256 v3 (n+1) (next.flatMap cm++cm r)) (hx:Ext (dz vn.ownBlock) h g3) (hd:bh g4 db 149 [v3,vr]) (x4:Ext (fun b=>b=db) g3 g4) :
 eJ h0 g4 cls db mb vo v3 vr of (next++[r]) rule:=by
 have nne:∀{b:Nat}{t:TypeId},dL h b t->153≠t->¬dz vn.ownBlock b:=fun kt ht e=>(k.DX _ e.symm).ne kt ht rfl
 have d3:=k.dblk.ext hx (nne k.dblk.ty (by decide));have dne:∀{b:Nat}{t:TypeId},dL g3 b t->149≠t->¬b=db:=fun kt ht e=>by subst e;exact d3.ty.ne kt ht rfl
 have mne:¬dz vn.ownBlock mb:=fun e=>k.mp.ne (k.DX _ e.symm) rfl
 have hm3:=k.mp.ext hx mne;have ru3:=aR.ext hx k.ru (fun b hb=>nne (k.CU b hb) (by decide));have of3:=aR.ext hx k.ol (fun b hb=>nne (k.JY b hb) (by decide));refine⟨⟨by have:=k.ext.size;have:=hx.size;have:=x4.size;omega,fun b hb kk=>?_⟩,hd,?_,aR.ext x4 ru3 (fun b hb=>dne (aR.ty ru3 hb) (by decide)),aR.ext x4 of3 (fun b hb=>dne (aR.ty of3 hb) (by decide)),hm3.ext x4 (hm3.ne d3.ty),k.ne,k.dge,k.mge⟩
 · rw[x4.block b (by have:=k.ext.size;have:=hx.size;omega) (by have:=k.dge;omega),hx.block b (by have:=k.ext.size;omega) (fun e=>by have:=(aR.lt k.nx e.symm).1;omega)];exact k.ext.block b hb kk
 · exact aR.ext x4 (kK.of ho hn rfl) (fun b hb=>dne (aR.ty ho hb) (by decide))
theorem eJ.Jb {g3 g4:az}{x:Int}(k:eJ h0 h cls db mb vo vn vr of next rule) (hn:n=rule.length) (ho:aR g3 h0.size 3 1 v3 (n+1) (rule.map (Value.int .i64)++[.int .i64 x])) (hx:Ext (dz vr.ownBlock) h g3) (hv:∀b,v3.ownBlock=some b->vr.ownBlock=some b\/h.size<=b) (hd:bh g4 db 149 [vn,v3]) (x4:Ext (fun b=>b=db) g3 g4) :
 eJ h0 g4 cls db mb vo vn v3 of next (rule++[x]):=by
 have nne:∀{b:Nat}{t:TypeId},dL h b t->3≠t->¬dz vr.ownBlock b:=fun kt ht e=>(k.CU _ e.symm).ne kt ht rfl
 have d3:=k.dblk.ext hx (nne k.dblk.ty (by decide));have dne:∀{b:Nat}{t:TypeId},dL g3 b t->149≠t->¬b=db:=fun kt ht e=>by subst e;exact d3.ty.ne kt ht rfl
 have mne:¬dz vr.ownBlock mb:=fun e=>k.mp.ne (k.CU _ e.symm) rfl
 have hm3:=k.mp.ext hx mne;have nx3:=aR.ext hx k.nx (fun b hb=>nne (k.DX b hb) (by decide));have of3:=aR.ext hx k.ol (fun b hb e=>k.ne b hb e.symm);refine⟨⟨by have:=k.ext.size;have:=hx.size;have:=x4.size;omega,fun b hb kk=>?_⟩,hd,aR.ext x4 nx3 (fun b hb=>dne (aR.ty nx3 hb) (by decide)),?_,aR.ext x4 of3 (fun b hb=>dne (aR.ty of3 hb) (by decide)),hm3.ext x4 (hm3.ne d3.ty),fun b hb e=>?_,k.dge,k.mge⟩
 · rw[x4.block b (by have:=k.ext.size;have:=hx.size;omega) (by have:=k.dge;omega),hx.block b (by have:=k.ext.size;omega) (fun e=>by have:=(aR.lt k.ru e.symm).1;omega)];exact k.ext.block b hb kk
 · exact aR.ext x4 (cO.of (ys:=[x]) ho hn rfl rfl) (fun b hb=>dne (aR.ty ho hb) (by decide))
 · rcases hv b e with e|e
   · exact k.ne b hb e
   · have:=(k.JY b hb).lt;omega
theorem eJ.more {g1 g2:az}{t:Nat}(k:eJ h0 h cls db mb vo vn vr of next rule) (x1:Ext (fun b=>b=mb) h g1) (hm:fF (Value.int .i64) (Value.int .i64) g1 mb (jZ cls 0 (of++[t]))) (hn:n=of.length) (ho:aR g2 h0.size 3 1 v3 (n+1) (of.map eG++[eG t])) (hx:Ext (dz vo.ownBlock) g1 g2) (hv:∀b,v3.ownBlock=some b->vo.ownBlock=some b\/g1.size<=b) :
 eJ h0 g2 cls db mb v3 vn vr (of++[t]) next rule:=by
 have mne:∀{b:Nat}{t:TypeId},dL h b t->¬b=mb:=fun kt e=>k.mp.ne kt e.symm
 have d1:=k.dblk.ext x1 (mne k.dblk.ty);have nx1:=aR.ext x1 k.nx (fun b hb=>mne (k.DX b hb));have ru1:=aR.ext x1 k.ru (fun b hb=>mne (k.CU b hb));have of1:=aR.ext x1 k.ol (fun b hb=>mne (k.JY b hb));have one:∀{b:Nat}{t:TypeId},dL g1 b t->3≠t->¬dz vo.ownBlock b:=fun kt ht e=>(show dL g1 _ 3 from aR.ty of1 e.symm).ne kt ht rfl
 refine⟨⟨by have:=k.ext.size;have:=hx.size;have:=x1.size;omega,fun b hb kk=>?_⟩,d1.ext hx (one d1.ty (by decide)),aR.ext hx nx1 (fun b hb=>one (aR.ty nx1 hb) (by decide)),aR.ext hx ru1 (fun b hb e=>k.ne b e.symm hb),cO.of (ys:=[t]) ho hn rfl rfl,hm.ext hx (fun e=>hm.ne (aR.ty of1 e.symm) rfl),fun b hb e=>?_,k.dge,k.mge⟩
 · rw[hx.block b (by have:=k.ext.size;have:=x1.size;omega) (fun e=>by have:=(aR.lt k.ol e.symm).1;omega),x1.block b (by have:=k.ext.size;omega) (by have:=k.mge;omega)];exact k.ext.block b hb kk
 · rcases hv b hb with e'|e'
   · exact k.ne b e' e
   · have:=(show dL g1 _ 3 from aR.ty ru1 e).lt;omega
end
theorem wX (d:cg):∀(n:Nat) (out:List Bool),(pH d n out).length=out.length
 | 0,_=>rfl
 |n+1,out=>by
  rw[pH];split
  · rw[wX d n,gI]
  · rw[gI]
theorem D8 (d:cg):(bH d).length=d.next.length:=by rw[bH,wX];simp
theorem uY (d:cg) (live:List Bool):∀(n many:Nat) (cls:List Int),cls.length=d.next.length->(jP d live n many cls).length=d.next.length
 | 0,_,_,h=>h
 |n+1,many,cls,h=>by
  rw[jP];split
  · exact(eZ d live cls).len
  · exact uY d live n _ _ (eZ d live cls).len
theorem Cn (d:cg) (live:List Bool) (h:d.rule.length=d.next.length):(ei d live).length=d.next.length:=uY d live _ _ _ h
def mU (h:az) (O:Nat->Prop) (db:Nat) (d:cg):Prop :=
 ∃vn vr,¬O db/\bh h db 149 [vn,vr]/\bS Dh h O vn d.next/\bS (.int .i64) h O vr d.rule
theorem mU.mv {h h':az}{O O':Nat->Prop}{db:Nat}{d:cg}(k:mU h O db d) (m:Mv O O' h h'):mU h' O' db d:=by
 obtain⟨vn,vr,ho,hk,h1,h2⟩:=k;have hm:=m.block db hk.lt ho;exact⟨vn,vr,hm.2,hm.1.trans hk,h1.mv m,h2.mv m⟩
theorem mU.rd {h:az}{O:Nat->Prop}{db:Nat}{d:cg}(k:mU h O db d):nW h db d:=by
 obtain⟨vn,vr,ho,hk,h1,h2⟩:=k;exact⟨vn,vr,hk,qh h1 (fun _ k=>k.elim),qh h2 (fun _ k=>k.elim)⟩
theorem Gv {h:az}{db:Nat}{d:cg}(htens:sy h) (k:nW h db d) (hok:d.Ok) (hd0:0<d.next.length) :
 ah Tryz.prog 30 #[.pointer (some ⟨db,0,none⟩)] h (cT fun r h'=>(∃b,r= .pointer (some ⟨b,0,none⟩)/\mU h' (fun g=>g<h.size) b (kX d))/\aD h h'):=by
 have hlen:=hok.len;have hsize:=hok.size;generalize hres:kX d=res;refine ah.of func30 rfl rfl ?_;refine aY func30 1 [0,2] rfl ?_;refine av rfl ?_;refine bp func30 1 rfl ?_;refine xo rfl (aq (vs:=[_]) func55 rfl H.Kb rfl (ah.br (A0 k))) ?_;rintro _ h0 ⟨rfl,hh0⟩;subst hh0;refine xd [0,2,15] rfl ?_;refine aO rfl rfl (fun hz=>?_) (fun hz=>?_)
 · refine aY func30 1 [0,2,15] rfl ?_;refine G.ret func30 rfl rfl ?_;exfalso;omega
 · rw[kX,if_neg hz] at hres;have hll:=D8 d;have hcl:=Cn d (bH d) hlen;refine aB rfl ?_;refine bp func30 1 rfl ?_;refine xo rfl (aq (vs:=[_]) func56 rfl H.LW rfl (ah.br (B3 k hok))) ?_;rintro w3 h1 ⟨ho1,e1⟩;generalize bH d=live at *;obtain⟨la,lc,rfl,_⟩:=(show aR h1 h0.size 4 1 w3 live.length (live.map Value.bool) from ho1).open;refine aS 1 [0,2,3,15] rfl ?_;refine bp func30 2 rfl ?_;refine xo rfl (aq (vs:=[_,_]) func57 rfl H.LV rfl (ah.br (vX (htens.ay e1) (k.ay e1) hok (cO.read (O:=fun _=>False) (h1:=fun _=>rfl) ho1 (fun _ _ k=>k)) hll))) ?_;rintro w4 h2 ⟨ho2,e2⟩;generalize ei d live=cls at *;obtain⟨ca,cc,rfl,_⟩:=(show aR h2 h1.size 3 1 w4 cls.length (cls.map (Value.int .i64)) from ho2).open;have ho1:=cO.ay ho1 e2;have k2:=(k.ay e1).ay e2;have hsV:bS .bool h2 (fun _=>False) (.slice la live.length lc) live:=cO.read (h1:=fun _=>rfl) ho1 (fun _ _ k=>k);have hsC:bS (.int .i64) h2 (fun _=>False) (.slice ca cls.length cc) cls:=cO.read (h1:=fun _=>rfl) ho2 (fun _ _ k=>k);rw[hll] at hsV;rw[hcl] at hsC;rw[hll,hcl];obtain⟨c0,hc0⟩:∃c0,cls[0]? =some c0:=⟨_,List.getElem?_eq_getElem (by omega)⟩
   have hcd0:cls.getD 0 0=c0:=by rw[List.getD_eq_getElem?_getD,hc0];rfl
   refine aS 1 [0,2,3,4,15] rfl ?_;refine xr func30 rfl ?_;refine xp rfl (aP (H.GI ) rfl) ?_;refine xo rfl (aA.gu rfl) ?_;rintro _ h3 ⟨rfl,kd3,e3,z3⟩;refine aS 1 [0,2,3,4,5,15] rfl ?_;refine xr func30 rfl ?_;refine xo rfl (mW (ek:=Value.int .i64) (ev:=Value.int .i64)) ?_;rintro _ h4 ⟨rfl,hm4,e4,z4⟩;have kd3:bh h3 h2.size 149 [.slice none 0 0,.slice none 0 0]:=kd3;have e34:=e3.trans e4;obtain⟨oa',n',c',hv',_,_,_,hgetc⟩:=id (hsC.mv (Mv.ay e34));cases hv';obtain⟨b3,o3,cs3,ha3,_,hrow3,rfl⟩:=hgetc 0 c0 hc0;refine ct 1 rfl rfl (aj.ax underlying127 H.bW rfl rfl 0 rfl ha3 (by omega)) ?_;refine xp rfl (ai H.cM rfl (hrow3 0 _ rfl)) ?_;refine RW.b9 rfl rfl rfl (vG (v:=(0:Int)) (jr.int .i64) underlying160 underlying3 rfl rfl rfl rfl rfl hm4 (rfl:kJ c0 []=none)) ?_;rintro _ h5 ⟨rfl,hm5,x5,z5⟩;have hm5:fF (Value.int .i64) (Value.int .i64) h5 h3.size (jZ cls 0 [0]):=by rw[jZ,hcd0];exact hm5
   have hz3:=e3.size;have e25:aD h2 h5:=aD.only e34 x5 hz3;have kd5:bh h5 h2.size 149 [.slice none 0 0,.slice none 0 0]:=(kd3.ay e4).ext x5 (by show ¬_=_;omega);refine aS 2 [0,2,3,4,5,6,15] rfl ?_;refine xr func30 rfl ?_;refine xo rfl (aA.aW (us:=[_]) underlying127 H.pV rfl rfl (by decide) (by simp[Value.oneCell'])) ?_;rintro _ _ ⟨rfl,rfl⟩;refine aS 1 [0,2,3,4,5,6,7,15] rfl ?_;refine av rfl ?_;refine aY func30 1 [0,2,3,4,5,6,7,8,15] rfl ?_;refine G.block rfl rfl ?_;have e56:aD h5 (h5.push (.cells #[.int .i64 0] 3)):=Ext.push _ _ _;have ol6:cO eG (h5.push (.cells #[.int .i64 0] 3)) h2.size 3 (.slice (some ⟨h5.size,0,none⟩) 1 1) [0]:=jo eG h5 3 [0] 1 rfl (by decide) h2.size e25.size rfl;generalize h5.push (.cells #[.int .i64 0] 3)=h6 at *
   have mk6:eJ h2 h6 cls h2.size h3.size (.slice (some ⟨h5.size,0,none⟩) 1 1) (.slice none 0 0) (.slice none 0 0) [0] [] [] :=
    ⟨e25.trans e56,kd5.ay e56,kK.nil _ _ _ _ _,cO.nil _ _ _ _,ol6,hm5.ext e56 (fun k=>k),fun b _ hb=>(by cases hb),Nat.le_refl _,hz3⟩
   refine bD (σ:=Nat×Value) (fun q=>[(0,.pointer (some ⟨db,0,none⟩)),(3,.slice la d.next.length lc),(4,.slice ca d.next.length cc),(5,.pointer (some ⟨h2.size,0,none⟩)),(6,.map (some h3.size)),(7,q.2),(8,.int .i64 (q.1:Nat))]) (fun q h'=>∃vn vr of next rule,eJ h2 h' cls h2.size h3.size q.2 vn vr of next rule/\q.1<=of.length/\Bi d.next.length of/\(next.length=q.1/\rule.length=q.1)/\AB d live cls (d.next.length+1-q.1) q.1 of next rule=res) (fun q=>d.next.length+1-q.1) ((0,.slice (some ⟨h5.size,0,none⟩) 1 1)) rfl ⟨rfl,rfl,rfl,rfl,rfl,rfl,rfl,trivial⟩ ⟨_,_,[0],[],[],mk6,Nat.zero_le _,⟨by simp,fun x hx=>by simp at hx;omega⟩,⟨rfl,rfl⟩,hres⟩ ?_;rintro⟨i,vl⟩ g ⟨vn,vr,of,next,rule,mk,hi,hok2,⟨hnl,hrl⟩,hcon⟩ ih
   try dsimp only
   dsimp only at mk hi hnl hrl hcon;have hofl:=hok2.len;obtain⟨oa,oc,rfl,_⟩:=(show aR g h2.size 3 1 vl of.length (of.map eG) from mk.ol).open;have mkg:=mk;refine av rfl ?_;refine bp func30 2 rfl ?_;refine xp rfl (aj.aK underlying127 rfl) ?_;refine aS 1 [0,3,4,5,6,7,8,32] rfl ?_;refine aO rfl rfl (fun hlt=>?_) (fun hlt=>?_)
   · have hil:i<of.length:=by omega
     obtain⟨kk,hcur⟩:∃kk,of[i]? =some kk:=⟨_,List.getElem?_eq_getElem hil⟩
     have hkN:=hok2.lt kk (List.mem_of_getElem? hcur);obtain⟨n,hnn⟩:∃n,d.next.length+1-i=n+1:=⟨d.next.length-i,by omega⟩
     rw[hnn,AB,hcur] at hcon;simp only at hcon;obtain⟨r,hr⟩:∃r,d.next[kk]? =some r:=⟨_,List.getElem?_eq_getElem hkN⟩
     have hrow:d.row kk=r.v:=by unfold cg.row;rw[hr]
     rw[hrow] at hcon;generalize htgt:fK live cls r.v of []=tgt at hcon;refine aB rfl ?_;refine av rfl ?_;refine G.block rfl rfl ?_;refine xr func30 rfl ?_;refine xo rfl (aA.aX H.CJ) ?_;rintro _ g1 ⟨rfl,kz,ez,zz⟩;have kz:bh g1 g.size 153 (([]:List Int).map (Value.int .i64)++List.replicate (256-0) (Value.int .i64 0)):=kz;have Hx:=mk.ay ez;have hvz:vn.ownBlock≠some g.size:=fun e=>by have:=(mk.DX _ e).lt;omega
     obtain⟨vn0,vr0,kd,⟨na,nn,nc,rfl,hnl0,hnc,hnm,hgetn⟩,hsR⟩:=id (k2.ay Hx.ext);subst hnl0;obtain⟨b1,o1,cs1,ha1,_,hrow1,rfl⟩:=hgetn kk r hr;obtain⟨gg,c4,hv4,_,_,hcell,_,_⟩:=Hx.ol.at hcur;have hoa:oa=some ⟨gg,0,none⟩:=by cases hv4;rfl
     refine xd [0,3,4,5,6,7,8,9,32] rfl ?_;refine av rfl ?_;refine av rfl ?_;refine G.ew func30 H.mixed rfl (by kernel_rfl) ?_;refine RQ.au rfl rfl rfl rfl (aI rfl) ?_;refine RQ.au rfl rfl rfl rfl (aM rfl) ?_;refine RQ.au rfl rfl rfl rfl (af (off:=0) underlying149 rfl rfl H.jW rfl) ?_;refine RQ.au rfl rfl rfl rfl (ai H.qe rfl (kd.cell (i:=0) rfl)) ?_;refine RQ.au rfl rfl rfl rfl (aI rfl) ?_;refine RQ.au rfl rfl rfl rfl (aI rfl) ?_;refine RQ.au rfl rfl rfl rfl (aj.ax underlying127 H.bW rfl rfl i rfl hoa (by omega)) ?_;refine RQ.au rfl rfl rfl rfl (ai H.cM rfl hcell) ?_;refine RQ.au rfl rfl rfl rfl (aj.ax underlying147 H.jV rfl rfl kk rfl ha1 (by omega)) ?_;refine RQ.au rfl rfl rfl rfl (aj.aH H.vp H.jV rfl hrow1 (by first|rfl|(simp;done)|(simp;omega))) ?_;refine RQ.au rfl rfl rfl rfl (aI rfl) ?_;refine cB rfl ?_;refine xu [0,3,4,5,6,7,8,9,32,44,45] rfl ?_;refine G.block rfl rfl ?_;refine bD (σ:=Nat×Value) (fun q=>[(0,.pointer (some ⟨db,0,none⟩)),(3,.slice la d.next.length lc),(4,.slice ca d.next.length cc),(5,.pointer (some ⟨h2.size,0,none⟩)),(6,.map (some h3.size)),(7,q.2),(8,.int .i64 (i:Nat)),(9,.pointer (some ⟨g.size,0,none⟩)),(44,.agg (cm r).toArray),(45,.int .i64 (q.1:Nat))]) (fun q h'=>∃of' row,eJ h2 h' cls h2.size h3.size q.2 vn vr of' next rule/\(q.1<=256/\row.length=q.1)/\bh h' g.size 153 (row.map (Value.int .i64)++List.replicate (256-q.1) (Value.int .i64 0))/\of'[i]? =some kk/\Bi d.next.length of'/\fK live cls (r.v.drop q.1) of' row=tgt) (fun q=>256-q.1) ((0,.slice oa of.length oc)) rfl ⟨rfl,rfl,rfl,rfl,rfl,rfl,rfl,rfl,rfl,rfl,trivial⟩ ⟨of,[],Hx,⟨Nat.zero_le _,rfl⟩,kz,hcur,hok2,htgt⟩ ?_;rintro⟨b,vl⟩ g2 ⟨of,row,mk,⟨hb,hrlen⟩,kz,hcur,hok2,hrow⟩ ih2
     try dsimp only
     dsimp only at mk hb hrlen kz hrow;have hofl:=hok2.len;obtain⟨oa,oc,rfl,_⟩:=(show aR g2 h2.size 3 1 vl of.length (of.map eG) from mk.ol).open;refine aY func30 1 [0,3,4,5,6,7,8,9,44,45,46] rfl ?_;refine av rfl ?_;refine aO rfl rfl (fun hb256=>?_) (fun hb256=>?_)
     · have hb2:b<256:=by omega
       obtain⟨t,ht⟩:∃t,r.v[b]? =some t:=⟨_,List.getElem?_eq_getElem (by rw[r.len];exact hb2)⟩
       have htm:=hok.to r (List.mem_of_getElem? hr) t (List.mem_of_getElem? ht);have hdrop:r.v.drop b=t::r.v.drop (b+1):=by rw[List.drop_eq_getElem_cons (by rw[r.len];exact hb2),(List.getElem?_eq_some_iff.1 ht).2]
       rw[hdrop,fK] at hrow;have hso:=tZ (live:=live) (cls:=cls) (t:=t) hok2 htm.2;have hsg:=(B0 (live:=live) (cls:=cls) (of:=of) (t:=t)).2 i kk hcur;have hcells:(row.map (Value.int .i64)++List.replicate (256-b) (Value.int .i64 0)).length=256:=by simp[hrlen];omega
       have hset:∀to:Int,(row.map (Value.int .i64)++List.replicate (256-b) (Value.int .i64 0)).set (0+b*1) (.int .i64 to)=(row++[to]).map (Value.int .i64)++List.replicate (256-(b+1)) (Value.int .i64 0):=fun to=>by
        rw[Nat.zero_add,Nat.mul_one,List.set_append_right _ _ (by simp;omega),show 256-b=(256-(b+1))+1 by omega,List.replicate_succ];have:b-(row.map (Value.int .i64)).length=0:=by simp;omega
        rw[this,List.set_cons_zero];simp
       have hblt:0+b*1<(row.map (Value.int .i64)++List.replicate (256-b) (Value.int .i64 0)).length:=by rw[hcells];omega
       have hzge:h2.size<=g.size:=mkg.ext.size
       have fin:∀(gA gB:az) (vA:Value) (ofA:List Nat) (to:Int),eJ h2 gA cls h2.size h3.size vA vn vr ofA next rule->bh gA g.size 153 (row.map (Value.int .i64)++List.replicate (256-b) (Value.int .i64 0))->gB=eB gA ⟨g.size,0+b*1,none⟩ (.int .i64 to)->dA live cls of t=(ofA,to)->∃of' row,eJ h2 gB cls h2.size h3.size vA vn vr of' next rule/\(b+1<=256/\row.length=b+1)/\bh gB g.size 153 (row.map (Value.int .i64)++List.replicate (256-(b+1)) (Value.int .i64 0))/\of'[i]? =some kk/\Bi d.next.length of'/\fK live cls (r.v.drop (b+1)) of' row=tgt:=by
        rintro gA gB vA ofA to mA kA hgB hst;have k6:=kA.set (0+b*1) (.int .i64 to);rw[<-hgB,hset] at k6;have x6:Ext (fun y=>y=g.size) gA gB:=by rw[hgB];exact Ext.eB _ _ _ rfl
        rw[hst] at hso hsg hrow;exact⟨ofA,row++[to],mA.put x6 kA.ty hvz hzge,⟨hb2,by simp[hrlen]⟩,k6,hsg,hso,hrow⟩
       refine aB rfl ?_;refine av rfl ?_;refine G.block rfl rfl ?_;refine bp func30 1 rfl ?_;refine xp rfl (aj.uD underlying153 H.bW H.cM rfl rfl b rfl hb2 (show (cm r).toArray[b]? =some (Value.int .i64 t) by simp[cm,ht])) ?_;refine aS 2 [0,3,4,5,6,7,8,9,10,11,44,45,46] rfl ?_;refine av rfl ?_;refine bp func30 3 rfl ?_;refine aN (d:=51) rfl (fun hg=>?_) (fun hg=>?_)
       · have hg':=of_decide_eq_true hg;refine aS 6 [0,3,4,5,6,7,8,9,10,11,44,45,46,57] rfl ?_;refine aG rfl rfl (fun _=>?_) (fun hc=>absurd hc (by simp));refine bp func30 1 rfl ?_;refine xp rfl (aj.cK underlying153 H.bW rfl rfl b rfl (by omega)) ?_;refine RW.b9 rfl rfl rfl (cF H.bW rfl rfl rfl (kz.cell (List.getElem?_eq_getElem hblt)) kz.nf) ?_;rintro _ g6 ⟨rfl,hg6⟩;have ff:=fin g2 g6 _ of (-1) mk kz hg6 (by rw[dA,if_pos (.inl hg')]);refine xd [0,3,4,5,6,7,8,9,10,11,44,45,46,57] rfl ?_;refine bw rfl rfl ?_;refine G.cq func30 rfl ?_;refine xp rfl (aj.bC rfl rfl ⟨by omega,by omega⟩) ?_;refine aS 1 [0,3,4,5,6,7,8,9,10,11,44,45,46,57] rfl ?_;exact ih2 (b+1,_) _ _ ⟨rfl,rfl,rfl,rfl,rfl,rfl,rfl,rfl,rfl,rfl,trivial⟩ ff (by show 256-(b+1)<256-b;omega)
       · have hg':=of_decide_eq_false hg;obtain⟨t2,rfl⟩:=Int.eq_ofNat_of_zero_le (show 0<=t by omega);obtain⟨bt,hbt⟩:∃bt,live[t2]? =some bt:=⟨_,List.getElem?_eq_getElem (by omega)⟩
         have hlt2:live.getD t2 false=bt:=by rw[List.getD_eq_getElem?_getD,hbt];rfl
         obtain⟨oa',n',c',hv',_,_,_,hgetv⟩:=id (hsV.mv (Mv.ay mk.ext));cases hv';obtain⟨b3,o3,cs3,ha3,_,hrow3,rfl⟩:=hgetv t2 bt hbt;refine ct 2 rfl rfl (aj.ax underlying157 H.lT rfl rfl t2 rfl ha3 (by omega)) ?_;refine xp rfl (ai H.vk rfl (hrow3 0 _ rfl)) ?_;refine aS 2 [0,3,4,5,6,7,8,9,10,11,44,45,46,57] rfl ?_;refine aG rfl rfl (fun hb=>?_) (fun hb=>?_)
         · have hb':bt=false:=by simpa using hb
           refine bp func30 1 rfl ?_;refine xp rfl (aj.cK underlying153 H.bW rfl rfl b rfl (by omega)) ?_;refine RW.b9 rfl rfl rfl (cF H.bW rfl rfl rfl (kz.cell (List.getElem?_eq_getElem hblt)) kz.nf) ?_;rintro _ g6 ⟨rfl,hg6⟩;have ff:=fin g2 g6 _ of (-1) mk kz hg6 (by rw[dA,if_pos (.inr (by show live.getD t2 false=false;rw[hlt2,hb']))]);refine xd [0,3,4,5,6,7,8,9,10,11,44,45,46,57] rfl ?_;refine bw rfl rfl ?_;refine G.cq func30 rfl ?_;refine xp rfl (aj.bC rfl rfl ⟨by omega,by omega⟩) ?_;refine aS 1 [0,3,4,5,6,7,8,9,10,11,44,45,46,57] rfl ?_;exact ih2 (b+1,_) _ _ ⟨rfl,rfl,rfl,rfl,rfl,rfl,rfl,rfl,rfl,rfl,trivial⟩ ff (by show 256-(b+1)<256-b;omega)
         · have hb':bt=true:=by simpa using hb
           obtain⟨c2,hc2⟩:∃c2,cls[t2]? =some c2:=⟨_,List.getElem?_eq_getElem (by omega)⟩
           have hgd2:cls.getD t2 0=c2:=by rw[List.getD_eq_getElem?_getD,hc2];rfl
           have hneg:¬(((t2:Nat):Int)<0\/live.getD ((t2:Nat):Int).toNat false=false):=by
            rintro(e|e)
            · exact hg' e
            · rw[Int.toNat_natCast,hlt2,hb'] at e;cases e
           have hstep:dA live cls of ((t2:Nat):Int)=match nS cls 0 of c2 with|some i=>(of,(i:Int))|none=>(of++[t2],(of.length:Int)):=by
            rw[dA,if_neg hneg,Int.toNat_natCast,hgd2]<;>rfl
           obtain⟨oa',n',c',hv',_,_,_,hgetc⟩:=id (hsC.mv (Mv.ay mk.ext));cases hv';obtain⟨b4,o4,cs4,ha4,_,hrow4,rfl⟩:=hgetc t2 c2 hc2;refine aB rfl ?_;refine bp func30 3 rfl ?_;refine xp rfl (aj.ax underlying127 H.bW rfl rfl t2 rfl ha4 (by omega)) ?_;refine xp rfl (ai H.cM rfl (hrow4 0 _ rfl)) ?_;refine xp rfl (aj.ug (z:=.int .i64 0) (jr.int .i64) underlying160 underlying3 (by kernel_rfl) rfl rfl rfl mk.mp) ?_;rw[qR]
           rcases hfind:nS cls 0 of c2 with _|i0
           · rw[hfind] at hstep;simp only at hstep;have hnone:kJ c2 (jZ cls 0 of)=none:=by rw[qR,hfind];rfl
             refine aS 5 [0,3,4,5,6,7,8,9,10,11,12,13,44,45,46,57] rfl ?_;refine av rfl ?_;refine aY func30 2 [0,3,4,5,6,7,8,9,10,11,12,13,44,45,46,57,70] rfl ?_;refine aG rfl rfl (fun _=>?_) (fun hc=>absurd hc (by simp));refine bp func30 1 rfl ?_;refine xp rfl (aj.aK underlying127 rfl) ?_;refine aS 1 [0,3,4,5,6,7,8,9,10,11,12,13,44,45,46,57,70] rfl ?_;refine bp func30 3 rfl ?_;refine xp rfl (aj.ax underlying127 H.bW rfl rfl t2 rfl ha4 (by omega)) ?_;refine xp rfl (ai H.cM rfl (hrow4 0 _ rfl)) ?_;refine bf 1 rfl ?_;refine RW.b9 rfl rfl rfl (aA.mapUpdate (v:=((of.length:Nat):Int)) (jr.int .i64) underlying160 underlying3 rfl rfl rfl rfl rfl mk.mp hnone) ?_;rintro _ g3 ⟨rfl,hm3,x3,z3'⟩;have hm3:fF (Value.int .i64) (Value.int .i64) g3 h3.size (jZ cls 0 (of++[t2])):=by rw[tI,Nat.zero_add,hgd2];exact hm3
             have mne:∀{b:Nat}{t:TypeId},dL g2 b t->¬b=h3.size:=fun kt e=>mk.mp.ne kt e.symm
             have ol3:aR g3 h2.size 3 1 (.slice oa of.length oc) of.length (of.map eG):=aR.ext x3 mk.ol (fun b hb=>mne (mk.JY b hb));have kz3:=kz.ext x3 (mne kz.ty);have hz2g:=mk.ext.size;refine xd [0,3,4,5,6,7,8,9,10,11,12,13,44,45,46,57,70] rfl ?_;refine G.cq func30 rfl ?_;refine bf 2 rfl ?_;refine xo rfl (aA.aW (us:=[_]) underlying127 H.pV rfl rfl (by decide) (by simp[Value.oneCell'])) ?_;rintro _ _ ⟨rfl,rfl⟩;refine xo rfl (aA.bN underlying127 H.pV rfl rfl (ol3) rfl rfl (by first|decide|simp[Value.oneCell']) (by omega) (by decide) (by omega)) ?_;rintro v7 g4 ⟨ho4,hx4,hx4',hv4⟩;have mk4:=mk.more (t:=t2) x3 hm3 rfl ho4 hx4 hv4;have kz4:=kz3.ext hx4 (fun e=>(show dL g3 _ 3 from aR.ty ol3 e.symm).ne kz3.ty (by decide) rfl);obtain⟨v7a,v7c,rfl,_⟩:=ho4.open;refine aS 1 [0,3,4,5,6,7,8,9,10,11,12,13,44,45,46,57,70] rfl ?_;refine G.cq func30 rfl ?_;refine ct 2 rfl rfl (aj.cK underlying153 H.bW rfl rfl b rfl (by omega)) ?_;refine RW.b9 rfl rfl rfl (cF H.bW rfl rfl rfl (kz4.cell (List.getElem?_eq_getElem hblt)) kz4.nf) ?_;rintro _ g6 ⟨rfl,hg6⟩;have ff:=fin g4 g6 _ (of++[t2]) (of.length:Nat) mk4 kz4 hg6 hstep;refine xd [0,3,4,5,6,7,8,9,10,11,12,13,44,45,46,57,70] rfl ?_;refine G.aQ ?_;refine G.cq func30 rfl ?_;refine xp rfl (aj.bC rfl rfl ⟨by omega,by omega⟩) ?_;refine aS 1 [0,3,4,5,6,7,8,9,10,11,12,13,44,45,46,57,70] rfl ?_;exact ih2 (b+1,_) _ _ ⟨rfl,rfl,rfl,rfl,rfl,rfl,rfl,rfl,rfl,rfl,trivial⟩ ff (by show 256-(b+1)<256-b;omega)
           · rw[hfind] at hstep;simp only at hstep;refine aS 5 [0,3,4,5,6,7,8,9,10,11,12,13,44,45,46,57] rfl ?_;refine av rfl ?_;refine aY func30 2 [0,3,4,5,6,7,8,9,10,11,12,13,44,45,46,57,70] rfl ?_;refine aG rfl rfl (fun hc=>absurd hc (by simp)) (fun _=>?_);refine aB rfl ?_;refine G.cq func30 rfl ?_;refine ct 2 rfl rfl (aj.cK underlying153 H.bW rfl rfl b rfl (by omega)) ?_;refine RW.b9 rfl rfl rfl (cF H.bW rfl rfl rfl (kz.cell (List.getElem?_eq_getElem hblt)) kz.nf) ?_;rintro _ g6 ⟨rfl,hg6⟩;have ff:=fin g2 g6 _ of (i0:Nat) mk kz hg6 hstep;refine xd [0,3,4,5,6,7,8,9,10,11,12,13,44,45,46,57,70] rfl ?_;refine G.aQ ?_;refine G.cq func30 rfl ?_;refine xp rfl (aj.bC rfl rfl ⟨by omega,by omega⟩) ?_;refine aS 1 [0,3,4,5,6,7,8,9,10,11,12,13,44,45,46,57,70] rfl ?_;exact ih2 (b+1,_) _ _ ⟨rfl,rfl,rfl,rfl,rfl,rfl,rfl,rfl,rfl,rfl,trivial⟩ ff (by show 256-(b+1)<256-b;omega)
     · obtain rfl:b=256:=by omega
       rw[List.drop_of_length_le (by rw[r.len];exact Nat.le_refl _),fK] at hrow;subst hrow;simp only at hcon;have hencr:cm (jC row)=row.map (Value.int .i64):=by rw[cm,sH hrlen]
       rw[Nat.sub_self,List.replicate_zero,List.append_nil,<-hencr] at kz;have hil2:i<of.length:=(List.getElem?_eq_some_iff.1 hcur).1
       have nne:∀{b:Nat}{t:TypeId},dL g2 b t->153≠t->¬(dz vn.ownBlock b\/Array.size g2<=b):=fun kt ht e=>by
        rcases e with e|e
        · exact(mk.DX _ e.symm).ne kt ht rfl
        · have:=kt.lt;omega
       have hzM:¬(dz vn.ownBlock g.size\/Array.size g2<=g.size):=by
        rintro(e|e)
        · exact hvz e.symm
        · have:=kz.lt;omega
       have hdM:=nne mk.dblk.ty (by decide);have hnx:aR g2 h2.size 153 256 vn next.length (next.flatMap cm):=mk.nx
       have hone:∀u∈cm (jC row),u.oneCell'=true:=fun u hu=>by simp[cm] at hu;obtain⟨_,_,rfl⟩:=hu;rfl
       have hg2:=mk.ext.size;refine bw rfl rfl ?_;refine av rfl ?_;refine bU (fun b=>dz vn.ownBlock b\/Array.size g2<=b) (fun i=>Nat.blt i 10) (sz:=11) (listed:= #[false,false,false,false,false,false,false,false,false,false,false]) func30 H.mixed rfl rfl rfl ?_;refine cJ 0 1 (by kernel_rfl) rfl ?_;refine cJ 1 3 (by kernel_rfl) rfl ?_;refine cJ 2 7 (by kernel_rfl) rfl ?_;refine bM 3 15 (by kernel_rfl) rfl (fun h' e=>af (off:=0) underlying149 rfl rfl H.jW rfl) ?_;refine bM 4 31 (by kernel_rfl) rfl (fun h' e=>ai H.qe rfl (e.cell hdM (mk.dblk.cell (i:=0) rfl))) ?_;refine bM 5 63 (by kernel_rfl) rfl (fun h' e=>aj.aH H.vp H.jV rfl (e.rowAt hzM kz.row) (by first|rfl|(simp;done)|(simp;omega))) ?_;refine eP 6 127 (by kernel_rfl) rfl (aA.cL (cs:=cm (jC row)) underlying147 H.Dg rfl (lu _) (by decide)) ?_;rintro _ _ ⟨rfl,rfl⟩;refine⟨fun _=>(Ext.push _ _ _),?_⟩;refine eP 7 255 (by kernel_rfl) rfl (aA.xD underlying147 H.Dg rfl rfl hnx rfl (by simp) hone (by simp only[maxLen];omega) (by omega) hg2) ?_;rintro v3 g3 ⟨ho3,hx3,hx3',hv3⟩;refine⟨fun _=>hx3'.mono (fun _ _ k=>.inl k),?_⟩;obtain⟨a3,c3,rfl,_⟩:=ho3.open;refine eP 8 511 (by kernel_rfl) rfl (aj.br (aM rfl)) ?_;rintro _ hq_ ⟨rfl,hqe_⟩;replace hqe_:=hqe_.symm;subst hqe_;refine⟨fun _=>Ext.refl _ _,?_⟩;refine bM 9 1023 (by kernel_rfl) rfl (fun h' e=>af (off:=0) underlying149 rfl rfl H.jW rfl) ?_;refine lW 10 2047 (by kernel_rfl) rfl (aA.bz H.jW rfl rfl (mk.dblk.ext hx3 (fun e=>hdM (.inl e))) (by first|decide|exact of_decide_eq_true rfl|(simp;done)|(simp;omega)) rfl) ?_;rintro _ g4 ⟨rfl,k4,x4,z4⟩;refine⟨fun hk=>(nomatch hk),?_⟩;have mk4:=mk.Jc (r:=jC row) rfl ho3 hx3 k4 x4;obtain⟨vn0,vr0,kd4,_,⟨ra,rn,rc,rfl,hrl0,hrc,hrm,hgetr⟩⟩:=id k2;obtain⟨x,hx⟩:∃x,d.rule[kk]? =some x:=⟨_,List.getElem?_eq_getElem (by omega)⟩
       have hru0:d.ru kk=x:=by unfold cg.ru;rw[List.getD_eq_getElem?_getD,hx];rfl
       obtain⟨b5,o5,cs5,ha5,hO5,hrow5,rfl⟩:=hgetr kk x hx;obtain⟨gg5,c5,hv5,_,_,hcell5,_,_⟩:=mk4.ol.at hcur;have hoa5:oa=some ⟨gg5,0,none⟩:=by cases hv5;rfl
       have rne:∀{b:Nat}{t:TypeId},dL g4 b t->3≠t->¬(dz vr.ownBlock b\/Array.size g4<=b):=fun kt ht e=>by
        rcases e with e|e
        · exact(mk4.CU _ e.symm).ne kt ht rfl
        · have:=kt.lt;omega
       have hdM4:=rne mk4.dblk.ty (by decide);have hru:aR g4 h2.size 3 1 vr rule.length (rule.map (Value.int .i64)):=mk4.ru;have hg4s:=mk4.ext.size
       have olb:∀{b:Nat},b<h2.size->¬(dz vr.ownBlock b\/Array.size g4<=b):=fun kb e=>by
        rcases e with e|e
        · have:=(aR.lt mk4.ru e.symm).1;omega
        · omega
       have hc4:=kd4.cell (i:=1) rfl;have hd4:=olb (dZ hc4);have hc5:cellAt h2 _=some (Value.int .i64 x):=hrow5 0 _ rfl;have hd5:=olb (dZ hc5)
       have hd6:¬(dz vr.ownBlock gg5\/Array.size g4<=gg5):=fun e=>by
        rcases e with e|e
        · exact mk4.ne gg5 (by rw[hoa5];rfl) e.symm
        · have:=dZ hcell5;simp only at this;omega
       refine bB (by kernel_rfl) ?_;refine xu [0,3,4,5,6,7,8,9,44,45,46] rfl ?_;refine bU (fun b=>dz vr.ownBlock b\/Array.size g4<=b) (fun i=>Nat.blt i 19) (sz:=20) (listed:= #[false,false,false,false,false,false,false,false,false,false,false,false,false,false,false,false,false,false,false,false]) func30 H.mixed rfl rfl rfl ?_;refine cJ 0 1 (by kernel_rfl) rfl ?_;refine cJ 1 3 (by kernel_rfl) rfl ?_;refine cJ 2 7 (by kernel_rfl) rfl ?_;refine bM 3 15 (by kernel_rfl) rfl (fun h' e=>af (off:=1) underlying149 rfl rfl H.gN rfl) ?_;refine bM 4 31 (by kernel_rfl) rfl (fun h' e=>ai H.nV rfl (e.cell hdM4 (mk4.dblk.cell (i:=1) rfl))) ?_;refine cJ 5 63 (by kernel_rfl) rfl ?_;refine cJ 6 127 (by kernel_rfl) rfl ?_;refine bM 7 255 (by kernel_rfl) rfl (fun h' e=>af (off:=1) underlying149 rfl rfl H.gN rfl) ?_;refine bM 8 511 (by kernel_rfl) rfl (fun h' e=>ai H.nV rfl (e.cell hd4 (mk4.ext.cell (fun k=>k) hc4))) ?_;refine cJ 9 1023 (by kernel_rfl) rfl ?_;refine cJ 10 2047 (by kernel_rfl) rfl ?_;refine bM 11 4095 (by kernel_rfl) rfl (fun h' e=>aj.ax underlying127 H.bW rfl rfl i rfl hoa5 (by omega)) ?_;refine bM 12 8191 (by kernel_rfl) rfl (fun h' e=>ai H.cM rfl (e.cell hd6 hcell5)) ?_;refine bM 13 16383 (by kernel_rfl) rfl (fun h' e=>aj.ax underlying127 H.bW rfl rfl kk rfl ha5 (by omega)) ?_;refine bM 14 32767 (by kernel_rfl) rfl (fun h' e=>ai H.cM rfl (e.cell hd5 (mk4.ext.cell (fun k=>k) hc5))) ?_;refine eP 15 65535 (by kernel_rfl) rfl (aA.aW (us:=[_]) underlying127 H.pV rfl rfl (by decide) (by simp[Value.oneCell'])) ?_;rintro _ _ ⟨rfl,rfl⟩;refine⟨fun _=>by first|exact Ext.push _ _ _|assumption,?_⟩;refine eP 16 131071 (by kernel_rfl) rfl (aA.bN underlying127 H.pV rfl rfl (hru) rfl rfl (by first|decide|simp[Value.oneCell']) (by omega) (by decide) (by omega)) ?_;rintro v6 g6 ⟨ho6,hx6,hx6',hv6⟩;refine⟨fun _=>hx6'.mono (fun _ _ k=>.inl k),?_⟩;obtain⟨a6,c6,rfl,_⟩:=ho6.open;refine eP 17 262143 (by kernel_rfl) rfl (aj.br (aM rfl)) ?_;rintro _ hq_ ⟨rfl,hqe_⟩;replace hqe_:=hqe_.symm;subst hqe_;refine⟨fun _=>Ext.refl _ _,?_⟩;refine bM 18 524287 (by kernel_rfl) rfl (fun h' e=>af (off:=1) underlying149 rfl rfl H.gN rfl) ?_;refine lW 19 1048575 (by kernel_rfl) rfl (aA.bz H.gN rfl rfl (mk4.dblk.ext hx6 (fun e=>hdM4 (.inl e))) (by first|decide|exact of_decide_eq_true rfl|(simp;done)|(simp;omega)) rfl) ?_;rintro _ g7 ⟨rfl,k7,x7,z7⟩;refine⟨fun hk=>(nomatch hk),?_⟩;have mk7:=mk4.Jb (x:=x) rfl ho6 hx6 hv6 k7 x7;refine bB (by kernel_rfl) ?_;refine xu [0,3,4,5,6,7,8,9,44,45,46] rfl ?_;refine G.aQ ?_;refine G.cq func30 rfl ?_;refine ct 1 rfl rfl (aj.bC rfl rfl ⟨by omega,by omega⟩) ?_;refine aS 1 [0,3,4,5,6,7,8,9,44,45,46] rfl ?_;exact ih (i+1,_) _ _ ⟨rfl,rfl,rfl,rfl,rfl,rfl,rfl,trivial⟩ ⟨_,_,of,next++[jC row],rule++[x],mk7,hil2,hok2,⟨by simp[hnl],by simp[hrl]⟩,by rw[<-hru0,show d.next.length+1-(i+1)=n by omega];exact hcon⟩ (by show d.next.length+1-(i+1)<d.next.length+1-i;omega)
   · obtain rfl:i=of.length:=by omega
     obtain⟨n,hnn⟩:∃n,d.next.length+1-of.length=n+1:=⟨d.next.length-of.length,by omega⟩
     rw[hnn,AB,List.getElem?_eq_none (Nat.le_refl _)] at hcon;simp only at hcon;refine bw rfl rfl ?_;refine aY func30 2 [0,2,3,4,5,6,7,8,32] rfl ?_;refine G.ret func30 rfl rfl ?_;have hz02:=(e1.trans e2).size;refine⟨_,rfl,⟨h2.size,rfl,?_⟩,(e1.trans e2).trans mk.ext⟩;rw[<-hcon];exact⟨vn,vr,by omega,mk.dblk,kK.read mk.nx (fun b hb k=>by omega),cO.read (h1:=fun _=>rfl) mk.ru (fun b hb k=>by omega)⟩
end
end Go.Proofs.YtmehdcdbeafljaaGreatDoor
namespace Go.Proofs.YtmehdcdbeafljaaGreatDoor
open Go
section
variable {ss:List bK}{st s k t:Nat}{cls:List Int}
def vJ (L:List (List Nat)) (l:List Nat) (to:Int):Prop:=(l.length=0/\to= -1)\/(l.length≠0/\∃i:Nat,to=(i:Int)/\L[i]? =some l)
theorem vJ.mono {L L':List (List Nat)}{l:List Nat}{to:Int}(k:vJ L l to) (h:L <+: L'):vJ L' l to:=by
 rcases k with k|⟨k,i,e,hi⟩
 · exact .inl k
 · obtain⟨t,rfl⟩:=h;exact .inr ⟨k,i,e,by rw[List.getElem?_append_left (List.getElem?_eq_some_iff.1 hi).1];exact hi⟩
theorem ye (ss:List bK) (cur:List Nat) (lists:List (List Nat)) (b:Nat) (hn:lists.Nodup) :
 lists <+: (dS ss cur lists b).1/\(dS ss cur lists b).1.Nodup/\vJ (dS ss cur lists b).1 (bg ss (UInt8.ofNat b) cur) (dS ss cur lists b).2:=by
 unfold dS;split
 · rename_i h;exact⟨List.prefix_refl _,hn,.inl ⟨h,rfl⟩⟩
 · rename_i h;split
   · rename_i i hi;exact⟨List.prefix_refl _,hn,.inr ⟨h,i,rfl,(oB lists 0 i _ hi).2⟩⟩
   · rename_i hi;refine⟨List.prefix_append _ _,List.nodup_append.2 ⟨hn,by simp,fun x hx y hy e=>?_⟩,.inr ⟨h,lists.length,rfl,by simp⟩⟩;have:y=bg ss (UInt8.ofNat b) cur:=by simpa using hy
     exact uL lists 0 _ hi (by rw[<-this,<-e];exact hx)
theorem qz (ss:List bK) (cur:List Nat):∀(n b:Nat) (lists:List (List Nat)) (row:List Int),lists.Nodup ->
 lists <+: (kT ss cur n b lists row).1/\(kT ss cur n b lists row).1.Nodup/\∃ys,(kT ss cur n b lists row).2=row++ys/\ys.length=n/\∀(j:Nat) (y:Int),ys[j]? =some y->vJ (kT ss cur n b lists row).1 (bg ss (UInt8.ofNat (b+j)) cur) y
 | 0,b,lists,row,hn=>⟨List.prefix_refl _,hn,[],by simp[kT],rfl,fun j y h=>by simp at h⟩
 |n+1,b,lists,row,hn=>by
  obtain⟨h1,h2,h3⟩:=ye ss cur lists b hn;obtain⟨k1,k2,ys,k3,k4,k5⟩:=qz ss cur n (b+1) (dS ss cur lists b).1 (row++[(dS ss cur lists b).2]) h2;rw[kT];refine⟨h1.trans k1,k2,(dS ss cur lists b).2::ys,by rw[k3];simp,by simp[k4],fun j y hy=>?_⟩;cases j with
  |zero =>
   simp only[List.getElem?_cons_zero,Option.some.injEq] at hy;subst hy;exact h3.mono k1
  |succ j =>
   rw[List.getElem?_cons_succ] at hy;have:=k5 j y hy
   rwa [show b+(j+1)=b+1+j by omega]
structure mX (ss:List bK) (st:Nat) (lists:List (List Nat)) (d:cg):Prop where
 first:lists[0]? =some (cu ss st)
 once:lists.Nodup
 size:lists.length<=2000
 rlen:d.rule.length=d.next.length
 row:∀(k:Nat) (r:Row) (l:List Nat),d.next[k]? =some r->lists[k]? =some l->∀(b:Nat) (y:Int),r.v[b]? =some y->vJ lists (bg ss (UInt8.ofNat b) l) y
 rule:∀(k:Nat) (x:Int) (l:List Nat),d.rule[k]? =some x->lists[k]? =some l->x=aJ ss l
theorem rP {ss:List bK}{st:Nat}:∀(n k:Nat) (lists:List (List Nat)) (next:List Row) (rule:List Int) (d:cg),mX ss st lists ⟨next,rule⟩->next.length=k->k<=lists.length->jM ss n k lists next rule=some d->∃L,lists <+: L/\mX ss st L d/\L.length=d.next.length
 | 0,k,lists,next,rule,d,h,hk,hkl,hd=>by cases hd
 |n+1,k,lists,next,rule,d,h,hk,hkl,hd=>by
  rw[jM] at hd;split at hd
  · rename_i hn;cases hd;have:=List.getElem?_eq_none_iff.1 hn;exact⟨lists,List.prefix_refl _,h,by show lists.length=next.length;omega⟩
  · rename_i cur hcur;obtain⟨h1,h2,ys,h3,h4,h5⟩:=qz ss cur 256 0 lists [] h.once;split at hd
    · cases hd
    · rename_i hsz;have hkl2:=(List.getElem?_eq_some_iff.1 hcur).1
      have hpre:∀(i:Nat) (l:List Nat),i<lists.length->(kT ss cur 256 0 lists []).1[i]? =some l->lists[i]? =some l:=fun i l hi hl=>by
       obtain⟨t,ht⟩:=h1;rw[<-ht,List.getElem?_append_left hi] at hl;exact hl
      have hpre2:∀(i:Nat) (l:List Nat),lists[i]? =some l->(kT ss cur 256 0 lists []).1[i]? =some l:=fun i l hl=>by
       obtain⟨t,ht⟩:=h1;rw[<-ht,List.getElem?_append_left (List.getElem?_eq_some_iff.1 hl).1];exact hl
      have hlen:=h1.length_le;have hrl:rule.length=next.length:=h.rlen
      obtain⟨L,g1,g2,g3⟩:=rP (st:=st) n (k+1) _ _ _ d ⟨hpre2 _ _ h.first,h2,by omega,by simp[hrl],fun i r l hr hl b y hy=>by
       rcases Nat.lt_or_ge i next.length with hi|hi
       · rw[List.getElem?_append_left hi] at hr;exact(h.row i r l hr (hpre i l (by omega) hl) b y hy).mono h1
       · have hik:i=next.length:=by
          have:=(List.getElem?_eq_some_iff.1 hr).1;simp at this;omega
         subst hik;simp only[List.getElem?_concat_length,Option.some.injEq] at hr;subst hr;have hlc:=hpre _ l (by omega) hl;rw[hk] at hlc;rw[hcur] at hlc;cases hlc;rw[h3,List.nil_append,sH h4] at hy;have:=h5 b y hy
         rwa [Nat.zero_add] at this,fun i x l hx hl=>by
       rcases Nat.lt_or_ge i rule.length with hi|hi
       · rw[List.getElem?_append_left hi] at hx;exact h.rule i x l hx (hpre i l (by omega) hl)
       · have hik:i=rule.length:=by
          have:=(List.getElem?_eq_some_iff.1 hx).1;simp at this;omega
         subst hik;simp only[List.getElem?_concat_length,Option.some.injEq] at hx;subst hx;have hlc:=hpre _ l (by omega) hl;rw[hrl,hk,hcur] at hlc;cases hlc;rfl⟩ (by simp[hk]) (by omega) hd
      exact⟨L,h1.trans g1,g2,g3⟩
theorem vB {ss:List bK}(hr:∀x∈ss,x.rule<=1000000):∀(l:List Nat) (b:Int),-1<=b/\b<=1000000-> -1<=qg ss l b/\qg ss l b<=1000000
 | [],b,h=>h
 |j::r,b,h=>by
  rw[qg];refine vB hr r _ ?_;split
  · rename_i x hx;split
    · have:=hr x (List.mem_of_getElem? hx);omega
    · exact h
  · exact h
theorem vw (hr:∀x∈ss,x.rule<=1000000) (l:List Nat) : -1<=aJ ss l/\aJ ss l<=1000000:=by
 unfold aJ;split
 · omega
 · exact vB hr l (-1) (by omega)
theorem mX.ok {L:List (List Nat)}{d:cg}(k:mX ss st L d) (hL:L.length=d.next.length) (hr:∀x∈ss,x.rule<=1000000):d.Ok:=by
 refine⟨k.rlen,by rw[<-hL];exact k.size,fun r hrm x hx=>?_,fun x hx=>?_⟩
 · obtain⟨i,hi⟩:=List.getElem?_of_mem hrm;obtain⟨j,hj⟩:=List.getElem?_of_mem hx;have hil:=(List.getElem?_eq_some_iff.1 hi).1;have hl:L[i]? =some (L[i]'(by omega)):=List.getElem?_eq_getElem _
   rcases k.row i r _ hi hl j x hj with ⟨_,rfl⟩|⟨_,i2,rfl,h2⟩
   · omega
   · have:=(List.getElem?_eq_some_iff.1 h2).1;omega
 · obtain⟨i,hi⟩:=List.getElem?_of_mem hx;have hil:=(List.getElem?_eq_some_iff.1 hi).1;have hl:L[i]? =some (L[i]'(by rw[hL,<-k.rlen];exact hil)):=List.getElem?_eq_getElem _;rw[k.rule i x _ hi hl];exact vw hr _
theorem iN {d:cg}(h:gr ss st= .inr d):(cu ss st).length≠0/\∃L,mX ss st L d/\L.length=d.next.length/\0<L.length:=by
 unfold gr at h;split at h
 · cases h
 · rename_i hs;refine⟨hs,?_⟩;split at h
   · cases h
   · rename_i d' hd;cases h;obtain⟨L,h1,h2,h3⟩:=rP (st:=st) 2002 0 [cu ss st] [] [] d ⟨rfl,by simp,by simp,rfl,fun k r l hr=>by simp at hr,fun k x l hx=>by simp at hx⟩ rfl (by simp) hd;exact⟨L,h2,h3,by have:=(List.getElem?_eq_some_iff.1 h2.first).1;omega⟩
theorem Ep {d:cg}(h:gr ss st= .inr d) (hr:∀x∈ss,x.rule<=1000000):d.Ok:=by
 obtain⟨_,L,h1,h2,_⟩:=iN h;exact h1.ok h2 hr
theorem mX.to {ss:List bK}{st0:Nat}{L:List (List Nat)}{d:cg}(k:mX ss st0 L d) (hL:L.length=d.next.length){st:Nat}{now:List Nat}(hn:L[st]? =some now) (c:UInt8):vJ L (bg ss c now) (d.to st c):=by
 have hl:=(List.getElem?_eq_some_iff.1 hn).1;have hr:d.next[st]? =some (d.next[st]'(by omega)):=List.getElem?_eq_getElem _
 obtain⟨x,hx,he,hm⟩:=(d.next[st]'(by omega)).at c;unfold cg.to;rw[hr];simp only;rw[he];have:=k.row st _ now hr hn c.toNat x hx
 rwa [UInt8.ofNat_toNat] at this
theorem mX.ru {ss:List bK}{st0:Nat}{L:List (List Nat)}{d:cg}(k:mX ss st0 L d) (hL:L.length=d.next.length){st:Nat}{now:List Nat}(hn:L[st]? =some now):d.ru st=aJ ss now:=by
 have hl:=(List.getElem?_eq_some_iff.1 hn).1;have hlt:st<d.rule.length:=by rw[k.rlen];omega
 have hr:d.rule[st]? =some (d.rule[st]'hlt):=List.getElem?_eq_getElem _;have:=k.rule st _ now hr hn;unfold cg.ru;rw[List.getD_eq_getElem?_getD,hr];exact this
theorem rO {ss:List bK}{st0:Nat}{L:List (List Nat)}{d:cg}(k:mX ss st0 L d) (hL:L.length=d.next.length):∀(l:By) (st j:Nat) (now:List Nat) (b:Int×Int),L[st]? =some now->now.length≠0 ->
 ((bq d l st j b).1,(bq d l st j b).2.1)=ck ss l now j b
 | [],st,j,now,b,hn,h0=>by
  rw[bq,ck,if_neg h0,k.ru hL hn];split<;>rfl
 |c::l,st,j,now,b,hn,h0=>by
  rw[bq,ck,if_neg h0,k.ru hL hn]
  rcases k.to hL hn c with ⟨e,h⟩|⟨e,i,h,hi⟩
  · rw[h,if_neg (by decide),gj e];split<;>rfl
  · rw[h,if_pos (by omega),Int.toNat_natCast];exact rO k hL l i (j+1) _ _ hi e
theorem pY {d:cg}(h:gr ss st= .inr d) (hs:ss.length≠0) (l:By):((bq d l 0 0 (0,-1)).1,(bq d l 0 0 (0,-1)).2.1)=cP ss st l:=by
 obtain⟨h0,L,h1,h2,_⟩:=iN h;rw[cP,if_neg hs];exact rO h1 h2 l 0 0 _ _ h1.first h0
def cg.go (d:cg):By->Int->Int
 | [],s=>s
 |c::l,s=>cg.go d l (if s<0 then -1 else d.to s.toNat c)
def cg.fI (d:cg) (s:Int) (w:By):Int:=if d.go w s<0 then -1 else d.ru (d.go w s).toNat
theorem go_neg (d:cg):∀(w:By) (s:Int),s<0->d.go w s<0
 | [],s,h=>h
 |c::l,s,h=>by
  rw[cg.go,if_pos h];exact go_neg d l (-1) (by decide)
theorem j8 (d:cg) (w:By){s:Int}(h:s<0):d.fI s w= -1:=by rw[cg.fI,if_pos (go_neg d w s h)]
theorem dX (d:cg) (k:Nat):d.fI (k:Int) []=d.ru k:=by
 rw[cg.fI,cg.go,if_neg (by omega),Int.toNat_natCast]
theorem eF (d:cg) (k:Nat) (c:UInt8) (w:By):d.fI (k:Int) (c::w)=d.fI (d.to k c) w:=by
 have h:¬((k:Int)<0):=by omega
 rw[cg.fI,cg.fI,cg.go,if_neg h,Int.toNat_natCast]
def G3 (d:cg) (k:Nat):Prop:=∃w,0<=d.fI (k:Int) w
def gZ (d:cg) (out:List Bool):Prop:=∀k:Nat,out.getD k false=true->G3 d k
theorem Fm {d:cg}{t:Int}(h:t∈d.row k):∃c:UInt8,d.to k c=t:=by
 unfold cg.row at h;split at h
 · rename_i r hr;obtain⟨i,hi⟩:=List.getElem?_of_mem h;have hl:=(List.getElem?_eq_some_iff.1 hi).1;rw[r.len] at hl;refine⟨UInt8.ofNat i,?_⟩;have hc:(UInt8.ofNat i).toNat=i:=by simp;omega
   unfold cg.to;rw[hr];simp only;rw[hc,List.getD_eq_getElem?_getD,hi];rfl
 · cases h
theorem I8 {d:cg}(c:UInt8) (h:k<d.next.length):d.to k c∈d.row k:=by
 have hr:d.next[k]? =some (d.next[k]'h):=List.getElem?_eq_getElem _
 obtain⟨x,hx,he,hm⟩:=(d.next[k]'h).at c;unfold cg.to cg.row;rw[hr];simp only;rw[he];exact hm
theorem yx {d:cg}{out:List Bool}(h:gZ d out) (k:Nat) (ha:dR d out k=true):G3 d k:=by
 unfold dR at ha
 rcases Bool.or_eq_true _ _▸ha with e|e
 · exact⟨[],by rw[dX];exact of_decide_eq_true e⟩
 · obtain⟨t,ht,hl⟩:=List.any_eq_true.1 e;unfold gm at hl;rw[Bool.and_eq_true] at hl;have h0:=of_decide_eq_true hl.1;obtain⟨c,hc⟩:=Fm ht;obtain⟨w,hw⟩:=h t.toNat hl.2;refine⟨c::w,?_⟩;rw[eF,hc]
   rwa [Int.toNat_of_nonneg h0] at hw
theorem DJ {d:cg}{out:List Bool}(h:gZ d out) (k:Nat):gZ d (out.set k (dR d out k)):=by
 intro j hj
 by_cases e:k=j
 · subst e;rw[List.getD_eq_getElem?_getD] at hj
   by_cases hk:k<out.length
   · rw[List.getElem?_set_self hk] at hj;exact yx h k hj
   · rw[List.getElem?_eq_none (by simp;omega)] at hj;cases hj
 · rw[List.getD_eq_getElem?_getD,List.getElem?_set_ne e,<-List.getD_eq_getElem?_getD] at hj;exact h j hj
theorem jh {d:cg}:∀(n k:Nat) (out:List Bool) (ag:Bool),gZ d out->gZ d (cA d n k out ag).1
 | 0,_,_,_,h=>h
 |n+1,k,out,ag,h=>by
  rw[cA];split
  · exact jh n (k+1) out ag h
  · exact jh n (k+1) _ _ (DJ h k)
theorem jg {d:cg}:∀(n k:Nat) (out:List Bool) (ag:Bool),k+n<=out.length->(cA d n k out ag).2=false->(cA d n k out ag).1=out/\∀j,k<=j->j<k+n->out.getD j false=false->dR d out j=false
 | 0,_,_,_,_,_=>⟨rfl,fun j h1 h2=>by omega⟩
 |n+1,k,out,ag,hk,h=>by
  rw[cA] at h ⊢;split at h
  · rename_i hg;rw[if_pos hg];obtain⟨h1,h2⟩:=jg n (k+1) out ag (by omega) h
    exact⟨h1,fun j hj1 hj2 hj3=>by
     by_cases e:j=k
     · subst e;rw[hg] at hj3;cases hj3
     · exact h2 j (by omega) (by omega) hj3⟩
  · rename_i hg;rw[if_neg hg]
    have hf:out[k]? =some false:=by
     rw[List.getD_eq_getElem?_getD,List.getElem?_eq_getElem (by omega)] at hg;rw[List.getElem?_eq_getElem (by omega)];simpa using hg
    obtain⟨h1,h2⟩:=jg n (k+1) _ _ (by simp;omega) h
    have hb:dR d out k=false:=by
     cases hb:dR d out k with
     |false=>rfl
     |true =>
      exfalso;rw[hb,Bool.or_true] at h
      have hmono:∀(n k:Nat) (out:List Bool),(cA d n k out true).2=true:=fun n=>by
       induction n with
       |zero=>intro k out;rfl
       |succ n ih=>intro k out;rw[cA];split<;>simp[ih]
      rw[hmono] at h;cases h
    have hset:out.set k (dR d out k)=out:=by
     rw[hb]
     apply List.ext_getElem?
     intro j
     by_cases e:k=j
     · subst e;rw[List.getElem?_set_self (by omega),hf]
     · rw[List.getElem?_set_ne e]
    rw[hset] at h1 h2;rw[hset]
    exact⟨h1,fun j hj1 hj2 hj3=>by
     by_cases e:j=k
     · subst e;exact hb
     · exact h2 j (by omega) (by omega) hj3⟩
def vI (d:cg) (out:List Bool):Prop:=∀k,k<d.next.length->out.getD k false=false->dR d out k=false
theorem uj {d:cg}:∀(n:Nat) (out:List Bool),out.length=d.next.length->gq out<n->gZ d out->gZ d (pH d n out)/\vI d (pH d n out)
 | 0,_,_,h,_=>absurd h (Nat.not_lt_zero _)
 |n+1,out,hl,hf,hs=>by
  have hless:=ig d d.next.length 0 out false (by omega)
  have hsp:=jh d.next.length 0 out false hs
  rw[pH];split
  · rename_i ht
    rcases hless.2 ht with e|e
    · cases e
    · exact uj n _ (by rw[gI];exact hl) (by omega) hsp
  · rename_i ht;have hst:=jg d.next.length 0 out false (by omega) (by simpa using ht)
    rw[hst.1];exact⟨hs,fun k hk hko=>hst.2 k (Nat.zero_le _) (by omega) hko⟩
theorem p8 {d:cg}{out:List Bool}(hok:d.Ok) (h:vI d out):∀(w:By) (k:Nat),k<d.next.length->0<=d.fI (k:Int) w->out.getD k false=true
 | [],k,hk,hw=>by
  rw[dX] at hw;cases ho:out.getD k false with
  |true=>rfl
  |false =>
   have:=h k hk ho;unfold dR at this;rw[decide_eq_true hw] at this;cases this
 |c::w,k,hk,hw=>by
  rw[eF] at hw;have ht:=cg.oU hok (s:=k) c
  have h0:0<=d.to k c:=by
   by_cases e:d.to k c<0
   · rw[j8 d w e] at hw;omega
   · omega
  obtain⟨t,htt⟩:=Int.eq_ofNat_of_zero_le h0;rw[htt] at hw;have ih:=p8 hok h w t (by omega) hw;cases ho:out.getD k false with
  |true=>rfl
  |false =>
   have:=h k hk ho;unfold dR at this;rw[Bool.or_eq_false_iff] at this;have h2:=List.any_eq_false.1 this.2 _ (I8 c hk);unfold gm at h2;rw[htt,Int.toNat_natCast,ih] at h2;simp at h2
theorem uh {d:cg}(hok:d.Ok) (hk:k<d.next.length):(bH d).getD k false=true↔G3 d k:=by
 have h:=uj (d:=d) (d.next.length+1) (List.replicate d.next.length false) (by simp) (by
  have:gq (List.replicate d.next.length false)<=d.next.length:=by unfold gq;exact Nat.le_trans (List.length_filter_le _ _) (by simp)
  omega) (fun k hk=>by
   rw[List.getD_eq_getElem?_getD,List.getElem?_replicate] at hk;split at hk<;>cases hk)
 exact⟨h.1 k,fun⟨w,hw⟩=>p8 hok h.2 w k hk hw⟩
structure Dr (d:cg) (live:List Bool) (cls:List Int) (k:Nat) (seen:List (List Int)) (after:List Int):Prop where
 len:after.length=k
 once:seen.Nodup
 at_:∀j,j<k->∃i:Nat,after[j]? =some (i:Int)/\seen[i]? =some (fA d live cls j)
theorem uN:∀(ls:List (List Int)) (i:Nat) (l:List Int),jE i ls l=none->l∉ls
 | [],i,l,_=>List.not_mem_nil
 |x::r,i,l,h=>by
  rw[jE] at h;split at h
  · cases h
  · rename_i e;have:=uN r (i+1) l h;simp only[List.mem_cons,not_or];exact⟨e,this⟩
theorem jN {d:cg}{live:List Bool}{cls:List Int}:∀(n k:Nat) (seen:List (List Int)) (after:List Int),Dr d live cls k seen after->Dr d live cls (k+n) (bF d live cls n k seen after).1 (bF d live cls n k seen after).2
 | 0,k,seen,after,h=>h
 |n+1,k,seen,after,h=>by
  rw[bF,show k+(n+1)=(k+1)+n by omega];split
  · rename_i i hi;have hi':=oC seen 0 i _ hi;refine jN n (k+1) _ _ ⟨by simp[h.len],h.once,fun j hj=>?_⟩
    by_cases e:j=k
    · subst e;refine⟨i,?_,hi'.2⟩;rw[<-h.len,List.getElem?_concat_length]
    · obtain⟨i',h1,h2⟩:=h.at_ j (by omega);exact⟨i',by rw[List.getElem?_append_left (by rw[h.len];omega)];exact h1,h2⟩
  · rename_i hi;have hno:=uN seen 0 _ hi;refine jN n (k+1) _ _ ⟨by simp[h.len],List.nodup_append.2 ⟨h.once,by simp,fun a ha b hb e=>?_⟩,fun j hj=>?_⟩
    · have:b=fA d live cls k:=by simpa using hb
      rw[e,this] at ha;exact hno ha
    · by_cases e:j=k
      · subst e;refine⟨seen.length,?_,by rw[List.getElem?_concat_length]⟩;rw[<-h.len,List.getElem?_concat_length]
      · obtain⟨i',h1,h2⟩:=h.at_ j (by omega);exact⟨i',by rw[List.getElem?_append_left (by rw[h.len];omega)];exact h1,by rw[List.getElem?_append_left (List.getElem?_eq_some_iff.1 h2).1];exact h2⟩
theorem jO {d:cg}{live:List Bool}(hs:s<d.next.length) (ht:t<d.next.length) :
 (bF d live cls d.next.length 0 [] []).2.getD s 0=(bF d live cls d.next.length 0 [] []).2.getD t 0↔fA d live cls s=fA d live cls t:=by
 have h:=jN (d:=d) (live:=live) (cls:=cls) d.next.length 0 [] [] ⟨rfl,by simp,fun j hj=>absurd hj (Nat.not_lt_zero _)⟩
 rw[Nat.zero_add] at h;obtain⟨i,h1,h2⟩:=h.at_ s hs;obtain⟨j,h3,h4⟩:=h.at_ t ht;rw[List.getD_eq_getElem?_getD,List.getD_eq_getElem?_getD,h1,h3];constructor
 · intro e
   have:i=j:=by
    have e':(i:Int)=(j:Int):=e;omega
   subst this;rw[h2] at h4;exact Option.some.inj h4
 · intro e;rw[<-e] at h4;have hi:=(List.getElem?_eq_some_iff.1 h2)
   have hj:=(List.getElem?_eq_some_iff.1 h4)
   obtain⟨hi1,hi2⟩:=hi;obtain⟨hj1,hj2⟩:=hj
   have:i=j:=by
    rcases Nat.lt_trichotomy i j with e|e|e
    · exact absurd (hi2.trans hj2.symm) (List.pairwise_iff_getElem.1 h.once i j hi1 hj1 e)
    · exact e
    · exact absurd (hj2.trans hi2.symm) (List.pairwise_iff_getElem.1 h.once j i hj1 hi1 e)
   subst this;rfl
theorem rS:∀(m:Nat) (l:List Int),js m l->l.length=m->l.Nodup
 | 0,l,_,hl=>by rw[List.length_eq_zero_iff.1 hl];exact List.Pairwise.nil
 |m+1,l,h,hl=>by
  have hm:=h m (Nat.lt_succ_self m);have h1:js m (l.erase (m:Int)):=fun i hi=>(List.mem_erase_of_ne (by omega)).2 (h i (by omega))
  have h3:=List.length_erase_of_mem hm;have h2:=rS m _ h1 (by omega)
  have hno:(m:Int)∉l.erase (m:Int):=fun hin=>by
   have h4:js m ((l.erase (m:Int)).erase (m:Int)):=fun i hi=>(List.mem_erase_of_ne (by omega)).2 (h1 i hi)
   have h5:=oH _ _ h4;have h6:=List.length_erase_of_mem hin;have h7:=List.length_pos_of_mem hin;omega
  exact(List.perm_cons_erase hm).nodup_iff.2 (List.nodup_cons.2 ⟨hno,h2⟩)
theorem pg {d:cg}(hs:s<d.next.length) (c:UInt8):(d.row s)[c.toNat]? =some (d.to s c):=by
 have hr:d.next[s]? =some (d.next[s]'hs):=List.getElem?_eq_getElem _
 obtain⟨x,hx,he,_⟩:=(d.next[s]'hs).at c;unfold cg.row cg.to;rw[hr];simp only;rw[he];exact hx
theorem yb {d:cg}(hs:s<d.next.length):(d.row s).length=256:=by
 have hr:d.next[s]? =some (d.next[s]'hs):=List.getElem?_eq_getElem _
 unfold cg.row;rw[hr];exact(d.next[s]'hs).len
theorem CW {d:cg}(hs:s<d.next.length) (ht:t<d.next.length) (f:Int->Int):(d.row s).map f=(d.row t).map f↔∀c:UInt8,f (d.to s c)=f (d.to t c):=by
 constructor
 · intro e c;have:=congrArg (fun l=>l[c.toNat]?) e;simp only[List.getElem?_map,pg hs c,pg ht c,Option.map_some,Option.some.injEq] at this;exact this
 · intro h
   apply List.ext_getElem?
   intro i
   by_cases hi:i<256
   · have hc:(UInt8.ofNat i).toNat=i:=by simp;omega
     have h1:=pg hs (UInt8.ofNat i);have h2:=pg ht (UInt8.ofNat i);rw[hc] at h1 h2;rw[List.getElem?_map,List.getElem?_map,h1,h2,Option.map_some,Option.map_some,h]
   · rw[List.getElem?_eq_none (by rw[List.length_map,yb hs];omega),List.getElem?_eq_none (by rw[List.length_map,yb ht];omega)]
def Alike (d:cg) (a b:Int):Prop:=∀w,d.fI a w=d.fI b w
theorem CR {d:cg}(hok:d.Ok) (a:Int) (w:By) : -1<=d.fI a w:=by
 unfold cg.fI;split
 · omega
 · unfold cg.ru;rw[List.getD_eq_getElem?_getD];cases h:d.rule[(d.go w a).toNat]? with
   |none=>decide
   |some x=>exact(hok.ru x (List.mem_of_getElem? h)).1
theorem jm {d:cg}(hok:d.Ok){a:Int}(ha:a<d.next.length):(a<0\/(bH d).getD a.toNat false=false)↔∀w,d.fI a w= -1:=by
 constructor
 · intro h w
   rcases h with h|h
   · exact j8 d w h
   · by_cases hn:a<0
     · exact j8 d w hn
     · obtain⟨k,rfl⟩:=Int.eq_ofNat_of_zero_le (show 0<=a by omega);have hl:=uh hok (k:=k) (by omega);have hg:=CR hok (k:Int) w
       by_cases hw:0<=d.fI (k:Int) w
       · rw[Int.toNat_natCast,hl.2 ⟨w,hw⟩] at h;cases h
       · omega
 · intro h
   by_cases hn:a<0
   · exact .inl hn
   · right
     obtain⟨k,rfl⟩:=Int.eq_ofNat_of_zero_le (show 0<=a by omega);have hl:=uh hok (k:=k) (by omega);rw[Int.toNat_natCast];cases hb:(bH d).getD k false with
     |false=>rfl
     |true =>
      obtain⟨w,hw⟩:=hl.1 hb;have:=h w;omega
structure se (d:cg) (cls:List Int):Prop where
 len:cls.length=d.next.length
 ge:∀k,-1<=cls.getD k 0
 alike:∀s t:Nat,s<d.next.length->t<d.next.length->Alike d s t->cls.getD s 0=cls.getD t 0
 rule:∀s t:Nat,s<d.next.length->t<d.next.length->cls.getD s 0=cls.getD t 0->d.ru s=d.ru t
theorem za {d:cg}(hok:d.Ok) (k:se d cls){a b:Int}(ha:a<d.next.length) (hb:b<d.next.length) (h:Alike d a b):cG (bH d) cls a=cG (bH d) cls b:=by
 by_cases hd:a<0\/(bH d).getD a.toNat false=false
 · have hd':b<0\/(bH d).getD b.toNat false=false:=(jm hok hb).2 fun w=>by rw[<-h w];exact(jm hok ha).1 hd w
   rw[cG,if_pos hd,cG,if_pos hd']
 · have hd':¬(b<0\/(bH d).getD b.toNat false=false):=fun e=>hd ((jm hok ha).2 fun w=>by rw[h w];exact(jm hok hb).1 e w)
   rw[cG,if_neg hd,cG,if_neg hd']
   have ha0:0<=a:=by
    by_cases e:a<0
    · exact absurd (.inl e) hd
    · omega
   have hb0:0<=b:=by
    by_cases e:b<0
    · exact absurd (.inl e) hd'
    · omega
   exact k.alike a.toNat b.toNat (by omega) (by omega) (by rw[Int.toNat_of_nonneg ha0,Int.toNat_of_nonneg hb0];exact h)
theorem Ee {d:cg}(hok:d.Ok) (k:se d cls) (hs:s<d.next.length) (ht:t<d.next.length) (h:Alike d s t):fA d (bH d) cls s=fA d (bH d) cls t:=by
 unfold fA;rw[k.alike s t hs ht h,(CW hs ht _).2 fun c=>za hok k (cg.oU hok c).2 (cg.oU hok c).2 fun w=>by rw[<-eF,<-eF];exact h (c::w)]
theorem AS {d:cg}{live:List Bool}(h:fA d live cls s=fA d live cls t):cls.getD s 0=cls.getD t 0:=by
 unfold fA at h;exact(List.cons.inj h).1
theorem Fs {d:cg}(hok:d.Ok) (k:se d cls):se d (bF d (bH d) cls d.next.length 0 [] []).2:=by
 have hend:=eZ d (bH d) cls;refine⟨hend.len,fun j=>?_,fun s t hs ht h=>(jO hs ht).2 (Ee hok k hs ht h),fun s t hs ht h=>k.rule s t hs ht (AS ((jO hs ht).1 h))⟩;rw[List.getD_eq_getElem?_getD];cases hx:(bF d (bH d) cls d.next.length 0 [] []).2[j]? with
 |none=>decide
 |some x=>have:=hend.bound x (List.mem_of_getElem? hx);show -1<=x;omega
theorem sD {d:cg}(hok:d.Ok) (hs:s<d.next.length):d.rule.getD s 0=d.ru s:=by
 have hl:=hok.len;unfold cg.ru;rw[List.getD_eq_getElem?_getD,List.getD_eq_getElem?_getD,List.getElem?_eq_getElem (by omega)];rfl
theorem Fl {d:cg}(hok:d.Ok):se d d.rule:=by
 refine⟨hok.len,fun k=>?_,fun s t hs ht h=>?_,fun s t hs ht h=>?_⟩
 · rw[List.getD_eq_getElem?_getD];cases hx:d.rule[k]? with
   |none=>decide
   |some x=>exact(hok.ru x (List.mem_of_getElem? hx)).1
 · rw[sD hok hs,sD hok ht];have:=h []
   rwa [dX,dX] at this
 · rwa [sD hok hs,sD hok ht] at h
theorem oV {d:cg}(hok:d.Ok){cls:List Int}(k:se d cls) (hst:∀s t,s<d.next.length->t<d.next.length->cls.getD s 0=cls.getD t 0->fA d (bH d) cls s=fA d (bH d) cls t):∀(w:By) (s t:Nat),s<d.next.length->t<d.next.length->cls.getD s 0=cls.getD t 0->d.fI (s:Int) w=d.fI (t:Int) w
 | [],s,t,hs,ht,h=>by rw[dX,dX];exact k.rule s t hs ht h
 |c::w,s,t,hs,ht,h=>by
  rw[eF,eF];have hk:=hst s t hs ht h;unfold fA at hk;have hb:=(CW hs ht _).1 (List.cons.inj hk).2 c;have ha:=(cg.oU hok (s:=s) c).2;have hb2:=(cg.oU hok (s:=t) c).2;generalize d.to s c=a at *;generalize d.to t c=b at *
  by_cases hd:a<0\/(bH d).getD a.toNat false=false
  · have hd':b<0\/(bH d).getD b.toNat false=false:=by
     by_cases e:b<0\/(bH d).getD b.toNat false=false
     · exact e
     · rw[cG,if_pos hd,cG,if_neg e] at hb;have:=k.ge b.toNat;omega
    rw[(jm hok ha).1 hd w,(jm hok hb2).1 hd' w]
  · by_cases hd':b<0\/(bH d).getD b.toNat false=false
    · rw[cG,if_neg hd,cG,if_pos hd'] at hb;have:=k.ge a.toNat;omega
    · rw[cG,if_neg hd,cG,if_neg hd'] at hb
      have ha0:0<=a:=by
       by_cases e:a<0
       · exact absurd (.inl e) hd
       · omega
      have hb0:0<=b:=by
       by_cases e:b<0
       · exact absurd (.inl e) hd'
       · omega
      have ih:=oV hok k hst w a.toNat b.toNat (by omega) (by omega) hb
      rwa [Int.toNat_of_nonneg ha0,Int.toNat_of_nonneg hb0] at ih
theorem rU {d:cg}(hok:d.Ok):∀(n many:Nat) (cls:List Int),se d cls->js many cls->many<=d.next.length->d.next.length+1<=n+many->se d (jP d (bH d) n many cls)/\∀s t:Nat,s<d.next.length->t<d.next.length->(jP d (bH d) n many cls).getD s 0=(jP d (bH d) n many cls).getD t 0->Alike d s t
 | 0,many,cls,k,hc,hm,hf=>by omega
 |n+1,many,cls,k,hc,hm,hf=>by
  have hend:=eZ d (bH d) cls;have hmore:=mN (live:=bH d) hc k.len;have hp:=Fs hok k;rw[jP];split
  · rename_i he;refine⟨hp,fun s t hs ht h w=>?_⟩;have hkey:=(jO hs ht).1 h;refine oV hok k (fun s t hs ht h=>?_) w s t hs ht (AS hkey)
    have hcov:js many ((bF d (bH d) cls d.next.length 0 [] []).1.map fun s=>s.getD 0 0):=fun i hi=>by
     obtain⟨k',hk'⟩:=List.getElem?_of_mem (hc i hi);have hkl:=(List.getElem?_eq_some_iff.1 hk').1;have:=hend.all k' (by have:=k.len;omega);refine List.mem_map.2 ⟨_,this,?_⟩;simp[fA,List.getD_eq_getElem?_getD,hk']
    have hon:=rS many _ hcov (by simpa using he);obtain⟨i,hi⟩:=List.getElem?_of_mem (hend.all s hs);obtain⟨j,hj⟩:=List.getElem?_of_mem (hend.all t ht);have h1:((bF d (bH d) cls d.next.length 0 [] []).1.map fun s=>s.getD 0 0)[i]? =some (cls.getD s 0):=by rw[List.getElem?_map,hi];rfl
    have h2:((bF d (bH d) cls d.next.length 0 [] []).1.map fun s=>s.getD 0 0)[j]? =some (cls.getD s 0):=by rw[List.getElem?_map,hj,h];rfl
    obtain⟨hi1,hi2⟩:=List.getElem?_eq_some_iff.1 h1;obtain⟨hj1,hj2⟩:=List.getElem?_eq_some_iff.1 h2
    have hij:i=j:=by
     rcases Nat.lt_trichotomy i j with e|e|e
     · exact absurd (hi2.trans hj2.symm) (List.pairwise_iff_getElem.1 hon i j hi1 hj1 e)
     · exact e
     · exact absurd (hj2.trans hi2.symm) (List.pairwise_iff_getElem.1 hon j i hj1 hi1 e)
    subst hij;rw[hi] at hj;exact Option.some.inj hj
  · rename_i hne;have hsz:=hend.size;exact rU hok n _ _ hp hend.nums hsz (by omega)
theorem mO {d:cg}(hok:d.Ok) (hs:s<d.next.length) (ht:t<d.next.length):(ei d (bH d)).getD s 0=(ei d (bH d)).getD t 0↔Alike d s t:=by
 have h:=rU hok (d.next.length+1) 0 d.rule (Fl hok) (fun i hi=>absurd hi (Nat.not_lt_zero _)) (Nat.zero_le _) (by omega);exact⟨h.2 s t hs ht,h.1.alike s t hs ht⟩
def iL (B:Nat) (ss:List bK):Prop:=∀x∈ss,x.rule<=B
theorem iL.snoc {B:Nat}(k:iL B ss){x:bK}(h:x.rule<=B):iL B (ss++[x]):=fun y hy=>by
 rcases List.mem_append.1 hy with e|e
 · exact k y e
 · have:y=x:=by simpa using e
   rw[this];exact h
theorem iL.set {B:Nat}{ss:List bK}(k:iL B ss){x:bK}(h:x.rule<=B) (i:Nat):iL B (ss.set i x):=fun y hy=>by
 rcases List.mem_or_eq_of_mem_set hy with e|e
 · exact k y e
 · rw[e];exact h
end
mutual
theorem yA (B:Nat):∀(x:Nd) (ss:List bK) (to:Nat),iL B ss->iL B (lay x ss to).1
 |.mk k s kids,ss,to,h=>by
  rw[lay];split
  · exact h.snoc (Nat.zero_le _)
  · split
    · exact xe B kids ss to h
    · split
      · exact(xh B kids ss to h).snoc (Nat.zero_le _)
      · split
        · exact(wZ B kids ss to h).snoc (Nat.zero_le _)
        · split
          · exact(wZ B kids _ _ (h.snoc (Nat.zero_le _))).set (Nat.zero_le _) _
          · exact h
theorem xe (B:Nat):∀(l:List Nd) (ss:List bK) (to:Nat),iL B ss->iL B (bJ l ss to).1
 | [],ss,to,h=>by rw[bJ];exact h
 |x::r,ss,to,h=>by rw[bJ];exact yA B x _ _ (xe B r ss to h)
theorem xh (B:Nat):∀(l:List Nd) (ss:List bK) (to:Nat),iL B ss->iL B (bA l ss to).1
 | [],ss,to,h=>by rw[bA];exact h
 |x::r,ss,to,h=>by rw[bA];exact xh B r _ to (yA B x ss to h)
theorem wZ (B:Nat):∀(l:List Nd) (ss:List bK) (to:Nat),iL B ss->iL B (cC l ss to).1
 | [],ss,to,h=>by rw[cC];exact h
 |x::r,ss,to,h=>by rw[cC];exact yA B x ss to h
end
section
variable {ss:List bK}{st s k t:Nat}{cls:List Int}
theorem AG (B:Nat):∀(i:Nat) (rules:List By) (ss:List bK) (t:List Nat) (ss':List bK) (t':List Nat),i+rules.length<=B->iL B ss->kr i rules ss t= .inr (ss',t')->iL B ss'
 |i,[],ss,t,ss',t',_,h,hm=>by
  rw[kr] at hm;cases hm;exact h
 |i,s::r,ss,t,ss',t',hB,h,hm=>by
  rw[List.length_cons] at hB;rw[kr] at hm;split at hm
  · cases hm
  · exact AG B (i+1) r _ _ ss' t' (by omega) (yA B _ _ _ (h.snoc (by show i<=B;omega))) hm
theorem FT {rules:List By}(h:fk rules= .inr (ss,st)):∀x∈ss,x.rule<=1000000:=by
 unfold fk at h;split at h
 · cases h
 · rename_i hn;split at h
   · cases h
   · rename_i ss1 t1 hg;split at h
     · cases h
     · cases h;have:=AG 64 0 rules [] [] ss1 t1 (by omega) (fun x hx=>(by cases hx)) hg;intro x hx;have:=(this.snoc (x:=⟨0,0,t1,0⟩) (Nat.zero_le _)) x hx;omega
end
end Go.Proofs.YtmehdcdbeafljaaGreatDoor
namespace Go.Proofs.YtmehdcdbeafljaaGreatDoor
open Go Go.Lw
set_option maxRecDepth 20000
def lA (rules:List By):Int ⊕ cg:=match fk rules with
 |.inl e=>.inl e
 |.inr (ss,st)=>gr ss st
theorem nw {rules:List By}{d:cg}(h:lA rules= .inr d):d.Ok/\0<d.next.length:=by
 unfold lA at h;split at h
 · cases h
 · rename_i ss st hm;refine⟨Ep h (FT hm),?_⟩;obtain⟨_,L,_,h2,h3⟩:=iN h;omega
theorem zL {rules:List By}{d:cg}(h:lA rules= .inr d) (s:By) (a:Int):((dK d s a).1,(dK d s a).2.1)=yu rules s a:=by
 have hd:=(nw h).2;unfold lA at h;split at h
 · cases h
 · rename_i ss st hm;have hst:=(gk hm).stl;unfold yu B1 dK;rw[hm];simp only
   by_cases ha:a<0\/(s.length:Int)<a
   · rw[if_pos (.inr ha),if_pos (.inr ha)]
   · rw[if_neg (by omega),if_neg (by omega)];exact pY h (by omega) _
end Go.Proofs.YtmehdcdbeafljaaGreatDoor

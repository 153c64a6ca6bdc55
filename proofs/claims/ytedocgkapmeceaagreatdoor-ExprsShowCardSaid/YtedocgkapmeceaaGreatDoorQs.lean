/- What the proof of the statement leans on (part 19). -/
import Derived.Lib.ItoaLen
import Derived.Test.YtedocgkapmeceaaGreatDoorQr

namespace Go.Proofs.YtedocgkapmeceaaGreatDoor
open Go
def gq (l:List Int):By:=l.flatMap fun n=>Lib.itoa n++[32]
theorem rE (u:Nat):∀c∈Lib.decDigits u,48≤c.toNat∧c.toNat≤57:=by
 induction u using Nat.strongRecOn with
 |_ u ih =>
  intro c hc;rw[Lib.decDigits] at hc;split at hc
  · rename_i h;simp at hc;subst hc;simp;omega
  · rename_i h
    rcases List.mem_append.1 hc with k|k
    · exact ih (u / 10) (by omega) c k
    · simp at k;subst k;have:u%10<10:=Nat.mod_lt _ (by decide);simp;omega
def Gl (l:By):Nat:=l.foldl (fun a c=>a*10+(c.toNat-48)) 0
theorem tD (u:Nat):Gl (Lib.decDigits u)=u:=by
 induction u using Nat.strongRecOn with
 |_ u ih =>
  rw[Lib.decDigits];split
  · rename_i h;simp[Gl];omega
  · rename_i h;have h1:=ih (u / 10) (by omega);unfold Gl at h1 ⊢;rw[List.foldl_append,h1];have:u%10<10:=Nat.mod_lt _ (by decide);simp;omega
theorem uN (n:Int):∀c∈Lib.itoa n,c≠32:=by
 intro c hc e;subst e;unfold Lib.itoa at hc;split at hc
 · rcases List.mem_cons.1 hc with k|k
   · cases k
   · have:=(rE _ _ k).1;simp at this
 · have:=(rE _ _ hc).1;simp at this
theorem F5 {m n:Int}(h:Lib.itoa m=Lib.itoa n):m=n:=by
 have neg:∀a b:Nat,45::Lib.decDigits a≠Lib.decDigits b:=fun a b e=>by
  have:(45:UInt8)∈Lib.decDigits b:=by rw[←e];exact List.mem_cons_self
  have:=(rE _ _ this).1;simp at this
 unfold Lib.itoa at h;split at h<;>split at h
 · have h:=congrArg Gl (List.cons.inj h).2;rw[tD,tD] at h;omega
 · exact absurd h (neg _ _)
 · exact absurd h.symm (neg _ _)
 · have h:=congrArg Gl h;rw[tD,tD] at h;omega
theorem sF:∀(a b r s:By),(∀c∈a,c≠32)→(∀c∈b,c≠32)→a++32::r=b++32::s→a=b∧r=s
 | [],[],r,s,_,_,h=>by simpa using h
 | [],d::b,r,s,_,hb,h=>by
  simp only[List.nil_append,List.cons_append,List.cons.injEq] at h;exact absurd h.1.symm (hb d List.mem_cons_self)
 |c::a,[],r,s,ha,_,h=>by
  simp only[List.nil_append,List.cons_append,List.cons.injEq] at h;exact absurd h.1 (ha c List.mem_cons_self)
 |c::a,d::b,r,s,ha,hb,h=>by
  simp only[List.cons_append,List.cons.injEq] at h;have:=sF a b r s (fun x hx=>ha x (List.mem_cons_of_mem _ hx)) (fun x hx=>hb x (List.mem_cons_of_mem _ hx)) h.2;exact⟨by rw[h.1,this.1],this.2⟩
theorem key_inj:∀{l m:List Int},gq l=gq m→l=m
 | [],[],_=>rfl
 | [],n::m,h=>by
  have:=congrArg List.length h;simp[gq] at this
 |n::l,[],h=>by
  have:=congrArg List.length h;simp[gq] at this
 |n::l,k::m,h=>by
  have h':Lib.itoa n++32::gq l=Lib.itoa k++32::gq m:=by simpa [gq] using h
  obtain⟨h1,h2⟩:=sF _ _ _ _ (uN n) (uN k) h';rw[F5 h1,key_inj h2]
theorem yG:∀(l:List Int),(∀n∈l,-9223372036854775808≤n∧n≤9223372036854775807)→(gq l).length≤22*l.length
 | [],_=>by simp[gq]
 |n::l,h=>by
  have h1:=yG l (fun x hx=>h x (List.mem_cons_of_mem _ hx));have hn:=h n List.mem_cons_self;have h2:=Lib.itoa_length_le n hn.1 hn.2;have e:gq (n::l)=Lib.itoa n++[32]++gq l:=rfl;have h3:(gq (n::l)).length=(Lib.itoa n).length+1+(gq l).length:=by rw[e,List.length_append,List.length_append];rfl
  rw[h3,List.length_cons];omega
theorem F3 (l:List Int) (n:Int):gq (l++[n])=gq l++Lib.itoa n++[32]:=by simp[gq]
end Go.Proofs.YtedocgkapmeceaaGreatDoor
namespace Go.Proofs.YtedocgkapmeceaaGreatDoor
open Go.Proofs.Tryz
open Go Go.Lw
set_option maxRecDepth 20000
section
variable {h:aD}{b:Nat}{v:Value}
theorem bInfo:∃j,Tryz.prog.info? 178=some j∧j.size≠0:=⟨_,rfl,by decide⟩
theorem IS:∃i,Tryz.prog.info? 5=some i∧i.zero=some (.int .u8 0)∧i.size=1∧i.bytes=1:=⟨_,rfl,rfl,rfl,rfl⟩
theorem KX:liesAt Tryz.prog Tryz.prog.depth 178 (2 / Tryz.prog.cellsOf 178) 0 178 1=true:=by kernel_rfl
theorem G0:Tryz.prog.cellsOf 5=1:=by kernel_rfl
theorem sY (hb:bq h b 178 [.pointer none,v]) :
 ai Tryz.prog 140 #[.pointer (some ⟨b,0,none⟩)] h (cL fun _ h'=>bq h' b 178 [.pointer (some ⟨b,0,none⟩),v]∧Ext (fun i=>i=b) h h'∧h'.size=h.size):=by
 obtain⟨j,hj,hj0⟩:=bInfo;refine ai.of func140 rfl rfl ?_;refine br func140 2 rfl ?_;refine xp rfl (af (off:=0) underlying178 rfl rfl H.zS rfl) ?_;refine xp rfl (ah H.GH rfl (hb.cell (i:=0) rfl)) ?_;refine xp rfl (aj.rC underlying176 rfl rfl) ?_;refine xd [0,6] rfl ?_;refine aI rfl rfl (fun _=>?_) (fun hc=>absurd hc (by decide));refine G.bT func140 rfl ?_;refine bP 2 rfl rfl (aj.EU underlying176 underlying240 hj hj0 hb (by simp) rfl) ?_;refine xp rfl (aj.FB func158 (by decide +kernel) (by kernel_rfl) (by kernel_rfl) (by kernel_rfl) rfl) ?_;refine xp rfl (aj.Ci underlying240 underlying176 hj hb KX rfl) ?_;refine bP 1 rfl rfl (af (off:=0) underlying178 rfl rfl H.zS rfl) ?_;refine RW.bZ rfl rfl rfl (aC.bF H.zS rfl rfl hb (by first|decide|exact of_decide_eq_true rfl|(simp;done)|(simp;omega)) rfl) ?_;rintro _ h1 ⟨rfl,hb1,hx1,hs1⟩;refine xd [0,6] rfl ?_;refine G.u6 func140 rfl ?_;exact⟨_,rfl,hb1,hx1,hs1⟩
theorem vg (hb:bq h b 178 [.pointer (some ⟨b,0,none⟩),v]) :
 ai Tryz.prog 140 #[.pointer (some ⟨b,0,none⟩)] h (cL fun _ h'=>bq h' b 178 [.pointer (some ⟨b,0,none⟩),v]∧Ext (fun i=>i=b) h h'∧h'.size=h.size):=by
 obtain⟨j,hj,hj0⟩:=bInfo;refine ai.of func140 rfl rfl ?_;refine br func140 2 rfl ?_;refine xp rfl (af (off:=0) underlying178 rfl rfl H.zS rfl) ?_;refine xp rfl (ah H.GH rfl (hb.cell (i:=0) rfl)) ?_;refine xp rfl (aj.rC underlying176 rfl rfl) ?_;refine xd [0,6] rfl ?_;refine aI rfl rfl (fun hc=>absurd hc Bool.false_ne_true) (fun _=>?_);refine br func140 2 rfl ?_;refine xp rfl (af (off:=0) underlying178 rfl rfl H.zS rfl) ?_;refine xp rfl (ah H.GH rfl (hb.cell (i:=0) rfl)) ?_;refine bP 1 rfl rfl (aj.B1 underlying176 hj rfl rfl) ?_;refine xd [0,6,19] rfl ?_;refine aI rfl rfl (fun hc=>absurd hc Bool.false_ne_true) (fun _=>?_);refine aE rfl ?_;refine G.u6 func140 rfl ?_;exact⟨_,rfl,hb,Ext.refl _ _,rfl⟩
theorem iA {p:Value}(hb:bq h b 178 [p,v]) (hp:p= .pointer none∨p= .pointer (some ⟨b,0,none⟩)) :
 ai Tryz.prog 140 #[.pointer (some ⟨b,0,none⟩)] h (cL fun _ h'=>bq h' b 178 [.pointer (some ⟨b,0,none⟩),v]∧Ext (fun i=>i=b) h h'∧h'.size=h.size):=by
 rcases hp with rfl|rfl
 · exact sY hb
 · exact vg hb
theorem dU {l:List UInt8}(s:ByteArray) (hb:jY h b 178 5 l) (hl:l.length+s.size≤140737488355328) :
 ai Tryz.prog 106 #[.pointer (some ⟨b,0,none⟩),.string s] h (cL fun r h'=>r= .tuple #[.int .i64 s.size,.nilIface]∧jY h' b 178 5 (l++s.data.toList)∧Ext (fun i=>b≤i) h h'):=by
 obtain⟨i,hi,hi0,hi1,hi2⟩:=IS;obtain⟨p,v,hk,hp,hv⟩:=hb;have hlt:=hk.lt;refine ai.of func106 rfl rfl ?_;refine aW func106 2 [0,1,4,5] rfl ?_;refine br func106 1 rfl ?_;refine xo rfl (aq (vs:=[_]) func140 rfl H.FG rfl (ai.bw (iA hk hp))) ?_;rintro _ h1 ⟨hk1,hx1,hs1⟩;refine xd [0,1,4,5] rfl ?_;refine br func106 3 rfl ?_;refine xp rfl (af (off:=1) underlying178 rfl rfl H.oC rfl) ?_;have hv1:CD h1 (b+1) 5 v l:=aS.ext hx1 hv (fun g hg=>by have:=mJ hv g hg.symm;omega);refine xp rfl (ah H.zg rfl (hk1.cell (i:=1) rfl)) ?_;refine aT 1 rfl ?_;refine xo rfl (aC.Ez underlying56 underlying9 hi hi0 hi1 hi2 rfl rfl hv1 hl (by omega)) ?_;rintro v2 h2 ⟨ho2,hx2⟩;refine bP 1 rfl rfl (af (off:=1) underlying178 rfl rfl H.oC rfl) ?_;have hk2:=hk1.ext hx2 (fun hm=>by have:=mJ hv1 b hm;omega);obtain⟨oa2,c2,rfl,-⟩:=aS.open ho2;refine RW.bZ rfl rfl rfl (aC.bF H.oC rfl rfl hk2 (by first|decide|exact of_decide_eq_true rfl|(simp;done)|(simp;omega)) rfl) ?_;rintro _ h3 ⟨rfl,hk3,hx3,hs3⟩;refine xd [0,1,4,5] rfl ?_;refine br func106 1 rfl ?_;refine xp rfl (aj.bG underlying9 rfl) ?_;refine aQ 2 [0,1,4,5] rfl ?_;refine G.ret func106 rfl rfl ?_;have ho3:CD h3 (b+1) 5 _ (l++s.data.toList):=aS.ext hx3 ho2 (fun g hg=>by have:=mJ ho2 g hg.symm;omega);exact⟨_,rfl,rfl,⟨_,_,hk3,.inr rfl,ho3⟩,((hx1.mono (fun _ _ k=>by show b≤_;omega)).trans (hx2.mono (fun g _ k=>by have:=mJ hv1 g k;show b≤g;omega))).trans (hx3.mono (fun _ _ k=>by show b≤_;omega))⟩
theorem jY.ax {h h':aD}{b:Nat}{l:List UInt8}(k:jY h b 178 5 l) (e:aF h h'):jY h' b 178 5 l:=by
 obtain⟨p,v,hk,hp,hv⟩:=k;exact⟨p,v,hk.ax e,hp,cK.ax hv e⟩
theorem jW {l:List UInt8}(hb:jY h b 178 5 l) (hl:l.length≤140737488355328) :
 ai Tryz.prog 107 #[.pointer (some ⟨b,0,none⟩)] h (cL fun r h'=>r= .string ⟨l.toArray⟩∧Ext (fun i=>b≤i) h h'):=by
 obtain⟨p,v,hk,hp,hv⟩:=hb;obtain⟨oa,c,rfl,hw⟩:=aS.open hv;have hc1:=hk.cell (i:=1) rfl;refine ai.of func107 rfl rfl ?_;refine aW func107 1 [0,2] rfl ?_;refine av rfl ?_;refine bV (fun i=>b+1≤i) (fun i=>Nat.blt i 12) (sz:=12) (listed:= #[false,false,false,false,false,false,false,false,false,false,false,false]) func107 H.mixed rfl rfl rfl ?_;refine b9 0 1 (by kernel_rfl) rfl ?_;refine b9 1 3 (by kernel_rfl) rfl ?_;refine bI 2 7 (by kernel_rfl) rfl (fun h' e=>af (off:=1) underlying178 rfl rfl H.oC rfl) ?_;refine bI 3 15 (by kernel_rfl) rfl (fun h' e=>ah H.zg rfl (e.cell (by show ¬b+1≤b;omega) hc1)) ?_;refine b9 5 47 (by kernel_rfl) rfl ?_;refine b9 6 111 (by kernel_rfl) rfl ?_;refine bI 7 239 (by kernel_rfl) rfl (fun h' e=>af (off:=1) underlying178 rfl rfl H.oC rfl) ?_;refine bI 8 495 (by kernel_rfl) rfl (fun h' e=>ah H.zg rfl (e.cell (by show ¬b+1≤b;omega) hc1)) ?_;refine bI 9 1007 (by kernel_rfl) rfl (fun h' e=>aj.aJ underlying56 rfl) ?_;refine cU 4 1023 (by kernel_rfl) rfl (aC.DI underlying224 rfl hv) ?_;rintro u h1 ⟨⟨q,rfl,hs⟩,he⟩;refine⟨fun _=>he.of,?_⟩;refine cU 10 2047 (by kernel_rfl) rfl (rN underlying224 G0 rfl rfl hs hl) ?_;rintro _ h2 ⟨rfl,hx2⟩;refine⟨fun _=>hx2,?_⟩;refine b9 11 4095 (by kernel_rfl) rfl ?_;refine bg (by kernel_rfl) ?_;refine xu [0,2] rfl ?_;refine G.ret func107 rfl rfl ?_;exact⟨_,rfl,rfl,(aF.of he).trans (hx2.mono (fun g _ k=>by have:b+1≤g:=k;show b≤g;omega))⟩
end
end Go.Proofs.YtedocgkapmeceaaGreatDoor

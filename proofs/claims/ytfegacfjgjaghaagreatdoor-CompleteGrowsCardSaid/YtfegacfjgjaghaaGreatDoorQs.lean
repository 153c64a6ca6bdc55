/- What the proof of the statement leans on (part 19). -/
import Derived.Lib.ItoaLen
import Derived.Test.YtfegacfjgjaghaaGreatDoorQr

namespace Go.Proofs.YtfegacfjgjaghaaGreatDoor
open Go
def keyP (l:List Int):By:=l.flatMap fun n=>Lib.itoa n++[32]
theorem dec_digit (u:Nat):∀c∈Lib.decDigits u,48≤c.toNat∧c.toNat≤57:=by
 induction u using Nat.strongRecOn with
 |_ u ih =>
  intro c hc;rw[Lib.decDigits] at hc;split at hc
  · rename_i h;simp at hc;subst hc;simp;omega
  · rename_i h
    rcases List.mem_append.1 hc with k|k
    · exact ih (u / 10) (by omega) c k
    · simp at k;subst k;have:u%10<10:=Nat.mod_lt _ (by decide);simp;omega
def dval (l:By):Nat:=l.foldl (fun a c=>a*10+(c.toNat-48)) 0
theorem dec_val (u:Nat):dval (Lib.decDigits u)=u:=by
 induction u using Nat.strongRecOn with
 |_ u ih =>
  rw[Lib.decDigits];split
  · rename_i h;simp[dval];omega
  · rename_i h;have h1:=ih (u / 10) (by omega);unfold dval at h1 ⊢;rw[List.foldl_append,h1];have:u%10<10:=Nat.mod_lt _ (by decide);simp;omega
theorem itoa_chars (n:Int):∀c∈Lib.itoa n,c≠32:=by
 intro c hc e;subst e;unfold Lib.itoa at hc;split at hc
 · rcases List.mem_cons.1 hc with k|k
   · cases k
   · have:=(dec_digit _ _ k).1;simp at this
 · have:=(dec_digit _ _ hc).1;simp at this
theorem itoa_inj {m n:Int}(h:Lib.itoa m=Lib.itoa n):m=n:=by
 have neg:∀a b:Nat,45::Lib.decDigits a≠Lib.decDigits b:=fun a b e=>by
  have:(45:UInt8)∈Lib.decDigits b:=by rw[←e];exact List.mem_cons_self
  have:=(dec_digit _ _ this).1;simp at this
 unfold Lib.itoa at h;split at h<;>split at h
 · have h:=congrArg dval (List.cons.inj h).2;rw[dec_val,dec_val] at h;omega
 · exact absurd h (neg _ _)
 · exact absurd h.symm (neg _ _)
 · have h:=congrArg dval h;rw[dec_val,dec_val] at h;omega
theorem blank_split:∀(a b r s:By),(∀c∈a,c≠32)→(∀c∈b,c≠32)→a++32::r=b++32::s→a=b∧r=s
 | [],[],r,s,_,_,h=>by simpa using h
 | [],d::b,r,s,_,hb,h=>by
  simp only[List.nil_append,List.cons_append,List.cons.injEq] at h;exact absurd h.1.symm (hb d List.mem_cons_self)
 |c::a,[],r,s,ha,_,h=>by
  simp only[List.nil_append,List.cons_append,List.cons.injEq] at h;exact absurd h.1 (ha c List.mem_cons_self)
 |c::a,d::b,r,s,ha,hb,h=>by
  simp only[List.cons_append,List.cons.injEq] at h;have:=blank_split a b r s (fun x hx=>ha x (List.mem_cons_of_mem _ hx)) (fun x hx=>hb x (List.mem_cons_of_mem _ hx)) h.2;exact⟨by rw[h.1,this.1],this.2⟩
theorem key_inj:∀{l m:List Int},keyP l=keyP m→l=m
 | [],[],_=>rfl
 | [],n::m,h=>by
  have:=congrArg List.length h;simp[keyP] at this
 |n::l,[],h=>by
  have:=congrArg List.length h;simp[keyP] at this
 |n::l,k::m,h=>by
  have h':Lib.itoa n++32::keyP l=Lib.itoa k++32::keyP m:=by simpa [keyP] using h
  obtain⟨h1,h2⟩:=blank_split _ _ _ _ (itoa_chars n) (itoa_chars k) h';rw[itoa_inj h1,key_inj h2]
theorem key_len:∀(l:List Int),(∀n∈l,-9223372036854775808≤n∧n≤9223372036854775807)→(keyP l).length≤22*l.length
 | [],_=>by simp[keyP]
 |n::l,h=>by
  have h1:=key_len l (fun x hx=>h x (List.mem_cons_of_mem _ hx));have hn:=h n List.mem_cons_self;have h2:=Lib.itoa_length_le n hn.1 hn.2;have e:keyP (n::l)=Lib.itoa n++[32]++keyP l:=rfl;have h3:(keyP (n::l)).length=(Lib.itoa n).length+1+(keyP l).length:=by rw[e,List.length_append,List.length_append];rfl
  rw[h3,List.length_cons];omega
theorem key_snoc (l:List Int) (n:Int):keyP (l++[n])=keyP l++Lib.itoa n++[32]:=by simp[keyP]
end Go.Proofs.YtfegacfjgjaghaaGreatDoor
namespace Go.Proofs.YtfegacfjgjaghaaGreatDoor
open Go Go.Lw
set_option maxRecDepth 20000
section
variable {h:Heap}{b:Nat}{v:Value}
theorem bInfo:∃j,Tryz.prog.info? 134=some j∧j.size≠0:=⟨_,rfl,by decide⟩
theorem u8Info:∃i,Tryz.prog.info? 5=some i∧i.zero=some (.int .u8 0)∧i.size=1∧i.bytes=1:=⟨_,rfl,rfl,rfl,rfl⟩
theorem bLies:liesAt Tryz.prog Tryz.prog.depth 134 (2 / Tryz.prog.cellsOf 134) 0 134 1=true:=by kernel_rfl
theorem u8Cells:Tryz.prog.cellsOf 5=1:=by kernel_rfl
theorem copyCheck_fresh (hb:Blk h b 134 [.pointer none,v]) :
 CallsH Tryz.prog 89 #[.pointer (some ⟨b,0,none⟩)] h (Ret fun _ h'=>Blk h' b 134 [.pointer (some ⟨b,0,none⟩),v]∧Ext (fun i=>i=b) h h'∧h'.size=h.size):=by
 obtain⟨j,hj,hj0⟩:=bInfo;refine CallsH.of Tryz.func89 rfl rfl ?_;refine xra Tryz.func89 2 rfl ?_;refine xp rfl (OpP.fieldAddr (off:=0) Tryz.underlying134 rfl rfl H.sz132 rfl) ?_;refine xp rfl (OpP.load H.ag132 rfl (hb.cell (i:=0) rfl)) ?_;refine xp rfl (OpP.eqlNil Tryz.underlying132 rfl rfl) ?_;refine xd [0,6] rfl ?_;refine G.cond rfl rfl (fun _=>?_) (fun hc=>absurd hc (by decide));refine G.reg Tryz.func89 rfl ?_;refine xqp 2 rfl rfl (OpP.toUnsafe Tryz.underlying132 Tryz.underlying189 hj hj0 hb (by simp) rfl) ?_;refine xp rfl (OpP.noEscape Tryz.func110 (by decide +kernel) (by kernel_rfl) (by kernel_rfl) (by kernel_rfl) rfl) ?_;refine xp rfl (OpP.fromUnsafe Tryz.underlying189 Tryz.underlying132 hj hb bLies rfl) ?_;refine xqp 1 rfl rfl (OpP.fieldAddr (off:=0) Tryz.underlying134 rfl rfl H.sz132 rfl) ?_;refine RW.op0 rfl rfl rfl (OpX.storeOne H.sz132 rfl rfl hb (by first|decide|exact of_decide_eq_true rfl|(simp;done)|(simp;omega)) rfl) ?_;rintro _ h1 ⟨rfl,hb1,hx1,hs1⟩;refine xd [0,6] rfl ?_;refine G.fall Tryz.func89 rfl ?_;exact⟨_,rfl,hb1,hx1,hs1⟩
theorem copyCheck_used (hb:Blk h b 134 [.pointer (some ⟨b,0,none⟩),v]) :
 CallsH Tryz.prog 89 #[.pointer (some ⟨b,0,none⟩)] h (Ret fun _ h'=>Blk h' b 134 [.pointer (some ⟨b,0,none⟩),v]∧Ext (fun i=>i=b) h h'∧h'.size=h.size):=by
 obtain⟨j,hj,hj0⟩:=bInfo;refine CallsH.of Tryz.func89 rfl rfl ?_;refine xra Tryz.func89 2 rfl ?_;refine xp rfl (OpP.fieldAddr (off:=0) Tryz.underlying134 rfl rfl H.sz132 rfl) ?_;refine xp rfl (OpP.load H.ag132 rfl (hb.cell (i:=0) rfl)) ?_;refine xp rfl (OpP.eqlNil Tryz.underlying132 rfl rfl) ?_;refine xd [0,6] rfl ?_;refine G.cond rfl rfl (fun hc=>absurd hc Bool.false_ne_true) (fun _=>?_);refine xra Tryz.func89 2 rfl ?_;refine xp rfl (OpP.fieldAddr (off:=0) Tryz.underlying134 rfl rfl H.sz132 rfl) ?_;refine xp rfl (OpP.load H.ag132 rfl (hb.cell (i:=0) rfl)) ?_;refine xqp 1 rfl rfl (OpP.neqPtrSame Tryz.underlying132 hj rfl rfl) ?_;refine xd [0,6,19] rfl ?_;refine G.cond rfl rfl (fun hc=>absurd hc Bool.false_ne_true) (fun _=>?_);refine G.skip rfl ?_;refine G.fall Tryz.func89 rfl ?_;exact⟨_,rfl,hb,Ext.refl _ _,rfl⟩
theorem copyCheck_calls {p:Value}(hb:Blk h b 134 [p,v]) (hp:p= .pointer none∨p= .pointer (some ⟨b,0,none⟩)) :
 CallsH Tryz.prog 89 #[.pointer (some ⟨b,0,none⟩)] h (Ret fun _ h'=>Blk h' b 134 [.pointer (some ⟨b,0,none⟩),v]∧Ext (fun i=>i=b) h h'∧h'.size=h.size):=by
 rcases hp with rfl|rfl
 · exact copyCheck_fresh hb
 · exact copyCheck_used hb
theorem writeString_calls {l:List UInt8}(s:ByteArray) (hb:BldH h b 134 5 l) (hl:l.length+s.size≤140737488355328) :
 CallsH Tryz.prog 66 #[.pointer (some ⟨b,0,none⟩),.string s] h (Ret fun r h'=>r= .tuple #[.int .i64 s.size,.nilIface]∧BldH h' b 134 5 (l++s.data.toList)∧Ext (fun i=>b≤i) h h'):=by
 obtain⟨i,hi,hi0,hi1,hi2⟩:=u8Info;obtain⟨p,v,hk,hp,hv⟩:=hb;have hlt:=hk.lt;refine CallsH.of Tryz.func66 rfl rfl ?_;refine xrd Tryz.func66 2 [0,1,4,5] rfl ?_;refine xra Tryz.func66 1 rfl ?_;refine xo rfl (OpX.call (vs:=[_]) Tryz.func89 rfl H.nm89 rfl (CallsH.toX (copyCheck_calls hk hp))) ?_;rintro _ h1 ⟨hk1,hx1,hs1⟩;refine xd [0,1,4,5] rfl ?_;refine xra Tryz.func66 3 rfl ?_;refine xp rfl (OpP.fieldAddr (off:=1) Tryz.underlying134 rfl rfl H.sz33 rfl) ?_;have hv1:OwB h1 (b+1) 5 v l:=OwnH.ext hx1 hv (fun g hg=>by have:=own_ne hv g hg.symm;omega);refine xp rfl (OpP.load H.ag33 rfl (hk1.cell (i:=1) rfl)) ?_;refine xqm 1 rfl ?_;refine xo rfl (OpX.appendStr Tryz.underlying33 Tryz.underlying9 hi hi0 hi1 hi2 rfl rfl hv1 hl (by omega)) ?_;rintro v2 h2 ⟨ho2,hx2⟩;refine xqp 1 rfl rfl (OpP.fieldAddr (off:=1) Tryz.underlying134 rfl rfl H.sz33 rfl) ?_;have hk2:=hk1.ext hx2 (fun hm=>by have:=own_ne hv1 b hm;omega);obtain⟨oa2,c2,rfl,-⟩:=OwnH.open ho2;refine RW.op0 rfl rfl rfl (OpX.storeOne H.sz33 rfl rfl hk2 (by first|decide|exact of_decide_eq_true rfl|(simp;done)|(simp;omega)) rfl) ?_;rintro _ h3 ⟨rfl,hk3,hx3,hs3⟩;refine xd [0,1,4,5] rfl ?_;refine xra Tryz.func66 1 rfl ?_;refine xp rfl (OpP.lenString Tryz.underlying9 rfl) ?_;refine xqd 2 [0,1,4,5] rfl ?_;refine G.ret Tryz.func66 rfl rfl ?_;have ho3:OwB h3 (b+1) 5 _ (l++s.data.toList):=OwnH.ext hx3 ho2 (fun g hg=>by have:=own_ne ho2 g hg.symm;omega);exact⟨_,rfl,rfl,⟨_,_,hk3,.inr rfl,ho3⟩,((hx1.mono (fun _ _ k=>by show b≤_;omega)).trans (hx2.mono (fun g _ k=>by have:=own_ne hv1 g k;show b≤g;omega))).trans (hx3.mono (fun _ _ k=>by show b≤_;omega))⟩
theorem BldH.ext0 {h h':Heap}{b:Nat}{l:List UInt8}(k:BldH h b 134 5 l) (e:Ext0 h h'):BldH h' b 134 5 l:=by
 obtain⟨p,v,hk,hp,hv⟩:=k;exact⟨p,v,hk.ext0 e,hp,OwE.ext0 hv e⟩
theorem bString_calls {l:List UInt8}(hb:BldH h b 134 5 l) (hl:l.length≤140737488355328) :
 CallsH Tryz.prog 69 #[.pointer (some ⟨b,0,none⟩)] h (Ret fun r h'=>r= .string ⟨l.toArray⟩∧Ext (fun i=>b≤i) h h'):=by
 obtain⟨p,v,hk,hp,hv⟩:=hb;obtain⟨oa,c,rfl,hw⟩:=OwnH.open hv;have hc1:=hk.cell (i:=1) rfl;refine CallsH.of Tryz.func69 rfl rfl ?_;refine xrd Tryz.func69 1 [0,2] rfl ?_;refine G.seq rfl ?_;refine G.draw (fun i=>b+1≤i) (fun i=>Nat.blt i 12) (sz:=12) (listed:= #[false,false,false,false,false,false,false,false,false,false,false,false]) Tryz.func69 H.mixed rfl rfl rfl ?_;refine xtq 0 1 (by kernel_rfl) rfl ?_;refine xtq 1 3 (by kernel_rfl) rfl ?_;refine xtp 2 7 (by kernel_rfl) rfl (fun h' e=>OpP.fieldAddr (off:=1) Tryz.underlying134 rfl rfl H.sz33 rfl) ?_;refine xtp 3 15 (by kernel_rfl) rfl (fun h' e=>OpP.load H.ag33 rfl (e.cell (by show ¬b+1≤b;omega) hc1)) ?_;refine xtq 5 47 (by kernel_rfl) rfl ?_;refine xtq 6 111 (by kernel_rfl) rfl ?_;refine xtp 7 239 (by kernel_rfl) rfl (fun h' e=>OpP.fieldAddr (off:=1) Tryz.underlying134 rfl rfl H.sz33 rfl) ?_;refine xtp 8 495 (by kernel_rfl) rfl (fun h' e=>OpP.load H.ag33 rfl (e.cell (by show ¬b+1≤b;omega) hc1)) ?_;refine xtp 9 1007 (by kernel_rfl) rfl (fun h' e=>OpP.lenSlice Tryz.underlying33 rfl) ?_;refine xto 4 1023 (by kernel_rfl) rfl (OpX.sliceData Tryz.underlying166 rfl hv) ?_;rintro u h1 ⟨⟨q,rfl,hs⟩,he⟩;refine⟨fun _=>he.of,?_⟩;refine xto 10 2047 (by kernel_rfl) rfl (OpX.unsafeString Tryz.underlying166 u8Cells rfl rfl hs hl) ?_;rintro _ h2 ⟨rfl,hx2⟩;refine⟨fun _=>hx2,?_⟩;refine xtq 11 4095 (by kernel_rfl) rfl ?_;refine RD.done (by kernel_rfl) ?_;refine xu [0,2] rfl ?_;refine G.ret Tryz.func69 rfl rfl ?_;exact⟨_,rfl,rfl,(Ext0.of he).trans (hx2.mono (fun g _ k=>by have:b+1≤g:=k;show b≤g;omega))⟩
end
end Go.Proofs.YtfegacfjgjaghaaGreatDoor

/- Part 8. -/
import Derived.Test.YtnjahnbpnpkmhaaGreatDoorRows
import Derived.Test.YtnjahnbpnpkmhaaGreatDoorQg

namespace Go.Proofs.YtnjahnbpnpkmhaaGreatDoor.H
open Go.Proofs.Tryz
open Go Go.Lw
theorem Mg:aX prog 103=some false:=by kernel_rfl
theorem Au:aX prog 105=some true:=by kernel_rfl
theorem Mf:aX prog 117=some true:=by kernel_rfl
theorem Me:aX prog 148=some true:=by kernel_rfl
theorem Kc:aX prog 180=some false:=by kernel_rfl
theorem Kb:aX prog 182=some true:=by kernel_rfl
theorem M6:aX prog 29=some false:=by kernel_rfl
theorem Nn:aX prog 3=some false:=by kernel_rfl
theorem OM:aX prog 70=some false:=by kernel_rfl
theorem M5:aX prog 73=some false:=by kernel_rfl
theorem Nl:aX prog 9=some false:=by kernel_rfl
theorem E8  : prog.built 102 []=some #[.int .u64 (0),.int .u64 (0),.int .u64 (0),.int .u64 (0)]:=by kernel_rfl
theorem E7  : prog.built 105 []=some #[.int .i64 (0),.int .u64 (0),.int .u64 (0),.int .u64 (0),.int .u64 (0),.slice none 0 0]:=by kernel_rfl
theorem ug (a0:Int) (a2:Option Addr) (n2 I:Nat):prog.built 105 [(0,.int .i64 a0),(2,.slice a2 n2 I)]=some #[.int .i64 a0,.int .u64 (0),.int .u64 (0),.int .u64 (0),.int .u64 (0),.slice a2 n2 I]:=by kernel_rfl
theorem F8 (a0:Int):prog.built 105 [(0,.int .i64 a0)]=some #[.int .i64 a0,.int .u64 (0),.int .u64 (0),.int .u64 (0),.int .u64 (0),.slice none 0 0]:=by kernel_rfl
theorem J8  : prog.built 111 []=some #[.int .i64 (0),.int .u64 (0),.int .u64 (0),.int .u64 (0),.int .u64 (0),.slice none 0 0,.int .i64 (0)]:=by kernel_rfl
theorem DS (a0:Int) (Y U J I:Value) (a2:Option Addr) (n2 Z:Nat):prog.built 111 [(0,.int .i64 a0),(1,.agg #[Y,U,J,I]),(2,.slice a2 n2 Z)]=some #[.int .i64 a0,Y,U,J,I,.slice a2 n2 Z,.int .i64 (0)]:=by kernel_rfl
theorem HJ (a0:Int) (a3:Int):prog.built 111 [(0,.int .i64 a0),(3,.int .i64 a3)]=some #[.int .i64 a0,.int .u64 (0),.int .u64 (0),.int .u64 (0),.int .u64 (0),.slice none 0 0,.int .i64 a3]:=by kernel_rfl
theorem BT (a2:Option Addr) (n2 I:Nat):prog.built 111 [(2,.slice a2 n2 I)]=some #[.int .i64 (0),.int .u64 (0),.int .u64 (0),.int .u64 (0),.int .u64 (0),.slice a2 n2 I,.int .i64 (0)]:=by kernel_rfl
theorem M4  : prog.built 117 []=some #[.string ⟨#[]⟩,.int .i64 (0),.int .i64 (0)]:=by kernel_rfl
theorem J7  : prog.built 122 []=some #[.slice none 0 0,.slice none 0 0]:=by kernel_rfl
theorem iW  : prog.built 155 []=some #[]:=by kernel_rfl
theorem Li (a0:ByteArray):prog.built 158 [(0,.string a0)]=some #[.string a0]:=by kernel_rfl
theorem yA  : prog.built 182 []=some #[.int .i64 (0),.int .u64 (0),.int .u64 (0),.int .u64 (0),.int .u64 (0),.slice none 0 0]:=by kernel_rfl
theorem Aq (a0:Int) (Y U J I:Value):prog.built 182 [(0,.int .i64 a0),(1,.agg #[Y,U,J,I])]=some #[.int .i64 a0,Y,U,J,I,.slice none 0 0]:=by kernel_rfl
theorem qj (a0:Int) (a2:Option Addr) (n2 I:Nat):prog.built 182 [(0,.int .i64 a0),(2,.slice a2 n2 I)]=some #[.int .i64 a0,.int .u64 (0),.int .u64 (0),.int .u64 (0),.int .u64 (0),.slice a2 n2 I]:=by kernel_rfl
theorem Lh (a0:Int):prog.built 182 [(0,.int .i64 a0)]=some #[.int .i64 a0,.int .u64 (0),.int .u64 (0),.int .u64 (0),.int .u64 (0),.slice none 0 0]:=by kernel_rfl
theorem Lg (a0:Option Addr) (n0 I:Nat):prog.built 212 [(0,.slice a0 n0 I)]=some #[.slice a0 n0 I,.slice none 0 0,.slice none 0 0]:=by kernel_rfl
theorem ew (a0:Bool) (U:Option Addr) (n1 J:Nat) (a2:Option Addr) (n2 I:Nat):prog.built 214 [(0,.bool a0),(1,.slice U n1 J),(2,.slice a2 n2 I)]=some #[.bool a0,.slice U n1 J,.slice a2 n2 I]:=by kernel_rfl
theorem F7  : prog.built 25 []=some #[.int .i64 (0),.int .i64 (0)]:=by kernel_rfl
theorem sY (a0:Int) (I:Int):prog.built 25 [(0,.int .i64 a0),(1,.int .i64 I)]=some #[.int .i64 a0,.int .i64 I]:=by kernel_rfl
theorem J6 (a0:Int):prog.built 25 [(0,.int .i64 a0)]=some #[.int .i64 a0,.int .i64 (0)]:=by kernel_rfl
theorem J5  : prog.built 41 []=some #[.int .i64 (0),.string ⟨#[]⟩,.slice none 0 0]:=by kernel_rfl
theorem mQ (a0:Int) (I:ByteArray):prog.built 41 [(0,.int .i64 a0),(1,.string I)]=some #[.int .i64 a0,.string I,.slice none 0 0]:=by kernel_rfl
theorem nT (a0:Int) (J:ByteArray) (a2:Option Addr) (n2 I:Nat):prog.built 41 [(0,.int .i64 a0),(1,.string J),(2,.slice a2 n2 I)]=some #[.int .i64 a0,.string J,.slice a2 n2 I]:=by kernel_rfl
theorem DR (a0:Int) (a2:Option Addr) (n2 I:Nat):prog.built 41 [(0,.int .i64 a0),(2,.slice a2 n2 I)]=some #[.int .i64 a0,.string ⟨#[]⟩,.slice a2 n2 I]:=by kernel_rfl
theorem M3 (a0:Int):prog.built 41 [(0,.int .i64 a0)]=some #[.int .i64 a0,.string ⟨#[]⟩,.slice none 0 0]:=by kernel_rfl
theorem J4 (a0:Option Addr) (n0 I:Nat) (a2:Int):prog.built 51 [(0,.slice a0 n0 I),(2,.int .i64 a2)]=some #[.slice a0 n0 I,.int .i64 (0),.int .i64 a2,.bool false,.int .i64 (0)]:=by kernel_rfl
theorem J3 (a0:Option Addr) (n0 I:Nat) (a2:Int):prog.built 60 [(0,.slice a0 n0 I),(2,.int .i64 a2)]=some #[.slice a0 n0 I,.int .i64 (0),.int .i64 a2,.bool false,.int .i64 (0)]:=by kernel_rfl
theorem J2  : prog.built 62 []=some #[.int .i64 (0),.string ⟨#[]⟩,.slice none 0 0]:=by kernel_rfl
theorem J1 (a0:Int) (I:ByteArray):prog.built 62 [(0,.int .i64 a0),(1,.string I)]=some #[.int .i64 a0,.string I,.slice none 0 0]:=by kernel_rfl
theorem cM (a0:Int) (J:ByteArray) (a2:Option Addr) (n2 I:Nat):prog.built 62 [(0,.int .i64 a0),(1,.string J),(2,.slice a2 n2 I)]=some #[.int .i64 a0,.string J,.slice a2 n2 I]:=by kernel_rfl
theorem M1 (a0:Int):prog.built 62 [(0,.int .i64 a0)]=some #[.int .i64 a0,.string ⟨#[]⟩,.slice none 0 0]:=by kernel_rfl
theorem OI  : prog.built 69 []=some #[.slice none 0 0]:=by kernel_rfl
theorem OH  : prog.built 83 []=some #[.int .i64 (0),.int .i64 (0),.int .i64 (0)]:=by kernel_rfl
theorem kM (a0:Int) (I:Int) (a2:Int):prog.built 83 [(0,.int .i64 a0),(1,.int .i64 I),(2,.int .i64 a2)]=some #[.int .i64 a0,.int .i64 I,.int .i64 a2]:=by kernel_rfl
theorem yz (a0:Int) (I:ByteArray) (a2:Int):prog.built 88 [(0,.int .i64 a0),(1,.string I),(2,.int .i64 a2)]=some #[.int .i64 a0,.string I,.int .i64 a2]:=by kernel_rfl
theorem yy (a0:Int) (I:Int) (a2:ByteArray):prog.built 94 [(0,.int .i64 a0),(1,.int .i64 I),(2,.string a2)]=some #[.int .i64 a0,.int .i64 I,.string a2]:=by kernel_rfl
theorem OG  : prog.built 99 []=some #[.slice none 0 0,.int .i64 (0)]:=by kernel_rfl
theorem Mb:prog.concrete 155=true:=by kernel_rfl
set_option maxRecDepth 100000 in
theorem Om:dS prog 100 1 24:=⟨⟨_,_,rfl,rfl,rfl,rfl,rfl⟩,by decide⟩
set_option maxRecDepth 100000 in
theorem L9:dS prog 102 4 32:=⟨⟨_,_,rfl,rfl,rfl,rfl,rfl⟩,by decide⟩
set_option maxRecDepth 100000 in
theorem JQ:dS prog 105 6 64:=⟨⟨_,_,rfl,rfl,rfl,rfl,rfl⟩,by decide⟩
set_option maxRecDepth 100000 in
theorem L8:dS prog 111 7 72:=⟨⟨_,_,rfl,rfl,rfl,rfl,rfl⟩,by decide⟩
set_option maxRecDepth 100000 in
theorem F3:dS prog 126 256 2048:=⟨⟨_,_,rfl,rfl,rfl,rfl,rfl⟩,by decide⟩
set_option maxRecDepth 100000 in
theorem Ol:dS prog 130 1 24:=⟨⟨_,_,rfl,rfl,rfl,rfl,rfl⟩,by decide⟩
set_option maxRecDepth 100000 in
theorem Oj:dS prog 137 1 24:=⟨⟨_,_,rfl,rfl,rfl,rfl,rfl⟩,by decide⟩
set_option maxRecDepth 100000 in
theorem JP:dS prog 182 6 64:=⟨⟨_,_,rfl,rfl,rfl,rfl,rfl⟩,by decide⟩
set_option maxRecDepth 100000 in
theorem L7:dS prog 185 1 8:=⟨⟨_,_,rfl,rfl,rfl,rfl,rfl⟩,by decide⟩
set_option maxRecDepth 100000 in
theorem K8:dS prog 25 2 16:=⟨⟨_,_,rfl,rfl,rfl,rfl,rfl⟩,by decide⟩
set_option maxRecDepth 100000 in
theorem Oi:dS prog 3 1 8:=⟨⟨_,_,rfl,rfl,rfl,rfl,rfl⟩,by decide⟩
set_option maxRecDepth 100000 in
theorem K7:dS prog 4 1 1:=⟨⟨_,_,rfl,rfl,rfl,rfl,rfl⟩,by decide⟩
set_option maxRecDepth 100000 in
theorem K6:dS prog 41 3 48:=⟨⟨_,_,rfl,rfl,rfl,rfl,rfl⟩,by decide⟩
set_option maxRecDepth 100000 in
theorem Re:dS prog 5 1 1:=⟨⟨_,_,rfl,rfl,rfl,rfl,rfl⟩,by decide⟩
set_option maxRecDepth 100000 in
theorem Hw:dS prog 62 3 48:=⟨⟨_,_,rfl,rfl,rfl,rfl,rfl⟩,by decide⟩
set_option maxRecDepth 100000 in
theorem Qb:dS prog 75 1 8:=⟨⟨_,_,rfl,rfl,rfl,rfl,rfl⟩,by decide⟩
set_option maxRecDepth 100000 in
theorem JO:dS prog 83 3 24:=⟨⟨_,_,rfl,rfl,rfl,rfl,rfl⟩,by decide⟩
set_option maxRecDepth 100000 in
theorem MV:dS prog 88 3 32:=⟨⟨_,_,rfl,rfl,rfl,rfl,rfl⟩,by decide⟩
set_option maxRecDepth 100000 in
theorem Qa:dS prog 9 1 16:=⟨⟨_,_,rfl,rfl,rfl,rfl,rfl⟩,by decide⟩
set_option maxRecDepth 100000 in
theorem MU:dS prog 94 3 32:=⟨⟨_,_,rfl,rfl,rfl,rfl,rfl⟩,by decide⟩
theorem mixed:prog.follows .mixedOrders=true:=by kernel_rfl
theorem N7:(Tryz.f100.name == "runtime.NumGoroutine")=false:=by decide +kernel
theorem N6:(Tryz.f129.name == "runtime.NumGoroutine")=false:=by decide +kernel
theorem P6:(Tryz.f42.name == "runtime.NumGoroutine")=false:=by decide +kernel
theorem P5:(Tryz.f78.name == "runtime.NumGoroutine")=false:=by decide +kernel
theorem P4:(Tryz.f99.name == "runtime.NumGoroutine")=false:=by decide +kernel
theorem Cx:cK prog 100=some 1:=by kernel_rfl
theorem Fz:cK prog 102=some 4:=by kernel_rfl
theorem NS:cK prog 103=some 1:=by kernel_rfl
theorem oH:cK prog 105=some 6:=by kernel_rfl
theorem Ir:cK prog 117=some 3:=by kernel_rfl
theorem LP:cK prog 120=some 1:=by kernel_rfl
theorem zK:cK prog 130=some 1:=by kernel_rfl
theorem Iq:cK prog 148=some 2:=by kernel_rfl
theorem LO:cK prog 165=some 1:=by kernel_rfl
theorem Ip:cK prog 180=some 1:=by kernel_rfl
theorem Cw:cK prog 182=some 6:=by kernel_rfl
theorem LN:cK prog 209=some 1:=by kernel_rfl
theorem LM:cK prog 210=some 1:=by kernel_rfl
theorem NJ:cK prog 28=some 1:=by kernel_rfl
theorem Mq:cK prog 29=some 1:=by kernel_rfl
theorem mW:cK prog 3=some 1:=by kernel_rfl
theorem NI:cK prog 32=some 1:=by kernel_rfl
theorem Cv:cK prog 4=some 1:=by kernel_rfl
theorem PO:cK prog 46=some 1:=by kernel_rfl
theorem Qy:cK prog 5=some 1:=by kernel_rfl
theorem PN:cK prog 55=some 1:=by kernel_rfl
theorem NH:cK prog 67=some 1:=by kernel_rfl
theorem PL:cK prog 73=some 1:=by kernel_rfl
theorem D6:cK prog 9=some 1:=by kernel_rfl
theorem NG:cK prog 90=some 1:=by kernel_rfl
theorem NF:cK prog 97=some 1:=by kernel_rfl
theorem LK:(prog.info? 105).bind (·.zero)=some (.agg #[.int .i64 (0),.int .u64 (0),.int .u64 (0),.int .u64 (0),.int .u64 (0),.slice none 0 0]):=by kernel_rfl
theorem LJ:(prog.info? 117).bind (·.zero)=some (.agg #[.string ⟨#[]⟩,.int .i64 (0),.int .i64 (0)]):=by kernel_rfl
theorem LI:(prog.info? 182).bind (·.zero)=some (.agg #[.int .i64 (0),.int .u64 (0),.int .u64 (0),.int .u64 (0),.int .u64 (0),.slice none 0 0]):=by kernel_rfl
theorem Pv:(prog.info? 3).bind (·.zero)=some (.int .i64 (0)):=by kernel_rfl
theorem LH:(prog.info? 4).bind (·.zero)=some (.bool false):=by kernel_rfl
end Go.Proofs.YtnjahnbpnpkmhaaGreatDoor.H
namespace Go.Lw
section
variable {α:Type}{O O':Nat->Prop}{h:aq}{base:Nat}{t:TypeId}{v:Value}{cs:List Value}
theorem sb {ρ' ρ:Env}(h:ρ'.map (λp=>ρ.at p.1)=ρ'.map λp=>some p.2):Sub ρ' ρ:=by
 induction ρ' with
 |nil=>trivial
 |cons p r I =>
  simp only[List.map_cons,List.cons.injEq] at h;exact⟨h.1,I h.2⟩
def cH {α:Type}(e:gW α) (O:Nat->Prop) (h:aq) (base:Nat) (t:TypeId) (v:Value) (xs:List α):Prop :=
 ∃css:List (List Value),css.length=xs.length/\aB h base t e.sz v xs.length css.flatten/\∀(i:Nat) (cs:List Value) (x:α),css[i]? =some cs->xs[i]? =some x->e.R h (λb=>bU v.ownBlock b\/O b) cs x
theorem cH.nil {α:Type}(e:gW α) (O:Nat->Prop) (h:aq) (base:Nat) (t:TypeId):cH e O h base t (.slice none 0 0) [] :=
 ⟨[],rfl,aB.nil h base t e.sz,λi cs x h1=>by simp at h1⟩
theorem cH.own {e:gW α}{xs:List α}(k:cH e O h base t v xs):∃cells,aB h base t e.sz v xs.length cells:=by
 obtain⟨css,_,h1,_⟩:=k;exact⟨_,h1⟩
theorem cH.mv {α:Type}{e:gW α}{O O':Nat->Prop}{h h':aq}{base:Nat}{t:TypeId}{v:Value}{xs:List α}(k:cH e O h base t v xs) (x:Ext O h h') (hb:∀b,base<=b->¬O b) (hO:∀b,b<h.size->O' b->O b):cH e O' h' base t v xs:=by
 obtain⟨css,h1,U,h3⟩:=k;have h4:∀b,v.ownBlock=some b->¬O b:=λb Z=>hb b (U.lt Z).1
 refine⟨css,h1,U.ext x h4,λi cs y hc Y=>e.mv (h3 i cs y hc Y) ⟨x.size,λb I J=>⟨x.block b I (λk=>J (.inr k)),λk=>J (k.imp id (hO b I))⟩⟩⟩
theorem cH.ah {α:Type}{e:gW α}{O:Nat->Prop}{h h':aq}{base:Nat}{t:TypeId}{v:Value}{xs:List α}(k:cH e O h base t v xs) (x:aj h h'):cH e O h' base t v xs:=by
 obtain⟨css,h1,U,J⟩:=k;exact⟨css,h1,U.ext x (λ_ _ k=>k),λi cs y hc I=>e.mv (J i cs y hc I) (Mv.ah x)⟩
theorem cH.eC {e:gW α}{h':aq}{v':Value}{xs:List α}{y:α}{css:List (List Value)}(h1:css.length=xs.length)
 (h3:∀(i:Nat) (cs:List Value) (x:α),css[i]? =some cs->xs[i]? =some x->e.R h (λb=>bU v.ownBlock b\/O b) cs x) (ho:aB h' base t e.sz v' (xs.length+1) (css.flatten++cs))
 (hx:Ext (bU v.ownBlock) h h') (hv:∀b,v'.ownBlock=some b->v.ownBlock=some b\/h.size<=b) (hy:e.R h (λb=>bU v.ownBlock b\/O b) cs y):cH e O h' base t v' (xs++[y]):=by
 have hm:Mv (λb=>bU v.ownBlock b\/O b) (λb=>bU v'.ownBlock b\/O b) h h':=⟨hx.size,λb Y U=>⟨hx.block b Y (λk=>U (.inl k)),λk=>by
  rcases k with k|k
  · rcases hv b k.symm with k'|k'
    · exact U (.inl k'.symm)
    · omega
  · exact U (.inr k)⟩⟩
 refine⟨css++[cs],by simp[h1],by simpa using ho,λi Z y' J I=>?_⟩
 rcases Nat.lt_or_ge i xs.length with hi|hi
 · rw[List.getElem?_append_left (by omega)] at J I;exact e.mv (h3 i Z y' J I) hm
 · rw[List.getElem?_append_right (by omega)] at J I;rw[h1] at J;cases hj:i-xs.length with
   |zero=>rw[hj] at J I;simp at J I;subst J I;exact e.mv hy hm
   |succ j=>rw[hj] at I;simp at I
theorem cH.kC {e:gW α}{x:α}(k:e.R h O cs x) (Y:base<=h.size):cH e O (h.push (.cells cs.toArray t)) base t (.slice (some ⟨h.size,0,none⟩) 1 1) [x]:=by
 have hl:=e.len k;refine⟨[cs],rfl,⟨by simp[hl],.inr ⟨h.size,1,cs.toArray,rfl,Y,by simp,Nat.le_refl _,by simp[maxLen],by simp[hl],by simp[<-hl]⟩⟩,λi cs' y hc I=>?_⟩;cases i with
 |zero =>
  simp at hc I;subst hc I
  exact e.mv k ⟨by simp,λb J U=>⟨(Ext.push (λ_=>False) h _).block b J (λk=>k),λk=>by
   rcases k with k|k
   · simp[bU,Value.ownBlock] at k;omega
   · exact U k⟩⟩
 |succ i=>simp at I
theorem nK {α:Type}{sz:Nat}:∀(css:List (List α)) (i:Nat) (cs:List α) (j:Nat) (v:α),(∀c∈css,c.length=sz)->css[i]? =some cs->cs[j]? =some v->css.flatten[i*sz+j]? =some v
 | [],i,cs,j,v,_,I,_=>by simp at I
 |c::css,0,cs,j,v,_,I,J=>by
  simp at I;subst I;have:j<c.length:=(List.getElem?_eq_some_iff.1 J).1;rw[List.flatten_cons,Nat.zero_mul,Nat.zero_add,List.getElem?_append_left this];exact J
 |c::css,i+1,cs,j,v,hl,I,J=>by
  have h0:c.length=sz:=hl c (by simp);rw[List.flatten_cons,List.getElem?_append_right (by rw[h0,Nat.add_mul];omega),h0];have:(i+1)*sz+j-sz=i*sz+j:=by rw[Nat.add_mul];omega
  rw[this];exact nK css i cs j v (λc hc=>hl c (by simp[hc])) (by simpa using I) J
theorem cH.read {e:gW α}{xs:List α}(k:cH e O h base t v xs) (ho:∀b,base<=b->¬O' b) (hO:∀b,b<h.size->O' b->O b):aL e h O' v xs:=by
 obtain⟨css,h1,h2,h3⟩:=k;have hm:Mv (λb=>bU v.ownBlock b\/O b) O' h h:=⟨Nat.le_refl _,λb hb hn=>⟨rfl,λk=>hn (.inr (hO b hb k))⟩⟩
 have hlen:∀c∈css,c.length=e.sz:=λc hc=>by
  obtain⟨i,hi⟩:=List.getElem?_of_mem hc;have I:i<xs.length:=by rw[<-h1];exact(List.getElem?_eq_some_iff.1 hi).1
  exact e.len (h3 i c xs[i] hi (List.getElem?_eq_getElem I))
 rcases h2.2 with ⟨rfl,J⟩|⟨g,cap,cur,rfl,hb,hg,Z,hc,hs,ht⟩
 · exact⟨none,0,0,rfl,J,Nat.le_refl _,by simp[maxLen],λi x U=>by
    have:xs=[]:=List.eq_nil_of_length_eq_zero J;subst this;simp at U⟩
 · refine⟨some ⟨g,0,none⟩,xs.length,cap,rfl,rfl,Z,hc,λi x U=>?_⟩;have I:i<css.length:=by rw[h1];exact(List.getElem?_eq_some_iff.1 U).1
   refine⟨g,0,css[i],rfl,ho g hb,?_,e.mv (h3 i _ x (List.getElem?_eq_getElem I) U) hm⟩;intro j u hj;have Y:=nK css i css[i] j u hlen (List.getElem?_eq_getElem I) hj;rw[<-ht,List.getElem?_take] at Y;split at Y
   · have h5:cur[i*e.sz+j]? =some u:=by simpa using Y
     simpa [cellAt,hg,Nat.add_assoc] using h5
   · cases Y
theorem aL.kC {e:gW α}{x:α}(k:e.R h O cs x) (J:¬O h.size):aL e (h.push (.cells cs.toArray t)) O (.slice (some ⟨h.size,0,none⟩) 1 1) [x] :=
 ⟨_,1,1,rfl,rfl,Nat.le_refl _,by simp[maxLen],λi y I=>by
  cases i with
  |zero =>
   simp at I;subst I;refine⟨h.size,0,cs,rfl,J,?_,e.mv k (Mv.ah (Ext.push _ _ _))⟩;simpa using ie h cs t
  |succ i=>simp at I⟩
theorem cH.kU {e:gW α}{M:Nat->Prop}{h':aq}{xs:List α}(k:cH e O h base t v xs) (x:Ext M h h') (J:∀b,v.ownBlock=some b->¬M b) (hM:∀b,b<h.size->M b->O b) (Z:∀b,b<h.size->O' b->O b):cH e O' h' base t v xs:=by
 obtain⟨css,h1,h2,h3⟩:=k;refine⟨css,h1,h2.ext x J,λi cs y hc Y=>e.mv (h3 i cs y hc Y) ⟨x.size,λb I U=>⟨x.block b I (λk=>U (.inr (hM b I k))),λk=>U (k.imp id (Z b I))⟩⟩⟩
theorem cH.wO {e:gW α}{xs:List α}(k:cH e O h base t v xs) (ho:∀b,v.ownBlock=some b->¬O' b) (hO:∀b,b<h.size->O' b->O b):aL e h O' v xs:=by
 obtain⟨css,h1,h2,h3⟩:=k;have hm:Mv (λb=>bU v.ownBlock b\/O b) O' h h:=⟨Nat.le_refl _,λb hb hn=>⟨rfl,λk=>hn (.inr (hO b hb k))⟩⟩
 have hlen:∀c∈css,c.length=e.sz:=λc hc=>by
  obtain⟨i,hi⟩:=List.getElem?_of_mem hc;have I:i<xs.length:=by rw[<-h1];exact(List.getElem?_eq_some_iff.1 hi).1
  exact e.len (h3 i c xs[i] hi (List.getElem?_eq_getElem I))
 rcases h2.2 with ⟨rfl,J⟩|⟨g,cap,cur,rfl,hb,hg,Z,hc,hs,ht⟩
 · exact⟨none,0,0,rfl,J,Nat.le_refl _,by simp[maxLen],λi x U=>by
    have:xs=[]:=List.eq_nil_of_length_eq_zero J;subst this;simp at U⟩
 · refine⟨some ⟨g,0,none⟩,xs.length,cap,rfl,rfl,Z,hc,λi x U=>?_⟩;have I:i<css.length:=by rw[h1];exact(List.getElem?_eq_some_iff.1 U).1
   refine⟨g,0,css[i],rfl,ho g rfl,?_,e.mv (h3 i _ x (List.getElem?_eq_getElem I) U) hm⟩;intro j u hj;have Y:=nK css i css[i] j u hlen (List.getElem?_eq_getElem I) hj;rw[<-ht,List.getElem?_take] at Y;split at Y
   · have h5:cur[i*e.sz+j]? =some u:=by simpa using Y
     simpa [cellAt,hg,Nat.add_assoc] using h5
   · cases Y
end
end Go.Lw
namespace Go.Lw
theorem aB.gR {h h':aq}{base:Nat}{t:TypeId}{size:Nat}{v:Value}{n:Nat}{xs:List Value}(k:aB h base t size v n xs) (e:aj h h'):aB h' base t size v n xs:=aB.ext e k (λ_ _ k=>k)
end Go.Lw
namespace Go.Lw
theorem lG {α:Type}{sz:Nat}:∀(css:List (List α)) (i:Nat) (cs:List α) (o:Nat) (u:α),(∀c∈css,c.length=sz)->css[i]? =some cs->o<sz->(css.set i (cs.set o u)).flatten=css.flatten.set (i*sz+o) u
 | [],i,cs,o,u,_,I,_=>by simp at I
 |c::css,0,cs,o,u,hl,I,U=>by
  simp at I;subst I;have h0:c.length=sz:=hl c (by simp);rw[List.set_cons_zero,List.flatten_cons,List.flatten_cons,Nat.zero_mul,Nat.zero_add,List.set_append_left _ _ (by omega)]
 |c::css,i+1,cs,o,u,hl,I,U=>by
  have h0:c.length=sz:=hl c (by simp);have J:c.length<=(i+1)*sz+o:=by rw[h0,Nat.add_mul];omega
  rw[List.set_cons_succ,List.flatten_cons,List.flatten_cons,List.set_append_right _ _ J,h0];have:(i+1)*sz+o-sz=i*sz+o:=by rw[Nat.add_mul];omega
  rw[this,lG css i cs o u (λc hc=>hl c (by simp[hc])) (by simpa using I) U]
theorem cH.put {α:Type}{e:gW α}{O:Nat->Prop}{h:aq}{base:Nat}{t:TypeId}{v:Value}{xs:List α}(k:cH e O h base t v xs){i:Nat}{x:α}(hx:xs[i]? =some x) :
 ∃g c cs,v= .slice (some ⟨g,0,none⟩) xs.length c/\base<=g/\g<h.size/\Lw.rowAt h g (0+i*e.sz) cs/\(∀o,frozenAt h ⟨g,o,none⟩=false)/\e.R h (λb=>bU v.ownBlock b\/O b) cs x /\
  ∀(o:Nat) (u:Value) (y:α),o<e.sz->e.R h (λb=>bU v.ownBlock b\/O b) (cs.set o u) y->cH e O (dx h ⟨g,0+i*e.sz+o,none⟩ u) base t v (xs.set i y):=by
 obtain⟨css,h1,h2,h3⟩:=k;have hi:i<xs.length:=(List.getElem?_eq_some_iff.1 hx).1
 have hlen:∀c∈css,c.length=e.sz:=λc hc=>by
  obtain⟨j,hj⟩:=List.getElem?_of_mem hc;have Y:j<xs.length:=by rw[<-h1];exact(List.getElem?_eq_some_iff.1 hj).1
  exact e.len (h3 j c xs[j] hj (List.getElem?_eq_getElem Y))
 rcases h2.2 with ⟨_,hn0⟩|⟨g,cap,cur,rfl,hb,hg,ac,hc,hs,ht⟩
 · omega
 have aa:i<css.length:=by omega
 have J:css[i]? =some css[i]:=List.getElem?_eq_getElem aa;refine⟨g,cap,css[i],rfl,hb,(Array.getElem?_eq_some_iff.1 hg).1,?_,λo=>by simp[frozenAt,hg],h3 i _ x J hx,λo u y ho hy=>?_⟩
 · intro j w hj;have h4:=nK css i css[i] j w hlen J hj;rw[<-ht,List.getElem?_take] at h4;split at h4
   · have h5:cur[i*e.sz+j]? =some w:=by simpa using h4
     simpa [cellAt,hg] using h5
   · cases h4
 · have hm:Mv (λb=>bU (Value.slice (some ⟨g,0,none⟩) xs.length cap).ownBlock b\/O b) (λb=>bU (Value.slice (some ⟨g,0,none⟩) xs.length cap).ownBlock b\/O b) h (dx h ⟨g,0+i*e.sz+o,none⟩ u) :=
    ⟨by rw[iP];exact Nat.le_refl _,λb Y Z=>⟨(Ext.dx (M:=λb=>b=g) h _ u rfl).block b Y (λk=>Z (.inl (by subst k;rfl))),Z⟩⟩
   refine⟨css.set i (css[i].set o u),by simp[h1],⟨?_,.inr ⟨g,cap,cur.setIfInBounds (0+i*e.sz+o) u,by simp,hb,si hg u,by simpa using ac,hc,by simpa using hs,?_⟩⟩,λj ad y' U I=>?_⟩
   · rw[lG css i _ o u hlen J ho,List.length_set,List.length_set];exact h2.1
   · rw[lG css i _ o u hlen J ho,Array.toList_setIfInBounds,List.take_set,List.length_set,ht,Nat.zero_add]
   · rcases Nat.decEq i j with ab|rfl
     · rw[List.getElem?_set_ne ab] at U I;exact e.mv (h3 j ad y' U I) hm
     · rw[List.getElem?_set_self aa] at U;rw[List.getElem?_set_self hi] at I;cases U;cases I;exact e.mv hy hm
end Go.Lw
namespace Go.Lw
theorem aV.gk {P:Program}{ρ:Env}{h:aq}{dst:Option Nat}{ty:TypeId}{pos:String}{after:Array Edge}{guard:Option (Nat×Bool)}{X:List PanicEntry->aq->Prop}{t e:TypeId}{bytes n:Nat}{x y:Operand}{kl kc:IntKind}{z:Value}
 (ht:P.underlying t=some (.slice e)) (he:dS P e 1 bytes) (hz:(P.info? e).bind (·.zero)=some z) (hx:bp ρ x=some (.int kl (n:Nat))) (hy:bp ρ y=some (.int kc (n:Nat))) (Z:z.cells= #[z]) (hn:n<=1000000000) (hb:bytes<=1000) :
 aV P ⟨dst,.makeSlice t x y,ty,pos,after,guard⟩ ρ h (λu g=>u= .slice (some ⟨h.size,0,none⟩) n n/\aB g h.size e 1 u n (List.replicate n z)/\aj h g) X:=by
 obtain⟨⟨i,U,hi,I,aa,hby,hzs⟩,_⟩:=he;have Y:U=z:=by rw[hi] at hz;simpa [I] using hz
 subst Y;intro nn B a w hf J next Q ab _
 have hmul:i.bytes*n<=1000*1000000000:=Nat.mul_le_mul (by omega) hn;obtain⟨w',hr,h2,h3⟩:=run_make_full (P:=P) w h.size t e i U 1 ht hi I aa kl kc n (by omega) (by simp only[maxLen];omega) (by rw[J.heap];exact Nat.le_refl _);unfold Oper.wp execOp;simp only[hf.eval hx,hf.eval hy,Sem.run_bind,Sem.run_pure,Result.andThen_ok,hr];refine ab _ w'.heap w' (J.grown h3) ⟨by rw[J.heap],?_,?_⟩
 · have h4:=(At.own (J.grown h3)).1 h2
   have:(madeCells U.cells (n*1)).toList=List.replicate n U:=by
    rw[Z,madeCells,Nat.mul_one]
    apply List.ext_getElem
    · simp
    · intro j h1 h2;simp[Nat.mod_one]
   rw[this] at h4;exact h4
 · have h5:=nL h3;rw[J.heap] at h5;exact sL h5
end Go.Lw

/- What the proof of the statement leans on (part 17). -/
import Derived.Deep.Fields
import Derived.OpenShut
import Derived.Test.YtckomlgchbkekaaGreatDoorQp

namespace Go.Lw
open Go.ChangeShapes Go.WideShapes Go.ChangeAt Go.RowKit
variable {H:Type}{enc:TypeId×Value->H}{P:Program}
theorem Bn {α:Type}{n:Nat}{p:Nat->α->Prop}(h:∀i,i<n->∃x,p i x):∃l:List α,l.length=n/\∀i x,l[i]? =some x->p i x:=by
 induction n with
 |zero=>exact⟨[],rfl,fun i x hx=>by simp at hx⟩
 |succ n ih =>
  obtain⟨l,hl,hp⟩:=ih (fun i hi=>h i (by omega));obtain⟨x,hx⟩:=h n (by omega);refine⟨l++[x],by simp[hl],fun i y hy=>?_⟩
  rcases Nat.lt_or_ge i n with hi|hi
  · rw[List.getElem?_append_left (by omega)] at hy;exact hp i y hy
  · rw[List.getElem?_append_right (by omega),hl] at hy
    have:i=n:=by
     rcases Nat.lt_or_ge (i-n) 1 with h1|h1
     · omega
     · rw[List.getElem?_eq_none (by simpa using h1)] at hy;cases hy
    subst this;simp at hy;subst hy;exact hx
end Go.Lw
namespace Go.Lw
open Go.ChangeShapes Go.WideShapes Go.ChangeAt Go.RowKit
section
variable {W:World}{fuel:Nat}{sp:Nat->Bool}{held:Bool}{t:TypeId}{cs:List Value}{pl:List MemPlace}
variable {H:Type}{enc:TypeId×Value->H}{P:Program}
theorem wP {base:Nat}{l:List UInt8}(ht:P.underlying t=some .string)
 (h:DataW.trod enc P W base sp held fuel t cs=some (.lit (.string l),pl)):cs=[.string ⟨l.toArray⟩]:=by
 cases fuel with
 |zero=>simp[DataW.trod] at h
 |succ n =>
  rw[DataW.trod_step] at h;unfold DataW.trodStep at h;rw[ht] at h;split at h<;>try (first|cases h|(simp at *;done))
  rename_i s _ _;split at h
  · simp only[Option.some.injEq,Prod.mk.injEq,DataW.lit.injEq,Lit.string.injEq] at h;rw[<-h.1]
  · cases h
theorem nG {base:Nat}{k k':IntKind}{i:Int}(ht:P.underlying t=some (.int k))
 (h:DataW.trod enc P W base sp held fuel t cs=some (.lit (.int k' i),pl)):cs=[.int k i]:=by
 cases fuel with
 |zero=>simp[DataW.trod] at h
 |succ n =>
  rw[DataW.trod_step] at h;unfold DataW.trodStep at h;rw[ht] at h;split at h<;>simp_all
def gq (r:List UInt8×Int×Int):List Value:=[.string ⟨r.1.toArray⟩,.int .i64 r.2.1,.int .i64 r.2.2]
def Nk:fS (List UInt8×Int×Int):=.record 3 (by decide) gq (fun _=>rfl) (fun x v hv=>by simp[gq] at hv;rcases hv with rfl|rfl|rfl<;>rfl)
def gJ (r:List UInt8×Int×Int):DataW H:=.agg [.lit (.string r.1),.lit (.int .i64 r.2.1),.lit (.int .i64 r.2.2)]
theorem EW {e:TypeId}{f0 f1 f2:Field}{L:List (List UInt8×Int×Int)}{rest:List (DataW H)}
 (ht:P.underlying t=some (.slice e)) (he:P.underlying e=some (.struct #[f0,f1,f2])) (hC:P.cellsOf e=3)
 (o0:f0.offset=0) (o1:f1.offset=1) (o2:f2.offset=2) (t0:P.underlying f0.type=some .string) (t1:P.underlying f1.type=some (.int .i64)) (t2:P.underlying f2.type=some (.int .i64)) (c0:P.cellsOf f0.type=1) (c1:P.cellsOf f1.type=1) (c2:P.cellsOf f2.type=1)
 (h:DataW.trod enc P W 0 sp held fuel t cs=some (.slice (L.map gJ) rest,pl)):∃v,cs=[v]/\aR Nk W.heap (fun _=>False) v L:=by
 rcases Deep.open_slice ht h with ⟨_,hx⟩|⟨a,len,cap,m,n,D,Pl,rfl,_,hle,hm,hmm,hx,hel⟩
 · simp at hx
 · simp only[Prod.mk.injEq,DataW.slice.injEq] at hx;have hlen:L.length=len:=by have:=congrArg List.length hx.1.1;simpa using this
   have hlm:len<=m:=by rw[hmm];split<;>omega
   have hD:∀(i:Nat) (r:List UInt8×Int×Int),L[i]? =some r->D i=gJ r:=fun i r hr=>by
    have hil:i<len:=by rw[<-hlen];exact(List.getElem?_eq_some_iff.1 hr).1
    have:=congrArg (fun z=>z[i]?) hx.1.1;simp only[List.getElem?_map,hr,Option.map_some,List.getElem?_range hil,Option.some.injEq] at this;exact this.symm
   refine⟨_,rfl,some a,len,cap,rfl,hlen,hle,hm,fun i r hr=>?_⟩;have hil:i<len:=by rw[<-hlen];exact(List.getElem?_eq_some_iff.1 hr).1
   obtain⟨cs',hc1,hc2⟩:=hel i (by omega);rw[hC] at hc1;rw[hD i r hr] at hc2;obtain⟨_,hcl,hcell⟩:=World.cells?_some hc1;obtain⟨xs,k,_,hxe,_,hxl,hfl⟩:=DataW.trod_struct he hc2;simp only[Prod.mk.injEq,gJ,DataW.agg.injEq] at hxe;have hx3:xs.length=3:=hxl
   match cs',hcl,xs,hx3 with
   | [u0,u1,u2],_,[x0,x1,x2],_ =>
    have g0:=hfl 0 f0 rfl;have g1:=hfl 1 f1 rfl;have g2:=hfl 2 f2 rfl;rw[o0,c0] at g0;rw[o1,c1] at g1;rw[o2,c2] at g2;simp only[List.map_cons,List.map_nil,List.cons.injEq,and_true] at hxe;obtain⟨⟨e0,e1,e2⟩,_⟩:=hxe;have q0:[u0]=[.string ⟨r.1.toArray⟩]:=wP t0 (pl:=x0.2) (by rw[e0];exact g0);have q1:[u1]=[.int .i64 r.2.1]:=nG t1 (pl:=x1.2) (k':=.i64) (by rw[e1];exact g1);have q2:[u2]=[.int .i64 r.2.2]:=nG t2 (pl:=x2.2) (k':=.i64) (by rw[e2];exact g2);simp only[List.cons.injEq,and_true] at q0 q1 q2;subst q0;subst q1;subst q2;obtain⟨cs0,hc0,_⟩:=hel 0 (by omega);rw[hC] at hc0;obtain⟨_,hcl0,hcell0⟩:=World.cells?_some hc0;have hs0:=hcell0 0 (by omega);rw[List.getElem?_eq_getElem (by omega)] at hs0;have hspot:a.spot=none:=by simpa [Addr.add] using World.cell?_spot hs0
    obtain⟨b,o,spot⟩:=a;have hspot:spot=none:=hspot;subst hspot;refine⟨b,o,gq r,rfl,fun k=>k,fun j u hj=>?_,rfl⟩
    have hjl:j<3:=by
     rcases Nat.lt_or_ge j 3 with h2|h2
     · exact h2
     · rw[List.getElem?_eq_none (by simpa [gq] using h2)] at hj;cases hj
    have:=hcell j hjl;rw[Deep.add_add,Addr.add_mid,dm] at this
    show cellAt W.heap ⟨b,o+i*3+j,none⟩=some u
    rw[Nat.add_assoc,this];exact hj
end
end Go.Lw

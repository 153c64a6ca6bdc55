/- What the proof of the statement leans on (part 21). -/
import Derived.Test.YtmehdcdbeafljaaGreatDoorQt

namespace Go.Proofs.YtmehdcdbeafljaaGreatDoor
section
variable {F ss:List bT}{fin:Nat->Prop}{n to i st:Nat}{x:bT}{w:By}{todo:List Nat}
inductive rH (A:By->Prop):By->Prop where
 |nil:rH A []
 |cons {u v:By}:A u->rH A v->rH A (u++v)
end
mutual
def Dv:Nd->By->Prop
 |.mk k s kids=>fun w =>
  if k=1 then ∃c:UInt8,w=[c]/\s.testBit c.toNat=true
  else if k=2 then wQ kids w
  else if k=3 then sG kids w
  else if k=6 then w=[]\/qu kids w
  else if k=4 then rH (qu kids) w
  else if k=5 then ∃u v,w=u++v/\qu kids u/\rH (qu kids) v
  else w=[]
def wQ:List Nd->By->Prop
 | []=>fun w=>w=[]
 |x::r=>fun w=>∃u v,w=u++v/\Dv x u/\wQ r v
def sG:List Nd->By->Prop
 | []=>fun _=>False
 |x::r=>fun w=>Dv x w\/sG r w
def qu:List Nd->By->Prop
 | []=>fun w=>w=[]
 |x::_=>fun w=>Dv x w
end
section
variable {F ss:List bT}{fin:Nat->Prop}{n to i st:Nat}{x:bT}{w:By}{todo:List Nat}
inductive Acc (F:List bT) (fin:Nat->Prop):Nat->Nat->By->Prop where
 |done {q:Nat}:fin q->Acc F fin 0 q []
 |eps {n q q':Nat}{x:bT}{w:By}:F[q]? =some x->x.kind=0->q'∈x.to->Acc F fin n q' w->Acc F fin (n+1) q w
 |eat {n q q':Nat}{x:bT}{c:UInt8}{w:By}:F[q]? =some x->x.kind=1->x.set.testBit c.toNat=true->q'∈x.to->Acc F fin n q' w->Acc F fin (n+1) q (c::w)
def lP (F:List bT) (fin:Nat->Prop):Prop:=∀q,fin q->∃x,F[q]? =some x/\x.kind=2
theorem Acc.fork (hf:lP F fin){q:Nat}(hx:F[q]? =some x) (hk:x.kind=0) (h:Acc F fin n q w):∃m q',m<n/\q'∈x.to/\Acc F fin m q' w:=by
 cases h with
 |done hq=>obtain⟨y,hy,hk2⟩:=hf _ hq;rw[hx] at hy;cases hy;omega
 |eps hy _ hq h=>rw[hx] at hy;cases hy;exact⟨_,_,Nat.lt_succ_self _,hq,h⟩
 |eat hy hk1 _ _ _=>rw[hx] at hy;cases hy;omega
theorem Acc.NG (hf:lP F fin){q:Nat}(hx:F[q]? =some x) (hk:x.kind=1) (h:Acc F fin n q w):∃m q' c w',m<n/\w=c::w'/\x.set.testBit c.toNat=true/\q'∈x.to/\Acc F fin m q' w':=by
 cases h with
 |done hq=>obtain⟨y,hy,hk2⟩:=hf _ hq;rw[hx] at hy;cases hy;omega
 |eps hy hk1 _ _=>rw[hx] at hy;cases hy;omega
 |eat hy _ hc hq h=>rw[hx] at hy;cases hy;exact⟨_,_,_,_,Nat.lt_succ_self _,rfl,hc,hq,h⟩
def Splits (F:List bT) (fin:Nat->Prop) (b to:Nat) (A:By->Prop):Prop :=
 (∀n w,Acc F fin n b w->∃u v m,w=u++v/\A u/\m<=n/\Acc F fin m to v)/\(∀u v m,A u->Acc F fin m to v->∃n,Acc F fin n b (u++v))
def FD (F ss':List bT) (lo:Nat):Prop:=∀i,lo<=i->i<ss'.length->F[i]? =ss'[i]?
theorem pQ:Splits F fin to to (fun w=>w=[]) :=
 ⟨fun n w h=>⟨[],w,n,rfl,rfl,Nat.le_refl _,h⟩,fun u v m hu h=>⟨m,by subst hu;exact h⟩⟩
theorem AT (hf:lP F fin){first again:Nat}{A:By->Prop}(hx:F[again]? =some x) (hk:x.kind=0) (ht:x.to=[first,to]) (h:Splits F fin first again A):Splits F fin again to (rH A):=by
 constructor
 · intro n
   induction n using Nat.strongRecOn with
   |_ n ih =>
    intro w hw;obtain⟨m,q',hm,hq,hw'⟩:=hw.fork hf hx hk;rw[ht] at hq
    rcases List.mem_cons.1 hq with rfl|hq
    · obtain⟨u1,v1,m1,rfl,hu1,hm1,hv1⟩:=h.1 _ _ hw';obtain⟨u2,v2,m2,rfl,hu2,hm2,hv2⟩:=ih m1 (by omega) _ hv1;exact⟨u1++u2,v2,m2,by simp,.cons hu1 hu2,by omega,hv2⟩
    · have:q'=to:=by simpa using hq
      subst this;exact⟨[],w,m,rfl,.nil,by omega,hw'⟩
 · intro u v m hu hv
   induction hu with
   |nil=>exact⟨m+1,.eps hx hk (by rw[ht];simp) hv⟩
   |cons hA _ ih =>
    obtain⟨n,hn⟩:=ih;obtain⟨n',hn'⟩:=h.2 _ _ _ hA hn;exact⟨n'+1,.eps (q':=first) hx hk (by rw[ht];simp) (by rw[List.append_assoc];exact hn')⟩
theorem uI {b c:Nat}{A B:By->Prop}(h1:Splits F fin b c A) (h2:Splits F fin c to B):Splits F fin b to (fun w=>∃u v,w=u++v/\A u/\B v):=by
 constructor
 · intro n w hw;obtain⟨u1,v1,m1,rfl,hu1,hm1,hv1⟩:=h1.1 _ _ hw;obtain⟨u2,v2,m2,rfl,hu2,hm2,hv2⟩:=h2.1 _ _ hv1;exact⟨u1++u2,v2,m2,by simp,⟨_,_,rfl,hu1,hu2⟩,by omega,hv2⟩
 · rintro u v m ⟨u1,u2,rfl,hA,hB⟩ hv;obtain⟨n,hn⟩:=h2.2 _ _ _ hB hv;obtain⟨n',hn'⟩:=h1.2 _ _ _ hA hn;exact⟨n',by rw[List.append_assoc];exact hn'⟩
end
mutual
theorem mq {F:List bT}{fin:Nat->Prop}(hf:lP F fin):∀(x:Nd) (ss:List bT) (to:Nat),FD F (lay x ss to).1 ss.length->Splits F fin (lay x ss to).2 to (Dv x)
 |.mk k s kids,ss,to,hs=>by
  rw[lay] at hs ⊢;unfold Dv
  by_cases h1:k=1
  · simp only[if_pos h1] at hs ⊢;have hx:F[ss.length]? =some ⟨1,s,[to],0⟩:=by rw[hs _ (Nat.le_refl _) (by simp)];simp
    constructor
    · intro n w hw;obtain⟨m,q',c,w',hm,rfl,hc,hq,hw'⟩:=hw.NG hf hx rfl;have:q'=to:=by simpa using hq
      subst this;exact⟨[c],w',m,rfl,⟨c,rfl,hc⟩,by omega,hw'⟩
    · rintro u v m ⟨c,rfl,hc⟩ hv;exact⟨m+1,.eat hx rfl hc (by simp) hv⟩
  · simp only[if_neg h1] at hs ⊢
    by_cases h2:k=2
    · simp only[if_pos h2] at hs ⊢;exact oW hf kids ss to hs
    · simp only[if_neg h2] at hs ⊢
      by_cases h3:k=3
      · simp only[if_pos h3] at hs ⊢;have hl:=fT kids ss to;have hx:F[(bC kids ss to).1.length]? =some ⟨0,0,(bC kids ss to).2,0⟩:=by rw[hs _ (by omega) (by simp)];simp
        have ih:=oX hf kids ss to (fun i h1 h2=>by rw[hs i h1 (by simp;omega),List.getElem?_append_left h2]);constructor
        · intro n w hw;obtain⟨m,q',hm,hq,hw'⟩:=hw.fork hf hx rfl;obtain⟨u,v,m',hu⟩:=ih.1 _ _ _ hq hw';exact⟨u,v,m',hu.1,hu.2.1,by omega,hu.2.2.2⟩
        · intro u v m hu hv;obtain⟨n,q',hq,hn⟩:=ih.2 _ _ _ hu hv;exact⟨n+1,.eps hx rfl hq hn⟩
      · simp only[if_neg h3] at hs ⊢
        by_cases h6:k=6
        · simp only[if_pos h6] at hs ⊢;have hl:=gM kids ss to;have hx:F[(cJ kids ss to).1.length]? =some ⟨0,0,[(cJ kids ss to).2,to],0⟩:=by rw[hs _ (by omega) (by simp)];simp
          have ih:=oV hf kids ss to (fun i h1 h2=>by rw[hs i h1 (by simp;omega),List.getElem?_append_left h2]);constructor
          · intro n w hw;obtain⟨m,q',hm,hq,hw'⟩:=hw.fork hf hx rfl
            rcases List.mem_cons.1 hq with rfl|hq
            · obtain⟨u,v,m',h1,h2,h3,h4⟩:=ih.1 _ _ hw';exact⟨u,v,m',h1,.inr h2,by omega,h4⟩
            · have:q'=to:=by simpa using hq
              subst this;exact⟨[],w,m,rfl,.inl rfl,by omega,hw'⟩
          · rintro u v m (rfl|hu) hv
            · exact⟨m+1,.eps hx rfl (by simp) hv⟩
            · obtain⟨n,hn⟩:=ih.2 _ _ _ hu hv;exact⟨n+1,.eps hx rfl (by simp) hn⟩
        · simp only[if_neg h6] at hs ⊢
          by_cases h45:k=4\/k=5
          · simp only[if_pos h45] at hs ⊢;have hl:=gM kids (ss++[⟨0,0,[],0⟩]) ss.length;simp only[List.length_append,List.length_singleton] at hl
            have hx:F[ss.length]? =some ⟨0,0,[(cJ kids (ss++[⟨0,0,[],0⟩]) ss.length).2,to],0⟩:=by
             rw[hs _ (Nat.le_refl _) (by simp;omega)];simp[List.getElem?_set];omega
            have ih:=oV hf kids (ss++[⟨0,0,[],0⟩]) ss.length (fun i h1 h2=>by
             simp only[List.length_append,List.length_singleton] at h1;rw[hs i (by omega) (by simp;omega),List.getElem?_set_ne (by omega)])
            have hst:=AT hf hx rfl rfl ih
            by_cases h4:k=4
            · have h5:¬k=5:=by omega
              simp only[if_pos h4,if_neg h5];exact hst
            · have h5:k=5:=by omega
              simp only[if_neg h4,if_pos h5];exact uI ih hst
          · simp only[if_neg h45] at hs ⊢;have h4:¬k=4:=fun e=>h45 (.inl e)
            have h5:¬k=5:=fun e=>h45 (.inr e)
            simp only[if_neg h4,if_neg h5];exact pQ
theorem oW {F:List bT}{fin:Nat->Prop}(hf:lP F fin):∀(l:List Nd) (ss:List bT) (to:Nat),FD F (bN l ss to).1 ss.length->Splits F fin (bN l ss to).2 to (wQ l)
 | [],ss,to,hs=>by
  rw[bN];unfold wQ;exact pQ
 |x::r,ss,to,hs=>by
  rw[bN] at hs ⊢;unfold wQ;have hl:=jU r ss to;have hl2:=gw x (bN r ss to).1 (bN r ss to).2;have h2:=oW hf r ss to (fun i h1 h2=>by rw[hs i h1 (by omega),mu x _ _ i h2]);have h1:=mq hf x (bN r ss to).1 (bN r ss to).2 (fun i h1 h2=>hs i (by omega) h2);exact uI h1 h2
theorem oX {F:List bT}{fin:Nat->Prop}(hf:lP F fin):∀(l:List Nd) (ss:List bT) (to:Nat),FD F (bC l ss to).1 ss.length ->
 (∀n q w,q∈(bC l ss to).2->Acc F fin n q w->∃u v m,w=u++v/\sG l u/\m<=n/\Acc F fin m to v)/\(∀u v m,sG l u->Acc F fin m to v->∃n q,q∈(bC l ss to).2/\Acc F fin n q (u++v))
 | [],ss,to,hs=>by
  rw[bC];unfold sG;exact⟨fun n q w h=>absurd h List.not_mem_nil,fun u v m h=>False.elim h⟩
 |x::r,ss,to,hs=>by
  rw[bC] at hs ⊢;unfold sG;have hl:=gw x ss to;have hl2:=fT r (lay x ss to).1 to;have h1:=mq hf x ss to (fun i h1 h2=>by rw[hs i h1 (by simp only;omega)];exact qc r _ _ i h2);have h2:=oX hf r (lay x ss to).1 to (fun i h1 h2=>hs i (by omega) h2);constructor
  · intro n q w hq hw
    rcases List.mem_cons.1 hq with rfl|hq
    · obtain⟨u,v,m,a,b,c,d⟩:=h1.1 _ _ hw;exact⟨u,v,m,a,.inl b,c,d⟩
    · obtain⟨u,v,m,a,b,c,d⟩:=h2.1 _ _ _ hq hw;exact⟨u,v,m,a,.inr b,c,d⟩
  · rintro u v m (hu|hu) hv
    · obtain⟨n,hn⟩:=h1.2 _ _ _ hu hv;exact⟨n,_,List.mem_cons_self,hn⟩
    · obtain⟨n,q,hq,hn⟩:=h2.2 _ _ _ hu hv;exact⟨n,q,List.mem_cons_of_mem _ hq,hn⟩
theorem oV {F:List bT}{fin:Nat->Prop}(hf:lP F fin):∀(l:List Nd) (ss:List bT) (to:Nat),FD F (cJ l ss to).1 ss.length->Splits F fin (cJ l ss to).2 to (qu l)
 | [],ss,to,hs=>by
  rw[cJ];unfold qu;exact pQ
 |x::r,ss,to,hs=>by
  rw[cJ] at hs ⊢;unfold qu;exact mq hf x ss to hs
end
section
variable {F ss:List bT}{fin:Nat->Prop}{n to i st:Nat}{x:bT}{w:By}{todo:List Nat}
inductive H7 (ss:List bT):Nat->Nat->Prop where
 |refl (i:Nat):H7 ss i i
 |step {i j k:Nat}{x:bT}:ss[i]? =some x->x.kind=0->j∈x.to->H7 ss j k->H7 ss i k
theorem H7.snoc {j k:Nat}(h:H7 ss i j) (hx:ss[j]? =some x) (hk:x.kind=0) (ht:k∈x.to):H7 ss i k:=by
 induction h with
 |refl=>exact .step hx hk ht (.refl _)
 |step a b c _ ih=>exact .step a b c (ih hx)
structure H8 (ss:List bT) (T todo:List Nat) (seen:List Bool):Prop where
 len:seen.length=ss.length
 inn:∀j∈todo,j<ss.length
 sound:∀i,(seen[i]? =some true\/i∈todo)->∃t∈T,H7 ss t i
 cl:∀(i:Nat) (x:bT),seen[i]? =some true->ss[i]? =some x->x.kind=0->∀j∈x.to,seen[j]? =some true\/j∈todo
 all:∀t∈T,seen[t]? =some true\/t∈todo
theorem CX {l:List Nat}(h:l.getLast? =some i):l=l.dropLast++[i]:=by
 obtain⟨h0,rfl⟩:=List.getLast?_eq_some_iff.1 h;simp
theorem sx {ss:List bT}{T:List Nat}(hg:Good ss):∀(n:Nat) (todo:List Nat) (seen:List Bool),todo.length+sX ss seen<=n->H8 ss T todo seen->H8 ss T [] (jz ss n todo seen)
 | 0,todo,seen,hn,k=>by
  have:todo=[]:=List.length_eq_zero_iff.1 (by omega);subst this;exact k
 |n+1,todo,seen,hn,k=>by
  unfold jz;split
  · rename_i h;have:todo=[]:=List.getLast?_eq_none_iff.1 h;subst this;exact k
  · rename_i i h;have hsp:=CX h;have hlen:todo.length=todo.dropLast.length+1:=by rw[hsp];simp
    have hi:i∈todo:=by rw[hsp];simp
    have hmem:∀j,j∈todo->j∈todo.dropLast\/j=i:=fun j hj=>by rw[hsp] at hj;simpa using hj
    have hsub:∀j,j∈todo.dropLast->j∈todo:=fun j hj=>by rw[hsp];simp[hj]
    split
    · rename_i hs;refine sx hg n _ _ (by omega) ⟨k.len,fun j hj=>k.inn j (hsub j hj),fun j hj=>k.sound j (hj.imp id (hsub j)),fun j x a b c d e=>?_,fun t ht=>?_⟩
      · rcases k.cl j x a b c d e with h1|h1
        · exact .inl h1
        · rcases hmem d h1 with h2|rfl
          · exact .inr h2
          · exact .inl hs
      · rcases k.all t ht with h1|h1
        · exact .inl h1
        · rcases hmem t h1 with h2|rfl
          · exact .inr h2
          · exact .inl hs
    · rename_i hs;have hil:=k.inn i hi;obtain⟨x,hx⟩:∃x,ss[i]? =some x:=⟨_,List.getElem?_eq_getElem hil⟩
      have hf:seen[i]? =some false:=by
       obtain⟨b,hb⟩:∃b,seen[i]? =some b:=⟨_,List.getElem?_eq_getElem (by rw[k.len];exact hil)⟩
       cases b
       · exact hb
       · exact absurd hb hs
      have hp:=zi ss seen i x hx hf;have hself:(seen.set i true)[i]? =some true:=by rw[List.getElem?_set_self (by rw[k.len];exact hil)]
      have hset:∀j,seen[j]? =some true->(seen.set i true)[j]? =some true:=fun j hj=>by
       by_cases e:i=j
       · subst e;exact hself
       · rw[List.getElem?_set_ne e];exact hj
      have hget:∀j,(seen.set i true)[j]? =some true->j=i\/seen[j]? =some true:=fun j hj=>by
       by_cases e:i=j
       · exact .inl e.symm
       · rw[List.getElem?_set_ne e] at hj;exact .inr hj
      rw[hx];simp only;obtain⟨t0,FI,he0⟩:=k.sound i (.inr hi);have hxm:x∈ss:=List.mem_of_getElem? hx;generalize hnew:(if x.kind=0 then todo.dropLast++x.to else todo.dropLast)=new
      have hin:∀j,j∈new->j∈todo.dropLast\/(x.kind=0/\j∈x.to):=fun j hj=>by
       subst hnew;split at hj
       · rename_i hk
         rcases List.mem_append.1 hj with h1|h1
         · exact .inl h1
         · exact .inr ⟨hk,h1⟩
       · exact .inl hj
      have hold:∀j,j∈todo.dropLast->j∈new:=fun j hj=>by
       subst hnew;split
       · exact List.mem_append_left _ hj
       · exact hj
      have hbig:new.length<=todo.dropLast.length+x.to.length:=by
       subst hnew;split<;>simp
      refine sx hg n _ _ (by omega) ⟨by rw[List.length_set];exact k.len,fun j hj=>?_,fun j hj=>?_,fun j y a b c d e=>?_,fun t ht=>?_⟩
      · rcases hin j hj with h1|⟨_,h1⟩
        · exact k.inn j (hsub j h1)
        · exact hg x hxm j h1
      · rcases hj with h1|h1
        · rcases hget j h1 with rfl|h2
          · exact⟨t0,FI,he0⟩
          · exact k.sound j (.inl h2)
        · rcases hin j h1 with h2|⟨hk,h2⟩
          · exact k.sound j (.inr (hsub j h2))
          · exact⟨t0,FI,he0.snoc hx hk h2⟩
      · rcases hget j a with rfl|a
        · rw[hx] at b;cases b;refine .inr ?_;rw[if_pos c] at hnew;subst hnew;exact List.mem_append_right _ e
        · rcases k.cl j y a b c d e with h1|h1
          · exact .inl (hset d h1)
          · rcases hmem d h1 with h2|rfl
            · exact .inr (hold d h2)
            · exact .inl hself
      · rcases k.all t ht with h1|h1
        · exact .inl (hset t h1)
        · rcases hmem t h1 with h2|rfl
          · exact .inr (hold t h2)
          · exact .inl hself
theorem qn (hg:Good ss) (ht:∀j∈todo,j<ss.length) (j:Nat):j∈closed ss todo↔∃x,ss[j]? =some x/\x.kind≠0/\∃t∈todo,H7 ss t j:=by
 unfold closed;split
 · rename_i h;have:todo=[]:=List.length_eq_zero_iff.1 h;subst this;simp
 · have h0:∀i:Nat,(List.replicate ss.length false)[i]? ≠some true:=fun i hi=>by rw[List.getElem?_replicate] at hi;split at hi<;>cases hi
   have hi0:H8 ss todo todo (List.replicate ss.length false):=⟨by simp,ht,fun i hi=>hi.elim (fun hi=>absurd hi (h0 i)) fun hi=>⟨i,hi,.refl i⟩,fun i x hi=>absurd hi (h0 i),fun t h=>.inr h⟩
   have hi:=sx hg (todo.length+sX ss (List.replicate ss.length false)) todo _ (Nat.le_refl _) hi0;generalize jz ss (todo.length+sX ss (List.replicate ss.length false)) todo (List.replicate ss.length false)=out at hi;simp only[List.mem_filter,List.mem_range,Bool.and_eq_true,bne_iff_ne,ne_eq];constructor
   · rintro⟨hj,h1,h2⟩;obtain⟨x,hx⟩:∃x,ss[j]? =some x:=⟨_,List.getElem?_eq_getElem hj⟩
     rw[hx] at h2;have h1:out[j]? =some true:=by simpa using h1
     exact⟨x,hx,by simpa using h2,hi.sound j (.inl h1)⟩
   · rintro⟨x,hx,hk,t,ht',he⟩
     have key:∀a b,H7 ss a b->out[a]? =some true->out[b]? =some true:=by
      intro a b he
      induction he with
      |refl=>exact id
      |step hy hk hm _ ih =>
       intro ha;refine ih ?_
       rcases hi.cl _ _ ha hy hk _ hm with h1|h1
       · exact h1
       · cases h1
     have h1:=key _ _ he (by
      rcases hi.all t ht' with h1|h1
      · exact h1
      · cases h1)
     refine⟨(List.getElem?_eq_some_iff.1 hx).1,by rw[h1];rfl,by rw[hx];simpa using hk⟩
theorem Acc.through {j:Nat}(h:H7 ss i j) (k:Acc ss fin n j w):∃m,Acc ss fin m i w:=by
 induction h with
 |refl=>exact⟨n,k⟩
 |step a b c _ ih=>obtain⟨m,hm⟩:=ih k;exact⟨m+1,.eps a b c hm⟩
theorem Acc.stop (hf:lP ss fin) (k:Acc ss fin n i w):∃j x,H7 ss i j/\ss[j]? =some x/\x.kind≠0/\∃m,Acc ss fin m j w:=by
 induction k with
 |done hq=>obtain⟨x,hx,hk⟩:=hf _ hq;exact⟨_,x,.refl _,hx,by omega,_,.done hq⟩
 |eps a b c _ ih=>obtain⟨j,x,he,hr⟩:=ih;exact⟨j,x,.step a b c he,hr⟩
 |eat a b c d e _=>exact⟨_,_,.refl _,a,by omega,_,.eat a b c d e⟩
def xG (ss:List bT) (fin:Nat->Prop) (T:List Nat) (w:By):Prop:=∃j∈T,∃n,Acc ss fin n j w
theorem wh (hf:lP ss fin) (hg:Good ss) (ht:∀j∈todo,j<ss.length) (w:By):xG ss fin (closed ss todo) w↔xG ss fin todo w:=by
 constructor
 · rintro⟨j,hj,n,h⟩;obtain⟨x,hx,hk,t,ht',he⟩:=(qn hg ht j).1 hj;exact⟨t,ht',h.through he⟩
 · rintro⟨t,ht',n,h⟩;obtain⟨j,x,he,hx,hk,hm⟩:=h.stop hf;exact⟨j,(qn hg ht j).2 ⟨x,hx,hk,t,ht',he⟩,hm⟩
theorem ot (ss:List bT) (c:UInt8) (k:Nat):∀(l a:List Nat),k∈stepG ss c l a↔k∈a\/∃j∈l,∃x,ss[j]? =some x/\jM x c=true/\k∈x.to
 | [],a=>by simp[stepG]
 |j::r,a=>by
  rw[stepG,ot ss c k r];cases hx:ss[j]? with
  |none=>simp[hx]
  |some x =>
   simp only;cases ho:jM x c with
   |true=>simp[hx,ho,or_assoc]
   |false=>simp[hx,ho]
def Flat (ss:List bT) (T:List Nat):Prop:=∀j∈T,∃x,ss[j]? =some x/\x.kind≠0
theorem nV (hg:Good ss) (ht:∀j∈todo,j<ss.length):Flat ss (closed ss todo):=fun j hj=>by
 obtain⟨x,hx,hk,_⟩:=(qn hg ht j).1 hj;exact⟨x,hx,hk⟩
theorem AQ (hg:Good ss) (c:UInt8) (T:List Nat):∀j∈stepG ss c T [],j<ss.length:=fun j hj=>by
 rcases (ot ss c j T []).1 hj with h|⟨i,_,x,hx,_,hm⟩
 · cases h
 · exact hg x (List.mem_of_getElem? hx) j hm
theorem uH (hg:Good ss) (c:UInt8) (T:List Nat):Flat ss (cB ss c T):=by
 unfold cB;split
 · intro j hj;cases hj
 · exact nV hg (AQ hg c T)
theorem EF (hf:lP ss fin) (hg:Good ss){T:List Nat}(hT:Flat ss T) (c:UInt8) (w:By):xG ss fin (cB ss c T) w↔xG ss fin T (c::w):=by
 unfold cB;split
 · rename_i h0;constructor
   · rintro⟨j,hj,_⟩;cases hj
   · rintro⟨j,hj,_⟩;obtain⟨x,hx,_⟩:=hT j hj;have:=(List.getElem?_eq_some_iff.1 hx).1;omega
 · rw[wh hf hg (AQ hg c T)];constructor
   · rintro⟨k,hk,n,h⟩
     rcases (ot ss c k T []).1 hk with h1|⟨j,hj,x,hx,ho,hm⟩
     · cases h1
     · simp only[jM,Bool.and_eq_true,decide_eq_true_eq] at ho;exact⟨j,hj,n+1,.eat hx ho.1 ho.2 hm h⟩
   · rintro⟨j,hj,n,h⟩;obtain⟨x,hx,hk⟩:=hT j hj;cases h with
     |eps hy hk0 _ _=>rw[hx] at hy;cases hy;exact absurd hk0 hk
     |eat hy hk1 hc hm h=>exact⟨_,(ot ss c _ T []).2 (.inr ⟨j,hj,_,hy,by simp[jM,hk1,hc],hm⟩),_,h⟩
def mZ (ss:List bT) (r:Nat) (q:Nat):Prop:=∃x,ss[q]? =some x/\x.kind=2/\x.rule=r
theorem um (ss:List bT) (r:Nat):lP ss (mZ ss r):=fun _ ⟨x,hx,hk,_⟩=>⟨x,hx,hk⟩
theorem HU {r:Nat}{T:List Nat}(hT:Flat ss T):xG ss (mZ ss r) T []↔∃j∈T,mZ ss r j:=by
 constructor
 · rintro⟨j,hj,n,h⟩;obtain⟨x,hx,hk⟩:=hT j hj;cases h with
   |done hq=>exact⟨j,hj,hq⟩
   |eps hy hk0 _ _=>rw[hx] at hy;cases hy;exact absurd hk0 hk
 · rintro⟨j,hj,hq⟩;exact⟨j,hj,0,.done hq⟩
def om (p:Nat->Prop) (r:Int):Prop:=(r= -1/\∀i,¬p i)\/∃n:Nat,r=n/\p n/\∀i,p i->n<=i
theorem wJ (ss:List bT):∀(l:List Nat) (b:Int) (p:Nat->Prop),om p b->om (fun r=>p r\/∃j∈l,mZ ss r j) (rG ss l b)
 | [],b,p,h=>by
  rw[rG]
  rcases h with ⟨rfl,h1⟩|⟨n,rfl,h1,h2⟩
  · exact .inl ⟨rfl,fun i h=>by rcases h with h|⟨_,h,_⟩;exact h1 i h;cases h⟩
  · exact .inr ⟨n,rfl,.inl h1,fun i h=>by rcases h with h|⟨_,h,_⟩;exact h2 i h;cases h⟩
 |j::l,b,p,h=>by
  rw[rG]
  have key:∀b',om (fun r=>p r\/mZ ss r j) b'->om (fun r=>p r\/∃k∈j::l,mZ ss r k) (rG ss l b'):=fun b' hb'=>by
   have:=wJ ss l b' _ hb'
   have e:(fun r=>(p r\/mZ ss r j)\/∃k∈l,mZ ss r k)=(fun r=>p r\/∃k∈j::l,mZ ss r k):=by
    funext r;simp[or_assoc]
   rwa [e] at this
  have no:(∀r,¬mZ ss r j)->om (fun r=>p r\/mZ ss r j) b:=fun hno=>by
   have e:(fun r=>p r\/mZ ss r j)=p:=by funext r;simp[hno r]
   rw[e];exact h
  cases hx:ss[j]? with
  |none=>exact key b (no fun r ⟨x,hx',_⟩=>by rw[hx] at hx';cases hx')
  |some x =>
   simp only
   by_cases hk:x.kind=2
   · have hfin:∀r,mZ ss r j↔x.rule=r:=fun r=>⟨fun⟨y,hy,_,hr⟩=>by rw[hx] at hy;cases hy;exact hr,fun hr=>⟨x,hx,hk,hr⟩⟩
     by_cases hb:rF x b=true
     · rw[if_pos hb];refine key _ (.inr ⟨x.rule,rfl,.inr ((hfin _).2 rfl),fun i hi=>?_⟩);simp only[rF,decide_eq_true_eq] at hb
       rcases hi with hi|hi
       · rcases h with ⟨rfl,h1⟩|⟨n,rfl,h1,h2⟩
         · exact absurd hi (h1 i)
         · have:=h2 i hi;omega
       · rw[(hfin i).1 hi];exact Nat.le_refl _
     · rw[if_neg hb];refine key _ ?_;simp only[rF,decide_eq_true_eq] at hb
       rcases h with ⟨rfl,h1⟩|⟨n,rfl,h1,h2⟩
       · exact absurd ⟨hk,.inl (by decide)⟩ hb
       · refine .inr ⟨n,rfl,.inl h1,fun i hi=>?_⟩
         rcases hi with hi|hi
         · exact h2 i hi
         · have:=(hfin i).1 hi;omega
   · rw[if_neg (by simp[rF,hk])];exact key b (no fun r ⟨y,hy,hk2,_⟩=>by rw[hx] at hy;cases hy;exact hk hk2)
def kH (ss:List bT) (st:Nat) (w:By):List Nat:=w.foldl (fun T c=>cB ss c T) (cG ss st)
theorem EM (hg:Good ss) (hst:st<ss.length) (w:By):Flat ss (kH ss st w):=by
 have h0:Flat ss (cG ss st):=by
  unfold cG;split
  · intro j hj;cases hj
  · exact nV hg (fun j hj=>by simp at hj;omega)
 unfold kH;generalize cG ss st=T at h0
 induction w generalizing T with
 |nil=>exact h0
 |cons c w ih=>exact ih _ (uH hg c T)
theorem Gj (hf:lP ss fin) (hg:Good ss) (hst:st<ss.length) (w v:By):xG ss fin (kH ss st w) v↔∃n,Acc ss fin n st (w++v):=by
 have h0:Flat ss (cG ss st)/\∀v,xG ss fin (cG ss st) v↔∃n,Acc ss fin n st v:=by
  unfold cG;rw[if_neg (by omega)];have ht:∀j∈[st],j<ss.length:=fun j hj=>by simp at hj;omega
  refine⟨nV hg ht,fun v=>?_⟩;rw[wh hf hg ht];simp[xG]
 unfold kH
 have key:∀(w:By) (T:List Nat),Flat ss T->(xG ss fin (w.foldl (fun T c=>cB ss c T) T) v↔xG ss fin T (w++v)):=by
  intro w
  induction w with
  |nil=>intro T _;rfl
  |cons c w ih =>
   intro T hT;rw[List.foldl_cons,ih _ (uH hg c T),EF hf hg hT];rfl
 rw[key w _ h0.1,h0.2]
theorem xE (hg:Good ss) (hst:st<ss.length) (w:By):om (fun r=>∃n,Acc ss (mZ ss r) n st w) (bg ss (kH ss st w)):=by
 unfold bg;rw[if_neg (by omega)];have h:=wJ ss (kH ss st w) (-1) (fun _=>False) (.inl ⟨rfl,fun _ h=>h⟩)
 have e:(fun r=>False\/∃j∈kH ss st w,mZ ss r j)=(fun r=>∃n,Acc ss (mZ ss r) n st w):=by
  funext r
  have:=Gj (um ss r) hg hst w [];rw[HU (EM hg hst w),List.append_nil] at this;simpa using this
 rw[e] at h;exact h
def fQ (ss:List bT):Nat:=(ss.map fun x=>x.to.length+1).sum
theorem gS (a b:List bT):fQ (a++b)=fQ a+fQ b:=by simp[fQ]
theorem AK:∀(ss:List bT) (i:Nat) (y x:bT),ss[i]? =some y->fQ (ss.set i x)+y.to.length=fQ ss+x.to.length
 | [],i,y,x,h=>by simp at h
 |z::r,0,y,x,h=>by simp at h;subst h;simp[fQ];omega
 |z::r,i+1,y,x,h=>by have:=AK r i y x (by simpa using h);simp[fQ] at *;omega
theorem Gr:∀(ss:List bT) (seen:List Bool),sX ss seen<=fQ ss
 | [],_=>by simp[sX]
 |x::r,[]=>by simp[sX]
 |x::r,b::s=>by
  have:=Gr r s;simp only[sX,fQ,List.map_cons,List.sum_cons] at *;split<;>omega
end
mutual
theorem uk:∀(x:Nd) (ss:List bT) (to:Nat),fQ (lay x ss to).1+1<=fQ ss+4*oI x
 |.mk k s kids,ss,to=>by
  rw[lay];simp only[oI];split
  · rw[gS];simp[fQ];omega
  · split
    · have:=vz kids ss to;omega
    · split
      · have:=vC kids ss to;have hl:=nM kids ss to;simp only[gS];simp[fQ] at *;omega
      · split
        · have:=vw kids ss to;simp only[gS];simp[fQ] at *;omega
        · split
          · have:=vw kids (ss++[⟨0,0,[],0⟩]) ss.length;have h2:=AK (cJ kids (ss++[⟨0,0,[],0⟩]) ss.length).1 ss.length ⟨0,0,[],0⟩ ⟨0,0,[(cJ kids (ss++[⟨0,0,[],0⟩]) ss.length).2,to],0⟩ (by rw[p8 kids _ _ _ (by simp)];simp);rw[gS] at this;simp[fQ] at *;omega
          · simp;omega
theorem vz:∀(l:List Nd) (ss:List bT) (to:Nat),fQ (bN l ss to).1<=fQ ss+4*gX l
 | [],ss,to=>by simp[bN]
 |x::r,ss,to=>by
  rw[bN];have h1:=vz r ss to;have h2:=uk x (bN r ss to).1 (bN r ss to).2;simp only[gX];omega
theorem vC:∀(l:List Nd) (ss:List bT) (to:Nat),fQ (bC l ss to).1+l.length<=fQ ss+4*gX l
 | [],ss,to=>by simp[bC]
 |x::r,ss,to=>by
  rw[bC];have h1:=uk x ss to;have h2:=vC r (lay x ss to).1 to;simp only[gX,List.length_cons];omega
theorem vw:∀(l:List Nd) (ss:List bT) (to:Nat),fQ (cJ l ss to).1<=fQ ss+4*gX l
 | [],ss,to=>by simp[cJ]
 |x::r,ss,to=>by
  rw[cJ];have h1:=uk x ss to;simp only[gX];omega
end
section
variable {F ss:List bT}{fin:Nat->Prop}{n to i st:Nat}{x:bT}{w:By}{todo:List Nat}
theorem Good.append {a b:List bT}(ha:Good a) (hb:∀x∈b,∀j∈x.to,j<(a++b).length):Good (a++b):=fun x hx j hj=>by
 rcases List.mem_append.1 hx with h|h
 · have:=ha x h j hj;simp;omega
 · exact hb x h j hj
theorem Good.set {a:List bT}(ha:Good a){i:Nat}{y:bT}(hy:∀j∈y.to,j<a.length):Good (a.set i y):=fun x hx j hj=>by
 rw[List.length_set]
 rcases List.mem_or_eq_of_mem_set hx with h|rfl
 · exact ha x h j hj
 · exact hy j hj
end
mutual
theorem qX:∀(x:Nd) (ss:List bT) (to:Nat),Good ss->to<ss.length->Good (lay x ss to).1/\(lay x ss to).2<(lay x ss to).1.length
 |.mk k s kids,ss,to,hg,ht=>by
  rw[lay];split
  · exact⟨hg.append (by intro x hx j hj;simp at hx;subst hx;simp at hj;subst hj;simp;omega),by simp⟩
  · split
    · exact tf kids ss to hg ht
    · split
      · have h:=tn kids ss to hg ht;exact⟨h.1.append (by intro x hx j hj;simp at hx;subst hx;have:=h.2 j hj;simp;omega),by simp⟩
      · split
        · have h:=s8 kids ss to hg ht;have hl:=gM kids ss to;exact⟨h.1.append (by intro x hx j hj;simp at hx;subst hx;simp at hj;simp;rcases hj with rfl|rfl<;>omega),by simp⟩
        · split
          · have h:=s8 kids (ss++[⟨0,0,[],0⟩]) ss.length (hg.append (by intro x hx j hj;simp at hx;subst hx;cases hj)) (by simp);have hl:=gM kids (ss++[⟨0,0,[],0⟩]) ss.length;simp only[List.length_append,List.length_singleton] at hl;refine⟨h.1.set (by intro j hj;simp at hj;rcases hj with rfl|rfl;exact h.2;omega),?_⟩;simp only[List.length_set];split
            · exact h.2
            · omega
          · exact⟨hg,ht⟩
theorem tf:∀(l:List Nd) (ss:List bT) (to:Nat),Good ss->to<ss.length->Good (bN l ss to).1/\(bN l ss to).2<(bN l ss to).1.length
 | [],ss,to,hg,ht=>by rw[bN];exact⟨hg,ht⟩
 |x::r,ss,to,hg,ht=>by
  rw[bN];have h1:=tf r ss to hg ht;exact qX x _ _ h1.1 h1.2
theorem tn:∀(l:List Nd) (ss:List bT) (to:Nat),Good ss->to<ss.length->Good (bC l ss to).1/\∀j∈(bC l ss to).2,j<(bC l ss to).1.length
 | [],ss,to,hg,ht=>by rw[bC];exact⟨hg,fun j hj=>by cases hj⟩
 |x::r,ss,to,hg,ht=>by
  rw[bC];have h1:=qX x ss to hg ht;have hl:=gw x ss to;have h2:=tn r (lay x ss to).1 to h1.1 (by omega);have hl2:=fT r (lay x ss to).1 to;refine⟨h2.1,fun j hj=>?_⟩
  rcases List.mem_cons.1 hj with rfl|hj
  · simp only;omega
  · exact h2.2 j hj
theorem s8:∀(l:List Nd) (ss:List bT) (to:Nat),Good ss->to<ss.length->Good (cJ l ss to).1/\(cJ l ss to).2<(cJ l ss to).1.length
 | [],ss,to,hg,ht=>by rw[cJ];exact⟨hg,ht⟩
 |x::r,ss,to,hg,ht=>by rw[cJ];exact qX x ss to hg ht
end
section
variable {F ss:List bT}{fin:Nat->Prop}{n to i st:Nat}{x:bT}{w:By}{todo:List Nat}
structure MD (i:Nat) (rules:List By) (ss:List bT) (t:List Nat) (ss':List bT) (t':List Nat):Prop where
 pre:∀j,j<ss.length->ss'[j]? =ss[j]?
 len:ss.length<=ss'.length/\ss'.length<=ss.length+402*rules.length
 tot:fQ ss'<=fQ ss+1605*rules.length
 good:Good ss->(∀j∈t,j<ss.length)->Good ss'/\∀j∈t',j<ss'.length
 starts:∃t2,t'=t++t2/\t2.length=rules.length/\∀k s,rules[k]? =some s->(bZ s).2=0/\∃a b,t2[k]? =some b/\ss.length<=a/\ss'[a]? =some ⟨2,0,[],i+k⟩/\∀F fin,FD F ss' ss.length->lP F fin->Splits F fin b a (Dv (bZ s).1)
theorem vh:∀(rules:List By) (i:Nat) (ss:List bT) (t:List Nat) (ss':List bT) (t':List Nat),lz i rules ss t= .inr (ss',t')->MD i rules ss t ss' t'
 | [],i,ss,t,ss',t',h=>by
  rw[lz] at h;cases h;exact⟨fun _ _=>rfl,by simp,by simp,fun a b=>⟨a,b⟩,[],by simp,rfl,fun k s h=>by simp at h⟩
 |s::r,i,ss,t,ss',t',h=>by
  rw[lz] at h;split at h
  · cases h
  · rename_i he;have he:(bZ s).2=0:=by simpa using he
    have hsm:=qP he;have ih:=vh r _ _ _ _ _ h;have hpre:=mu (bZ s).1 (ss++[⟨2,0,[],i⟩]) ss.length;have hlen:=gw (bZ s).1 (ss++[⟨2,0,[],i⟩]) ss.length;have htot:=uk (bZ s).1 (ss++[⟨2,0,[],i⟩]) ss.length;simp only[List.length_append,List.length_singleton,gS] at hpre hlen htot;have hL:fQ [(⟨2,0,[],i⟩:bT)]=1:=by simp[fQ]
    generalize hly:lay (bZ s).1 (ss++[⟨2,0,[],i⟩]) ss.length=ly at *;obtain⟨t2,tS,htl,hst⟩:=ih.starts;refine⟨fun j hj=>?_,⟨?_,?_⟩,?_,fun hg ht=>?_,ly.2::t2,by simp[tS],by simp[htl],fun k s' hk=>?_⟩
    · rw[ih.pre j (by omega),hpre j (by omega),List.getElem?_append_left hj]
    · have:=ih.len.1;omega
    · have:=ih.len.2;simp only[List.length_cons];omega
    · have:=ih.tot;simp only[List.length_cons];omega
    · have hgl:=qX (bZ s).1 (ss++[⟨2,0,[],i⟩]) ss.length (hg.append (by intro x hx j hj;simp at hx;subst hx;cases hj)) (by simp);rw[hly] at hgl
      exact ih.good hgl.1 (fun j hj=>by
       rcases List.mem_append.1 hj with h1|h1
       · have:=ht j h1;omega
       · have:j=ly.2:=by simpa using h1
         rw[this];exact hgl.2)
    · cases k with
      |zero =>
       simp at hk;subst hk;refine⟨he,ss.length,ly.2,rfl,Nat.le_refl _,?_,fun F fin hS hF=>?_⟩
       · rw[ih.pre _ (by omega),hpre _ (by omega)];simp
       · have:=mq hF (bZ s).1 (ss++[⟨2,0,[],i⟩]) ss.length (fun j h1 h2=>by
          rw[hly] at h2 ⊢;simp only[List.length_append,List.length_singleton] at h1;rw[hS j (by omega) (by have:=ih.len.1;omega)];exact ih.pre j h2)
         rwa [hly] at this
      |succ k =>
       obtain⟨h0,a,b,hb,hla,ha,hsp⟩:=hst k s' (by simpa using hk);exact⟨h0,a,b,by simpa using hb,by omega,by rw[ha];simp;omega,fun F fin hS hF=>hsp F fin (fun j h1 h2=>hS j (by omega) h2) hF⟩
structure Made (rules:List By) (ss:List bT) (st:Nat):Prop where
 good:Good ss
 stl:st<ss.length
 len:ss.length<=30000
 tot:fQ ss<=110000
 num:rules.length<=64
 lng:∀r w,(∃n,Acc ss (mZ ss r) n st w)↔∃s,rules[r]? =some s/\Dv (bZ s).1 w
theorem gK {rules:List By}(h:fH rules= .inr (ss,st)):Made rules ss st:=by
 unfold fH at h;split at h
 · cases h
 · rename_i hn;split at h
   · cases h
   · rename_i ss0 t hm;split at h
     · cases h
     · cases h;have k:=vh _ _ _ _ _ _ hm;obtain⟨t2,tS,htl,hst⟩:=k.starts;have ht:t=t2:=by simpa using tS
       subst ht;have hl:=k.len.2;have htot:=k.tot;have hgd:=k.good (by intro x hx;cases hx) (by intro j hj;cases hj);simp only[List.length_nil] at hl;have h0:fQ ([]:List bT)=0:=rfl;have hF:(ss0++[⟨0,0,t,0⟩])[ss0.length]? =some ⟨0,0,t,0⟩:=by simp
       have hS:FD (ss0++[⟨0,0,t,0⟩]) ss0 ([]:List bT).length:=fun i _ h2=>List.getElem?_append_left h2
       refine⟨hgd.1.append (by intro x hx j hj;simp at hx;subst hx;have:=hgd.2 j hj;simp;omega),by simp,by simp;omega,?_,by omega,fun r w=>?_⟩
       · have hq:fQ [(⟨0,0,t,0⟩:bT)]=t.length+1:=by simp[fQ]
         rw[gS,hq];omega
       · constructor
         · rintro⟨n,hw⟩;obtain⟨m,q',_,hq,hw'⟩:=hw.fork (um _ r) hF rfl;obtain⟨k',hk'⟩:=List.getElem?_of_mem hq;have hkl:k'<t.length:=(List.getElem?_eq_some_iff.1 hk').1;obtain⟨s,hs⟩:∃s,rules[k']? =some s:=⟨_,List.getElem?_eq_getElem (by omega)⟩
           obtain⟨_,a,b,hb,_,ha,hsp⟩:=hst k' s hs;rw[hk'] at hb;cases hb;obtain⟨u,v,m',rfl,hu,_,hv⟩:=(hsp _ _ hS (um _ r)).1 _ _ hw';have ha':(ss0++[(⟨0,0,t,0⟩:bT)])[a]? =some ⟨2,0,[],0+k'⟩:=by rw[hS a (Nat.zero_le _) (List.getElem?_eq_some_iff.1 ha).1,ha]
           cases hv with
           |done hfin =>
            obtain⟨x,hx,_,hr⟩:=hfin;rw[ha'] at hx;cases hx;simp only[Nat.zero_add] at hr;subst hr;exact⟨s,hs,by rw[List.append_nil];exact hu⟩
           |eps hx hk _ _=>rw[ha'] at hx;cases hx;cases hk
           |eat hx hk _ _ _=>rw[ha'] at hx;cases hx;cases hk
         · rintro⟨s,hs,hw⟩;obtain⟨_,a,b,hb,_,ha,hsp⟩:=hst r s hs;have ha':(ss0++[(⟨0,0,t,0⟩:bT)])[a]? =some ⟨2,0,[],0+r⟩:=by rw[hS a (Nat.zero_le _) (List.getElem?_eq_some_iff.1 ha).1,ha]
           obtain⟨n,hn⟩:=(hsp _ _ hS (um _ r)).2 w [] 0 hw (.done ⟨_,ha',rfl,by simp⟩);rw[List.append_nil] at hn;exact⟨n+1,.eps (q':=b) hF rfl (show b∈t from List.mem_of_getElem? hb) hn⟩
theorem yV {f:Nat->Nat}:∀{a b:List Nat},a.Sublist b->(a.map f).sum<=(b.map f).sum
 |_,_,.slnil=>by simp
 |_,_,.cons _ h=>by have:=yV (f:=f) h;simp;omega
 |_,_,.cons_cons _ h=>by have:=yV (f:=f) h;simp;omega
theorem DY:∀ss:List bT,(ss.map fun x=>x.to.length).sum<=fQ ss
 | []=>by simp[fQ]
 |x::r=>by have:=DY r;simp[fQ] at *;omega
theorem ES (ss:List bT):((List.range ss.length).map fun i=>match ss[i]? with|some x=>x.to.length|none=>0).sum<=fQ ss:=by
 have:((List.range ss.length).map fun i=>match ss[i]? with|some x=>x.to.length|none=>0)=ss.map fun x=>x.to.length:=by
  apply List.ext_getElem
  · simp
  · intro i h1 h2;simp at h2;simp[h2]
 rw[this];exact DY ss
theorem xQ (ss:List bT) (c:UInt8):∀(l a:List Nat),(stepG ss c l a).length<=a.length+(l.map fun i=>match ss[i]? with|some x=>x.to.length|none=>0).sum
 | [],a=>by simp[stepG]
 |j::r,a=>by
  rw[stepG];refine Nat.le_trans (xQ ss c r _) ?_;simp only[List.map_cons,List.sum_cons];cases ss[j]? with
  |none=>simp
  |some x=>simp only;split<;>simp<;>omega
theorem EG (c:UInt8){now:List Nat}(h:now.Sublist (List.range ss.length)):(stepG ss c now []).length<=fQ ss:=by
 have h1:=xQ ss c now [];have h2:=yV (f:=fun i=>match ss[i]? with|some x=>x.to.length|none=>0) h;have h3:=ES ss;simp only[List.length_nil] at h1;omega
def IsMatch (P:Nat->Nat->Prop) (n:Nat) (o:Int×Int):Prop :=
 (o=(0,-1)/\∀k r,k<=n->¬P k r)\/∃k r:Nat,o=((k:Int),(r:Int))/\k<=n/\P k r/\(∀k' r',k'<=n->P k' r'->k'<=k)/\∀r',P k r'->r<=r'
def nZ (ac:Nat->Int):Nat->Nat->Int×Int->Int×Int
 | 0,k,b=>if 0<=ac k then ((k:Int),ac k) else b
 |n+1,k,b=>nZ ac n (k+1) (if 0<=ac k then ((k:Int),ac k) else b)
def qv (P:Nat->Nat->Prop) (m:Nat) (o:Int×Int):Prop :=
 (o=(0,-1)/\∀k r,k<m->¬P k r)\/∃k r:Nat,o=((k:Int),(r:Int))/\k<m/\P k r/\(∀k' r',k'<m->P k' r'->k'<=k)/\∀r',P k r'->r<=r'
theorem qv.next {P:Nat->Nat->Prop}{m:Nat}{o:Int×Int}{a:Int}(h:qv P m o) (ha:om (P m) a):qv P (m+1) (if 0<=a then ((m:Int),a) else o):=by
 rcases ha with ⟨rfl,h1⟩|⟨r,rfl,h1,h2⟩
 · rw[if_neg (by decide)]
   rcases h with ⟨rfl,h3⟩|⟨k,r,rfl,hk,hp,h3,h4⟩
   · exact .inl ⟨rfl,fun k r hk hp=>by
      by_cases e:k=m
      · subst e;exact h1 _ hp
      · exact h3 k r (by omega) hp⟩
   · exact .inr ⟨k,r,rfl,by omega,hp,fun k' r' hk' hp'=>by
      by_cases e:k'=m
      · subst e;exact absurd hp' (h1 _)
      · exact h3 k' r' (by omega) hp',h4⟩
 · rw[if_pos (by omega)];exact .inr ⟨m,r,rfl,by omega,h1,fun k' r' hk' _=>by omega,h2⟩
theorem wo {P:Nat->Nat->Prop}{ac:Nat->Int}:∀(n k:Nat) (b:Int×Int),qv P k b->(∀j,k<=j->j<=k+n->om (P j) (ac j))->qv P (k+n+1) (nZ ac n k b)
 | 0,k,b,h,ha=>by rw[nZ];exact h.next (ha k (Nat.le_refl _) (by omega))
 |n+1,k,b,h,ha=>by
  rw[nZ];have:=wo n (k+1) _ (h.next (ha k (Nat.le_refl _) (by omega))) (fun j h1 h2=>ha j (by omega) (by omega))
  rwa [show k+(n+1)+1=k+1+n+1 by omega]
theorem qv.match {P:Nat->Nat->Prop}{o:Int×Int}(h:qv P (n+1) o):IsMatch P n o:=by
 rcases h with ⟨rfl,h1⟩|⟨k,r,rfl,hk,hp,h1,h2⟩
 · exact .inl ⟨rfl,fun k r hk=>h1 k r (by omega)⟩
 · exact .inr ⟨k,r,rfl,by omega,hp,fun k' r' hk'=>h1 k' r' (by omega),h2⟩
theorem xP (ss:List bT) (c:UInt8):cB ss c []=[]:=by simp[cB,stepG,closed]
theorem sV (ss:List bT) (st:Nat) (a b:By):kH ss st (a++b)=b.foldl (fun T c=>cB ss c T) (kH ss st a):=by simp[kH,List.foldl_append]
theorem DJ (ss:List bT):∀w:By,w.foldl (fun T c=>cB ss c T) ([]:List Nat)=[]
 | []=>rfl
 |c::w=>by rw[List.foldl_cons,xP,DJ ss w]
theorem wm {ac:Nat->Int}:∀(n k:Nat) (b:Int×Int),(∀j,k<=j->j<=k+n->ac j<0)->nZ ac n k b=b
 | 0,k,b,h=>by rw[nZ,if_neg (by have:=h k (Nat.le_refl _) (by omega);omega)]
 |n+1,k,b,h=>by
  rw[nZ,if_neg (by have:=h k (Nat.le_refl _) (by omega);omega)];exact wm n (k+1) b (fun j h1 h2=>h j (by omega) (by omega))
theorem Bu:∀(l a:By) (b:Int×Int),gJ ss l (kH ss st a) a.length b=nZ (fun k=>bg ss (kH ss st ((a++l).take k))) l.length a.length b:=by
 have none_:∀(l a:By) (b:Int×Int),kH ss st a=[]->gJ ss l (kH ss st a) a.length b=nZ (fun k=>bg ss (kH ss st ((a++l).take k))) l.length a.length b:=by
  intro l a b h;rw[pX (by rw[h];rfl),wm];intro j h1 h2;have:(a++l).take j=a++l.take (j-a.length):=by rw[List.take_append,List.take_of_length_le h1]
  rw[this,sV,h,DJ];unfold bg;split
  · decide
  · simp[rG]
 intro l
 induction l with
 |nil =>
  intro a b
  by_cases h:kH ss st a=[]
  · exact none_ [] a b h
  · rw[gJ,if_neg (by simpa using h),List.length_nil,nZ];simp
 |cons c r ih =>
  intro a b
  by_cases h:kH ss st a=[]
  · exact none_ (c::r) a b h
  · rw[gJ,if_neg (by simpa using h)];simp only[List.length_cons,nZ];have h1:=ih (a++[c]) (if 0<=bg ss (kH ss st a) then ((a.length:Int),bg ss (kH ss st a)) else b);rw[sV] at h1;simp only[List.foldl_cons,List.foldl_nil,List.length_append,List.length_singleton,List.append_assoc,List.singleton_append] at h1;rw[h1];have e:(a++c::r).take a.length=a:=by simp
    rw[e]
theorem nK {rules:List By}(k:Made rules ss st) (l:By):IsMatch (fun n r=>∃s,rules[r]? =some s/\Dv (bZ s).1 (l.take n)) l.length (dx ss st l):=by
 have hst:=k.stl;unfold dx;rw[if_neg (by omega)];have h:=Bu (ss:=ss) (st:=st) l [] (0,-1);have e:kH ss st []=cG ss st:=rfl;rw[e] at h;simp only[List.length_nil,List.nil_append] at h;rw[h]
 have:=wo (P:=fun n r=>∃s,rules[r]? =some s/\Dv (bZ s).1 (l.take n)) (ac:=fun k=>bg ss (kH ss st (l.take k))) l.length 0 (0,-1) (.inl ⟨rfl,fun k r hk=>by omega⟩) (fun j _ _=>by
  have h1:=xE k.good k.stl (l.take j)
  have e:(fun r=>∃n,Acc ss (mZ ss r) n st (l.take j))=(fun r=>∃s,rules[r]? =some s/\Dv (bZ s).1 (l.take j)):=by
   funext r;exact propext (k.lng r _)
  rw[e] at h1;exact h1)
 rw[Nat.zero_add] at this;exact this.match
end
end Go.Proofs.YtmehdcdbeafljaaGreatDoor
namespace Go.Proofs.YtmehdcdbeafljaaGreatDoor
open Go Go.Lw
set_option maxRecDepth 20000
def KU (h:az) (p:Value) (rules:List By):Prop:=∃(O:Nat->Prop) (nb:Nat) (v:Value) (ss:List bT) (st:Nat),p= .pointer (some ⟨nb,0,none⟩)/\cF h O nb v ss st/\fH rules= .inr (ss,st)
def JP (rules:List By):Int:=match fH rules with|.inl e=>e|.inr _=>0
def zC (rules:List By) (s:By) (a:Int):Int×Int:=match fH rules with|.inl _=>(0,-1)|.inr (ss,st)=>CQ ss st s a
theorem E3 {h:az}{lim:Nat}(hg:Sg h lim) (hlim:lim<=h.size){rv:Value}{rules:List By}(hr:bX oB h (fun _=>False) rv rules) (hrl:∀s∈rules,s.length<=1000000) :
 ah Tryz.prog 27 #[rv] h (dh fun r h'=>(∃p,r= .tuple #[p,.int .i64 (JP rules)]/\((∃e,fH rules= .inl e/\p= .pointer none)\/KU h' p rules))/\aD h h') :=
 (CR hg hlim hr hrl).ret fun r h' k=>by
  obtain⟨k1,k2⟩:=k;refine⟨?_,k2⟩;unfold yH at k1;unfold JP;cases hm:fH rules with
  |inl e=>rw[hm] at k1;exact⟨_,k1,.inl ⟨e,rfl,rfl⟩⟩
  |inr q =>
   obtain⟨ss,st⟩:=q;rw[hm] at k1;obtain⟨nb,v,h1,_,h3⟩:=k1;exact⟨_,h1,.inr ⟨_,nb,v,ss,st,rfl,h3,hm⟩⟩
theorem Bx {rules:List By}{ss:List bT}{st:Nat}(k:Made rules ss st):ss.length<=1000000/\1+sX ss (List.replicate ss.length false)<=1000000/\∀c now,List.Sublist now (List.range ss.length)->(stepG ss c now []).length+sX ss (List.replicate ss.length false)<=1000000:=by
 have h1:=k.len;have h2:=k.tot;have h3:=Gr ss (List.replicate ss.length false);refine⟨by omega,by omega,fun c now hs=>?_⟩;have:=EG c hs;omega
end Go.Proofs.YtmehdcdbeafljaaGreatDoor

/- What the proof of the statement leans on (part 21). -/
import Derived.Test.YtmehdcdbeafljaaGreatDoorQt

namespace Go.Proofs.YtmehdcdbeafljaaGreatDoor
section
variable {F ss:List bK}{fin:Nat->Prop}{n to i st:Nat}{x:bK}{w:By}{todo:List Nat}
inductive xF (A:By->Prop):By->Prop where
 |nil:xF A []
 |cons {u v:By}:A u->xF A v->xF A (u++v)
end
mutual
def G6:Nd->By->Prop
 |.mk k s kids=>fun w =>
  if k=1 then ∃c:UInt8,w=[c]/\s.testBit c.toNat=true
  else if k=2 then vH kids w
  else if k=3 then qX kids w
  else if k=6 then w=[]\/oN kids w
  else if k=4 then xF (oN kids) w
  else if k=5 then ∃u v,w=u++v/\oN kids u/\xF (oN kids) v
  else w=[]
def vH:List Nd->By->Prop
 | []=>fun w=>w=[]
 |x::r=>fun w=>∃u v,w=u++v/\G6 x u/\vH r v
def qX:List Nd->By->Prop
 | []=>fun _=>False
 |x::r=>fun w=>G6 x w\/qX r w
def oN:List Nd->By->Prop
 | []=>fun w=>w=[]
 |x::_=>fun w=>G6 x w
end
section
variable {F ss:List bK}{fin:Nat->Prop}{n to i st:Nat}{x:bK}{w:By}{todo:List Nat}
inductive Acc (F:List bK) (fin:Nat->Prop):Nat->Nat->By->Prop where
 |done {q:Nat}:fin q->Acc F fin 0 q []
 |eps {n q q':Nat}{x:bK}{w:By}:F[q]? =some x->x.kind=0->q'∈x.to->Acc F fin n q' w->Acc F fin (n+1) q w
 |eat {n q q':Nat}{x:bK}{c:UInt8}{w:By}:F[q]? =some x->x.kind=1->x.set.testBit c.toNat=true->q'∈x.to->Acc F fin n q' w->Acc F fin (n+1) q (c::w)
def kI (F:List bK) (fin:Nat->Prop):Prop:=∀q,fin q->∃x,F[q]? =some x/\x.kind=2
theorem Acc.fork (hf:kI F fin){q:Nat}(hx:F[q]? =some x) (hk:x.kind=0) (h:Acc F fin n q w):∃m q',m<n/\q'∈x.to/\Acc F fin m q' w:=by
 cases h with
 |done hq=>obtain⟨y,hy,hk2⟩:=hf _ hq;rw[hx] at hy;cases hy;omega
 |eps hy _ hq h=>rw[hx] at hy;cases hy;exact⟨_,_,Nat.lt_succ_self _,hq,h⟩
 |eat hy hk1 _ _ _=>rw[hx] at hy;cases hy;omega
theorem Acc.Mh (hf:kI F fin){q:Nat}(hx:F[q]? =some x) (hk:x.kind=1) (h:Acc F fin n q w):∃m q' c w',m<n/\w=c::w'/\x.set.testBit c.toNat=true/\q'∈x.to/\Acc F fin m q' w':=by
 cases h with
 |done hq=>obtain⟨y,hy,hk2⟩:=hf _ hq;rw[hx] at hy;cases hy;omega
 |eps hy hk1 _ _=>rw[hx] at hy;cases hy;omega
 |eat hy _ hc hq h=>rw[hx] at hy;cases hy;exact⟨_,_,_,_,Nat.lt_succ_self _,rfl,hc,hq,h⟩
def Splits (F:List bK) (fin:Nat->Prop) (b to:Nat) (A:By->Prop):Prop :=
 (∀n w,Acc F fin n b w->∃u v m,w=u++v/\A u/\m<=n/\Acc F fin m to v)/\(∀u v m,A u->Acc F fin m to v->∃n,Acc F fin n b (u++v))
def ED (F ss':List bK) (lo:Nat):Prop:=∀i,lo<=i->i<ss'.length->F[i]? =ss'[i]?
theorem oe:Splits F fin to to (fun w=>w=[]) :=
 ⟨fun n w h=>⟨[],w,n,rfl,rfl,Nat.le_refl _,h⟩,fun u v m hu h=>⟨m,by subst hu;exact h⟩⟩
theorem zT (hf:kI F fin){first again:Nat}{A:By->Prop}(hx:F[again]? =some x) (hk:x.kind=0) (ht:x.to=[first,to]) (h:Splits F fin first again A):Splits F fin again to (xF A):=by
 constructor
 · intro n
   induction n using Nat.strongRecOn with
   |_ n ih =>
    intro w hw;obtain⟨m,q',hm,hq,hw'⟩:=hw.fork hf hx hk;rw[ht] at hq
    rcases List.mem_cons.1 hq with rfl|hq
    · obtain⟨u1,v1,m1,rfl,hu1,hm1,hv1⟩:=h.1 _ _ hw';obtain⟨u2,v2,m2,rfl,hu2,hm2,hv2⟩:=ih m1 (by omega) _ hv1;exact⟨u1++u2,v2,m2,by simp,.cons hu1 hu2,by omega,hv2⟩
    · have:q'=to:=by simpa using hq
      subst this;exact⟨[],w,m,rfl,.nil,by omega,hw'⟩
 · intro u v m hu hv
   induction hu with
   |nil=>exact⟨m+1,.eps hx hk (by rw[ht];simp) hv⟩
   |cons hA _ ih =>
    obtain⟨n,hn⟩:=ih;obtain⟨n',hn'⟩:=h.2 _ _ _ hA hn;exact⟨n'+1,.eps (q':=first) hx hk (by rw[ht];simp) (by rw[List.append_assoc];exact hn')⟩
theorem tw {b c:Nat}{A B:By->Prop}(h1:Splits F fin b c A) (h2:Splits F fin c to B):Splits F fin b to (fun w=>∃u v,w=u++v/\A u/\B v):=by
 constructor
 · intro n w hw;obtain⟨u1,v1,m1,rfl,hu1,hm1,hv1⟩:=h1.1 _ _ hw;obtain⟨u2,v2,m2,rfl,hu2,hm2,hv2⟩:=h2.1 _ _ hv1;exact⟨u1++u2,v2,m2,by simp,⟨_,_,rfl,hu1,hu2⟩,by omega,hv2⟩
 · rintro u v m ⟨u1,u2,rfl,hA,hB⟩ hv;obtain⟨n,hn⟩:=h2.2 _ _ _ hB hv;obtain⟨n',hn'⟩:=h1.2 _ _ _ hA hn;exact⟨n',by rw[List.append_assoc];exact hn'⟩
end
mutual
theorem kY {F:List bK}{fin:Nat->Prop}(hf:kI F fin):∀(x:Nd) (ss:List bK) (to:Nat),ED F (lay x ss to).1 ss.length->Splits F fin (lay x ss to).2 to (G6 x)
 |.mk k s kids,ss,to,hs=>by
  rw[lay] at hs ⊢;unfold G6
  by_cases h1:k=1
  · simp only[if_pos h1] at hs ⊢;have hx:F[ss.length]? =some ⟨1,s,[to],0⟩:=by rw[hs _ (Nat.le_refl _) (by simp)];simp
    constructor
    · intro n w hw;obtain⟨m,q',c,w',hm,rfl,hc,hq,hw'⟩:=hw.Mh hf hx rfl;have:q'=to:=by simpa using hq
      subst this;exact⟨[c],w',m,rfl,⟨c,rfl,hc⟩,by omega,hw'⟩
    · rintro u v m ⟨c,rfl,hc⟩ hv;exact⟨m+1,.eat hx rfl hc (by simp) hv⟩
  · simp only[if_neg h1] at hs ⊢
    by_cases h2:k=2
    · simp only[if_pos h2] at hs ⊢;exact nP hf kids ss to hs
    · simp only[if_neg h2] at hs ⊢
      by_cases h3:k=3
      · simp only[if_pos h3] at hs ⊢;have hl:=fB kids ss to;have hx:F[(bA kids ss to).1.length]? =some ⟨0,0,(bA kids ss to).2,0⟩:=by rw[hs _ (by omega) (by simp)];simp
        have ih:=nQ hf kids ss to (fun i h1 h2=>by rw[hs i h1 (by simp;omega),List.getElem?_append_left h2]);constructor
        · intro n w hw;obtain⟨m,q',hm,hq,hw'⟩:=hw.fork hf hx rfl;obtain⟨u,v,m',hu⟩:=ih.1 _ _ _ hq hw';exact⟨u,v,m',hu.1,hu.2.1,by omega,hu.2.2.2⟩
        · intro u v m hu hv;obtain⟨n,q',hq,hn⟩:=ih.2 _ _ _ hu hv;exact⟨n+1,.eps hx rfl hq hn⟩
      · simp only[if_neg h3] at hs ⊢
        by_cases h6:k=6
        · simp only[if_pos h6] at hs ⊢;have hl:=gp kids ss to;have hx:F[(cC kids ss to).1.length]? =some ⟨0,0,[(cC kids ss to).2,to],0⟩:=by rw[hs _ (by omega) (by simp)];simp
          have ih:=nO hf kids ss to (fun i h1 h2=>by rw[hs i h1 (by simp;omega),List.getElem?_append_left h2]);constructor
          · intro n w hw;obtain⟨m,q',hm,hq,hw'⟩:=hw.fork hf hx rfl
            rcases List.mem_cons.1 hq with rfl|hq
            · obtain⟨u,v,m',h1,h2,h3,h4⟩:=ih.1 _ _ hw';exact⟨u,v,m',h1,.inr h2,by omega,h4⟩
            · have:q'=to:=by simpa using hq
              subst this;exact⟨[],w,m,rfl,.inl rfl,by omega,hw'⟩
          · rintro u v m (rfl|hu) hv
            · exact⟨m+1,.eps hx rfl (by simp) hv⟩
            · obtain⟨n,hn⟩:=ih.2 _ _ _ hu hv;exact⟨n+1,.eps hx rfl (by simp) hn⟩
        · simp only[if_neg h6] at hs ⊢
          by_cases h45:k=4\/k=5
          · simp only[if_pos h45] at hs ⊢;have hl:=gp kids (ss++[⟨0,0,[],0⟩]) ss.length;simp only[List.length_append,List.length_singleton] at hl
            have hx:F[ss.length]? =some ⟨0,0,[(cC kids (ss++[⟨0,0,[],0⟩]) ss.length).2,to],0⟩:=by
             rw[hs _ (Nat.le_refl _) (by simp;omega)];simp[List.getElem?_set];omega
            have ih:=nO hf kids (ss++[⟨0,0,[],0⟩]) ss.length (fun i h1 h2=>by
             simp only[List.length_append,List.length_singleton] at h1;rw[hs i (by omega) (by simp;omega),List.getElem?_set_ne (by omega)])
            have hst:=zT hf hx rfl rfl ih
            by_cases h4:k=4
            · have h5:¬k=5:=by omega
              simp only[if_pos h4,if_neg h5];exact hst
            · have h5:k=5:=by omega
              simp only[if_neg h4,if_pos h5];exact tw ih hst
          · simp only[if_neg h45] at hs ⊢;have h4:¬k=4:=fun e=>h45 (.inl e)
            have h5:¬k=5:=fun e=>h45 (.inr e)
            simp only[if_neg h4,if_neg h5];exact oe
theorem nP {F:List bK}{fin:Nat->Prop}(hf:kI F fin):∀(l:List Nd) (ss:List bK) (to:Nat),ED F (bJ l ss to).1 ss.length->Splits F fin (bJ l ss to).2 to (vH l)
 | [],ss,to,hs=>by
  rw[bJ];unfold vH;exact oe
 |x::r,ss,to,hs=>by
  rw[bJ] at hs ⊢;unfold vH;have hl:=ji r ss to;have hl2:=fT x (bJ r ss to).1 (bJ r ss to).2;have h2:=nP hf r ss to (fun i h1 h2=>by rw[hs i h1 (by omega),kZ x _ _ i h2]);have h1:=kY hf x (bJ r ss to).1 (bJ r ss to).2 (fun i h1 h2=>hs i (by omega) h2);exact tw h1 h2
theorem nQ {F:List bK}{fin:Nat->Prop}(hf:kI F fin):∀(l:List Nd) (ss:List bK) (to:Nat),ED F (bA l ss to).1 ss.length ->
 (∀n q w,q∈(bA l ss to).2->Acc F fin n q w->∃u v m,w=u++v/\qX l u/\m<=n/\Acc F fin m to v)/\(∀u v m,qX l u->Acc F fin m to v->∃n q,q∈(bA l ss to).2/\Acc F fin n q (u++v))
 | [],ss,to,hs=>by
  rw[bA];unfold qX;exact⟨fun n q w h=>absurd h List.not_mem_nil,fun u v m h=>False.elim h⟩
 |x::r,ss,to,hs=>by
  rw[bA] at hs ⊢;unfold qX;have hl:=fT x ss to;have hl2:=fB r (lay x ss to).1 to;have h1:=kY hf x ss to (fun i h1 h2=>by rw[hs i h1 (by simp only;omega)];exact ox r _ _ i h2);have h2:=nQ hf r (lay x ss to).1 to (fun i h1 h2=>hs i (by omega) h2);constructor
  · intro n q w hq hw
    rcases List.mem_cons.1 hq with rfl|hq
    · obtain⟨u,v,m,a,b,c,d⟩:=h1.1 _ _ hw;exact⟨u,v,m,a,.inl b,c,d⟩
    · obtain⟨u,v,m,a,b,c,d⟩:=h2.1 _ _ _ hq hw;exact⟨u,v,m,a,.inr b,c,d⟩
  · rintro u v m (hu|hu) hv
    · obtain⟨n,hn⟩:=h1.2 _ _ _ hu hv;exact⟨n,_,List.mem_cons_self,hn⟩
    · obtain⟨n,q,hq,hn⟩:=h2.2 _ _ _ hu hv;exact⟨n,q,List.mem_cons_of_mem _ hq,hn⟩
theorem nO {F:List bK}{fin:Nat->Prop}(hf:kI F fin):∀(l:List Nd) (ss:List bK) (to:Nat),ED F (cC l ss to).1 ss.length->Splits F fin (cC l ss to).2 to (oN l)
 | [],ss,to,hs=>by
  rw[cC];unfold oN;exact oe
 |x::r,ss,to,hs=>by
  rw[cC] at hs ⊢;unfold oN;exact kY hf x ss to hs
end
section
variable {F ss:List bK}{fin:Nat->Prop}{n to i st:Nat}{x:bK}{w:By}{todo:List Nat}
inductive G1 (ss:List bK):Nat->Nat->Prop where
 |refl (i:Nat):G1 ss i i
 |step {i j k:Nat}{x:bK}:ss[i]? =some x->x.kind=0->j∈x.to->G1 ss j k->G1 ss i k
theorem G1.snoc {j k:Nat}(h:G1 ss i j) (hx:ss[j]? =some x) (hk:x.kind=0) (ht:k∈x.to):G1 ss i k:=by
 induction h with
 |refl=>exact .step hx hk ht (.refl _)
 |step a b c _ ih=>exact .step a b c (ih hx)
structure G2 (ss:List bK) (T todo:List Nat) (seen:List Bool):Prop where
 len:seen.length=ss.length
 inn:∀j∈todo,j<ss.length
 sound:∀i,(seen[i]? =some true\/i∈todo)->∃t∈T,G1 ss t i
 cl:∀(i:Nat) (x:bK),seen[i]? =some true->ss[i]? =some x->x.kind=0->∀j∈x.to,seen[j]? =some true\/j∈todo
 all:∀t∈T,seen[t]? =some true\/t∈todo
theorem B9 {l:List Nat}(h:l.getLast? =some i):l=l.dropLast++[i]:=by
 obtain⟨h0,rfl⟩:=List.getLast?_eq_some_iff.1 h;simp
theorem qO {ss:List bK}{T:List Nat}(hg:Good ss):∀(n:Nat) (todo:List Nat) (seen:List Bool),todo.length+rz ss seen<=n->G2 ss T todo seen->G2 ss T [] (iI ss n todo seen)
 | 0,todo,seen,hn,k=>by
  have:todo=[]:=List.length_eq_zero_iff.1 (by omega);subst this;exact k
 |n+1,todo,seen,hn,k=>by
  unfold iI;split
  · rename_i h;have:todo=[]:=List.getLast?_eq_none_iff.1 h;subst this;exact k
  · rename_i i h;have hsp:=B9 h;have hlen:todo.length=todo.dropLast.length+1:=by rw[hsp];simp
    have hi:i∈todo:=by rw[hsp];simp
    have hmem:∀j,j∈todo->j∈todo.dropLast\/j=i:=fun j hj=>by rw[hsp] at hj;simpa using hj
    have hsub:∀j,j∈todo.dropLast->j∈todo:=fun j hj=>by rw[hsp];simp[hj]
    split
    · rename_i hs;refine qO hg n _ _ (by omega) ⟨k.len,fun j hj=>k.inn j (hsub j hj),fun j hj=>k.sound j (hj.imp id (hsub j)),fun j x a b c d e=>?_,fun t ht=>?_⟩
      · rcases k.cl j x a b c d e with h1|h1
        · exact .inl h1
        · rcases hmem d h1 with h2|rfl
          · exact .inr h2
          · exact .inl hs
      · rcases k.all t ht with h1|h1
        · exact .inl h1
        · rcases hmem t h1 with h2|rfl
          · exact .inr h2
          · exact .inl hs
    · rename_i hs;have hil:=k.inn i hi;obtain⟨x,hx⟩:∃x,ss[i]? =some x:=⟨_,List.getElem?_eq_getElem hil⟩
      have hf:seen[i]? =some false:=by
       obtain⟨b,hb⟩:∃b,seen[i]? =some b:=⟨_,List.getElem?_eq_getElem (by rw[k.len];exact hil)⟩
       cases b
       · exact hb
       · exact absurd hb hs
      have hp:=yh ss seen i x hx hf;have hself:(seen.set i true)[i]? =some true:=by rw[List.getElem?_set_self (by rw[k.len];exact hil)]
      have hset:∀j,seen[j]? =some true->(seen.set i true)[j]? =some true:=fun j hj=>by
       by_cases e:i=j
       · subst e;exact hself
       · rw[List.getElem?_set_ne e];exact hj
      have hget:∀j,(seen.set i true)[j]? =some true->j=i\/seen[j]? =some true:=fun j hj=>by
       by_cases e:i=j
       · exact .inl e.symm
       · rw[List.getElem?_set_ne e] at hj;exact .inr hj
      rw[hx];simp only;obtain⟨t0,yL,he0⟩:=k.sound i (.inr hi);have hxm:x∈ss:=List.mem_of_getElem? hx;generalize hnew:(if x.kind=0 then todo.dropLast++x.to else todo.dropLast)=new
      have hin:∀j,j∈new->j∈todo.dropLast\/(x.kind=0/\j∈x.to):=fun j hj=>by
       subst hnew;split at hj
       · rename_i hk
         rcases List.mem_append.1 hj with h1|h1
         · exact .inl h1
         · exact .inr ⟨hk,h1⟩
       · exact .inl hj
      have hold:∀j,j∈todo.dropLast->j∈new:=fun j hj=>by
       subst hnew;split
       · exact List.mem_append_left _ hj
       · exact hj
      have hbig:new.length<=todo.dropLast.length+x.to.length:=by
       subst hnew;split<;>simp
      refine qO hg n _ _ (by omega) ⟨by rw[List.length_set];exact k.len,fun j hj=>?_,fun j hj=>?_,fun j y a b c d e=>?_,fun t ht=>?_⟩
      · rcases hin j hj with h1|⟨_,h1⟩
        · exact k.inn j (hsub j h1)
        · exact hg x hxm j h1
      · rcases hj with h1|h1
        · rcases hget j h1 with rfl|h2
          · exact⟨t0,yL,he0⟩
          · exact k.sound j (.inl h2)
        · rcases hin j h1 with h2|⟨hk,h2⟩
          · exact k.sound j (.inr (hsub j h2))
          · exact⟨t0,yL,he0.snoc hx hk h2⟩
      · rcases hget j a with rfl|a
        · rw[hx] at b;cases b;refine .inr ?_;rw[if_pos c] at hnew;subst hnew;exact List.mem_append_right _ e
        · rcases k.cl j y a b c d e with h1|h1
          · exact .inl (hset d h1)
          · rcases hmem d h1 with h2|rfl
            · exact .inr (hold d h2)
            · exact .inl hself
      · rcases k.all t ht with h1|h1
        · exact .inl (hset t h1)
        · rcases hmem t h1 with h2|rfl
          · exact .inr (hold t h2)
          · exact .inl hself
theorem oJ (hg:Good ss) (ht:∀j∈todo,j<ss.length) (j:Nat):j∈closed ss todo↔∃x,ss[j]? =some x/\x.kind≠0/\∃t∈todo,G1 ss t j:=by
 unfold closed;split
 · rename_i h;have:todo=[]:=List.length_eq_zero_iff.1 h;subst this;simp
 · have h0:∀i:Nat,(List.replicate ss.length false)[i]? ≠some true:=fun i hi=>by rw[List.getElem?_replicate] at hi;split at hi<;>cases hi
   have hi0:G2 ss todo todo (List.replicate ss.length false):=⟨by simp,ht,fun i hi=>hi.elim (fun hi=>absurd hi (h0 i)) fun hi=>⟨i,hi,.refl i⟩,fun i x hi=>absurd hi (h0 i),fun t h=>.inr h⟩
   have hi:=qO hg (todo.length+rz ss (List.replicate ss.length false)) todo _ (Nat.le_refl _) hi0;generalize iI ss (todo.length+rz ss (List.replicate ss.length false)) todo (List.replicate ss.length false)=out at hi;simp only[List.mem_filter,List.mem_range,Bool.and_eq_true,bne_iff_ne,ne_eq];constructor
   · rintro⟨hj,h1,h2⟩;obtain⟨x,hx⟩:∃x,ss[j]? =some x:=⟨_,List.getElem?_eq_getElem hj⟩
     rw[hx] at h2;have h1:out[j]? =some true:=by simpa using h1
     exact⟨x,hx,by simpa using h2,hi.sound j (.inl h1)⟩
   · rintro⟨x,hx,hk,t,ht',he⟩
     have key:∀a b,G1 ss a b->out[a]? =some true->out[b]? =some true:=by
      intro a b he
      induction he with
      |refl=>exact id
      |step hy hk hm _ ih =>
       intro ha;refine ih ?_
       rcases hi.cl _ _ ha hy hk _ hm with h1|h1
       · exact h1
       · cases h1
     have h1:=key _ _ he (by
      rcases hi.all t ht' with h1|h1
      · exact h1
      · cases h1)
     refine⟨(List.getElem?_eq_some_iff.1 hx).1,by rw[h1];rfl,by rw[hx];simpa using hk⟩
theorem Acc.through {j:Nat}(h:G1 ss i j) (k:Acc ss fin n j w):∃m,Acc ss fin m i w:=by
 induction h with
 |refl=>exact⟨n,k⟩
 |step a b c _ ih=>obtain⟨m,hm⟩:=ih k;exact⟨m+1,.eps a b c hm⟩
theorem Acc.stop (hf:kI ss fin) (k:Acc ss fin n i w):∃j x,G1 ss i j/\ss[j]? =some x/\x.kind≠0/\∃m,Acc ss fin m j w:=by
 induction k with
 |done hq=>obtain⟨x,hx,hk⟩:=hf _ hq;exact⟨_,x,.refl _,hx,by omega,_,.done hq⟩
 |eps a b c _ ih=>obtain⟨j,x,he,hr⟩:=ih;exact⟨j,x,.step a b c he,hr⟩
 |eat a b c d e _=>exact⟨_,_,.refl _,a,by omega,_,.eat a b c d e⟩
def wk (ss:List bK) (fin:Nat->Prop) (T:List Nat) (w:By):Prop:=∃j∈T,∃n,Acc ss fin n j w
theorem uX (hf:kI ss fin) (hg:Good ss) (ht:∀j∈todo,j<ss.length) (w:By):wk ss fin (closed ss todo) w↔wk ss fin todo w:=by
 constructor
 · rintro⟨j,hj,n,h⟩;obtain⟨x,hx,hk,t,ht',he⟩:=(oJ hg ht j).1 hj;exact⟨t,ht',h.through he⟩
 · rintro⟨t,ht',n,h⟩;obtain⟨j,x,he,hx,hk,hm⟩:=h.stop hf;exact⟨j,(oJ hg ht j).2 ⟨x,hx,hk,t,ht',he⟩,hm⟩
theorem nh (ss:List bK) (c:UInt8) (k:Nat):∀(l a:List Nat),k∈stepG ss c l a↔k∈a\/∃j∈l,∃x,ss[j]? =some x/\iX x c=true/\k∈x.to
 | [],a=>by simp[stepG]
 |j::r,a=>by
  rw[stepG,nh ss c k r];cases hx:ss[j]? with
  |none=>simp[hx]
  |some x =>
   simp only;cases ho:iX x c with
   |true=>simp[hx,ho,or_assoc]
   |false=>simp[hx,ho]
def Flat (ss:List bK) (T:List Nat):Prop:=∀j∈T,∃x,ss[j]? =some x/\x.kind≠0
theorem mM (hg:Good ss) (ht:∀j∈todo,j<ss.length):Flat ss (closed ss todo):=fun j hj=>by
 obtain⟨x,hx,hk,_⟩:=(oJ hg ht j).1 hj;exact⟨x,hx,hk⟩
theorem zR (hg:Good ss) (c:UInt8) (T:List Nat):∀j∈stepG ss c T [],j<ss.length:=fun j hj=>by
 rcases (nh ss c j T []).1 hj with h|⟨i,_,x,hx,_,hm⟩
 · cases h
 · exact hg x (List.mem_of_getElem? hx) j hm
theorem tu (hg:Good ss) (c:UInt8) (T:List Nat):Flat ss (bg ss c T):=by
 unfold bg;split
 · intro j hj;cases hj
 · exact mM hg (zR hg c T)
theorem DE (hf:kI ss fin) (hg:Good ss){T:List Nat}(hT:Flat ss T) (c:UInt8) (w:By):wk ss fin (bg ss c T) w↔wk ss fin T (c::w):=by
 unfold bg;split
 · rename_i h0;constructor
   · rintro⟨j,hj,_⟩;cases hj
   · rintro⟨j,hj,_⟩;obtain⟨x,hx,_⟩:=hT j hj;have:=(List.getElem?_eq_some_iff.1 hx).1;omega
 · rw[uX hf hg (zR hg c T)];constructor
   · rintro⟨k,hk,n,h⟩
     rcases (nh ss c k T []).1 hk with h1|⟨j,hj,x,hx,ho,hm⟩
     · cases h1
     · simp only[iX,Bool.and_eq_true,decide_eq_true_eq] at ho;exact⟨j,hj,n+1,.eat hx ho.1 ho.2 hm h⟩
   · rintro⟨j,hj,n,h⟩;obtain⟨x,hx,hk⟩:=hT j hj;cases h with
     |eps hy hk0 _ _=>rw[hx] at hy;cases hy;exact absurd hk0 hk
     |eat hy hk1 hc hm h=>exact⟨_,(nh ss c _ T []).2 (.inr ⟨j,hj,_,hy,by simp[iX,hk1,hc],hm⟩),_,h⟩
def lU (ss:List bK) (r:Nat) (q:Nat):Prop:=∃x,ss[q]? =some x/\x.kind=2/\x.rule=r
theorem sL (ss:List bK) (r:Nat):kI ss (lU ss r):=fun _ ⟨x,hx,hk,_⟩=>⟨x,hx,hk⟩
theorem GW {r:Nat}{T:List Nat}(hT:Flat ss T):wk ss (lU ss r) T []↔∃j∈T,lU ss r j:=by
 constructor
 · rintro⟨j,hj,n,h⟩;obtain⟨x,hx,hk⟩:=hT j hj;cases h with
   |done hq=>exact⟨j,hj,hq⟩
   |eps hy hk0 _ _=>rw[hx] at hy;cases hy;exact absurd hk0 hk
 · rintro⟨j,hj,hq⟩;exact⟨j,hj,0,.done hq⟩
def mZ (p:Nat->Prop) (r:Int):Prop:=(r= -1/\∀i,¬p i)\/∃n:Nat,r=n/\p n/\∀i,p i->n<=i
theorem vz (ss:List bK):∀(l:List Nat) (b:Int) (p:Nat->Prop),mZ p b->mZ (fun r=>p r\/∃j∈l,lU ss r j) (qg ss l b)
 | [],b,p,h=>by
  rw[qg]
  rcases h with ⟨rfl,h1⟩|⟨n,rfl,h1,h2⟩
  · exact .inl ⟨rfl,fun i h=>by rcases h with h|⟨_,h,_⟩;exact h1 i h;cases h⟩
  · exact .inr ⟨n,rfl,.inl h1,fun i h=>by rcases h with h|⟨_,h,_⟩;exact h2 i h;cases h⟩
 |j::l,b,p,h=>by
  rw[qg]
  have key:∀b',mZ (fun r=>p r\/lU ss r j) b'->mZ (fun r=>p r\/∃k∈j::l,lU ss r k) (qg ss l b'):=fun b' hb'=>by
   have:=vz ss l b' _ hb'
   have e:(fun r=>(p r\/lU ss r j)\/∃k∈l,lU ss r k)=(fun r=>p r\/∃k∈j::l,lU ss r k):=by
    funext r;simp[or_assoc]
   rwa [e] at this
  have no:(∀r,¬lU ss r j)->mZ (fun r=>p r\/lU ss r j) b:=fun hno=>by
   have e:(fun r=>p r\/lU ss r j)=p:=by funext r;simp[hno r]
   rw[e];exact h
  cases hx:ss[j]? with
  |none=>exact key b (no fun r ⟨x,hx',_⟩=>by rw[hx] at hx';cases hx')
  |some x =>
   simp only
   by_cases hk:x.kind=2
   · have hfin:∀r,lU ss r j↔x.rule=r:=fun r=>⟨fun⟨y,hy,_,hr⟩=>by rw[hx] at hy;cases hy;exact hr,fun hr=>⟨x,hx,hk,hr⟩⟩
     by_cases hb:qf x b=true
     · rw[if_pos hb];refine key _ (.inr ⟨x.rule,rfl,.inr ((hfin _).2 rfl),fun i hi=>?_⟩);simp only[qf,decide_eq_true_eq] at hb
       rcases hi with hi|hi
       · rcases h with ⟨rfl,h1⟩|⟨n,rfl,h1,h2⟩
         · exact absurd hi (h1 i)
         · have:=h2 i hi;omega
       · rw[(hfin i).1 hi];exact Nat.le_refl _
     · rw[if_neg hb];refine key _ ?_;simp only[qf,decide_eq_true_eq] at hb
       rcases h with ⟨rfl,h1⟩|⟨n,rfl,h1,h2⟩
       · exact absurd ⟨hk,.inl (by decide)⟩ hb
       · refine .inr ⟨n,rfl,.inl h1,fun i hi=>?_⟩
         rcases hi with hi|hi
         · exact h2 i hi
         · have:=(hfin i).1 hi;omega
   · rw[if_neg (by simp[qf,hk])];exact key b (no fun r ⟨y,hy,hk2,_⟩=>by rw[hx] at hy;cases hy;exact hk hk2)
def jI (ss:List bK) (st:Nat) (w:By):List Nat:=w.foldl (fun T c=>bg ss c T) (cu ss st)
theorem DN (hg:Good ss) (hst:st<ss.length) (w:By):Flat ss (jI ss st w):=by
 have h0:Flat ss (cu ss st):=by
  unfold cu;split
  · intro j hj;cases hj
  · exact mM hg (fun j hj=>by simp at hj;omega)
 unfold jI;generalize cu ss st=T at h0
 induction w generalizing T with
 |nil=>exact h0
 |cons c w ih=>exact ih _ (tu hg c T)
theorem Fj (hf:kI ss fin) (hg:Good ss) (hst:st<ss.length) (w v:By):wk ss fin (jI ss st w) v↔∃n,Acc ss fin n st (w++v):=by
 have h0:Flat ss (cu ss st)/\∀v,wk ss fin (cu ss st) v↔∃n,Acc ss fin n st v:=by
  unfold cu;rw[if_neg (by omega)];have ht:∀j∈[st],j<ss.length:=fun j hj=>by simp at hj;omega
  refine⟨mM hg ht,fun v=>?_⟩;rw[uX hf hg ht];simp[wk]
 unfold jI
 have key:∀(w:By) (T:List Nat),Flat ss T->(wk ss fin (w.foldl (fun T c=>bg ss c T) T) v↔wk ss fin T (w++v)):=by
  intro w
  induction w with
  |nil=>intro T _;rfl
  |cons c w ih =>
   intro T hT;rw[List.foldl_cons,ih _ (tu hg c T),DE hf hg hT];rfl
 rw[key w _ h0.1,h0.2]
theorem wg (hg:Good ss) (hst:st<ss.length) (w:By):mZ (fun r=>∃n,Acc ss (lU ss r) n st w) (aJ ss (jI ss st w)):=by
 unfold aJ;rw[if_neg (by omega)];have h:=vz ss (jI ss st w) (-1) (fun _=>False) (.inl ⟨rfl,fun _ h=>h⟩)
 have e:(fun r=>False\/∃j∈jI ss st w,lU ss r j)=(fun r=>∃n,Acc ss (lU ss r) n st w):=by
  funext r
  have:=Fj (sL ss r) hg hst w [];rw[GW (DN hg hst w),List.append_nil] at this;simpa using this
 rw[e] at h;exact h
def fy (ss:List bK):Nat:=(ss.map fun x=>x.to.length+1).sum
theorem gw (a b:List bK):fy (a++b)=fy a+fy b:=by simp[fy]
theorem zJ:∀(ss:List bK) (i:Nat) (y x:bK),ss[i]? =some y->fy (ss.set i x)+y.to.length=fy ss+x.to.length
 | [],i,y,x,h=>by simp at h
 |z::r,0,y,x,h=>by simp at h;subst h;simp[fy];omega
 |z::r,i+1,y,x,h=>by have:=zJ r i y x (by simpa using h);simp[fy] at *;omega
theorem Fq:∀(ss:List bK) (seen:List Bool),rz ss seen<=fy ss
 | [],_=>by simp[rz]
 |x::r,[]=>by simp[rz]
 |x::r,b::s=>by
  have:=Fq r s;simp only[rz,fy,List.map_cons,List.sum_cons] at *;split<;>omega
end
mutual
theorem sK:∀(x:Nd) (ss:List bK) (to:Nat),fy (lay x ss to).1+1<=fy ss+4*nE x
 |.mk k s kids,ss,to=>by
  rw[lay];simp only[nE];split
  · rw[gw];simp[fy];omega
  · split
    · have:=uw kids ss to;omega
    · split
      · have:=uy kids ss to;have hl:=mE kids ss to;simp only[gw];simp[fy] at *;omega
      · split
        · have:=uu kids ss to;simp only[gw];simp[fy] at *;omega
        · split
          · have:=uu kids (ss++[⟨0,0,[],0⟩]) ss.length;have h2:=zJ (cC kids (ss++[⟨0,0,[],0⟩]) ss.length).1 ss.length ⟨0,0,[],0⟩ ⟨0,0,[(cC kids (ss++[⟨0,0,[],0⟩]) ss.length).2,to],0⟩ (by rw[ow kids _ _ _ (by simp)];simp);rw[gw] at this;simp[fy] at *;omega
          · simp;omega
theorem uw:∀(l:List Nd) (ss:List bK) (to:Nat),fy (bJ l ss to).1<=fy ss+4*gD l
 | [],ss,to=>by simp[bJ]
 |x::r,ss,to=>by
  rw[bJ];have h1:=uw r ss to;have h2:=sK x (bJ r ss to).1 (bJ r ss to).2;simp only[gD];omega
theorem uy:∀(l:List Nd) (ss:List bK) (to:Nat),fy (bA l ss to).1+l.length<=fy ss+4*gD l
 | [],ss,to=>by simp[bA]
 |x::r,ss,to=>by
  rw[bA];have h1:=sK x ss to;have h2:=uy r (lay x ss to).1 to;simp only[gD,List.length_cons];omega
theorem uu:∀(l:List Nd) (ss:List bK) (to:Nat),fy (cC l ss to).1<=fy ss+4*gD l
 | [],ss,to=>by simp[cC]
 |x::r,ss,to=>by
  rw[cC];have h1:=sK x ss to;simp only[gD];omega
end
section
variable {F ss:List bK}{fin:Nat->Prop}{n to i st:Nat}{x:bK}{w:By}{todo:List Nat}
theorem Good.append {a b:List bK}(ha:Good a) (hb:∀x∈b,∀j∈x.to,j<(a++b).length):Good (a++b):=fun x hx j hj=>by
 rcases List.mem_append.1 hx with h|h
 · have:=ha x h j hj;simp;omega
 · exact hb x h j hj
theorem Good.set {a:List bK}(ha:Good a){i:Nat}{y:bK}(hy:∀j∈y.to,j<a.length):Good (a.set i y):=fun x hx j hj=>by
 rw[List.length_set]
 rcases List.mem_or_eq_of_mem_set hx with h|rfl
 · exact ha x h j hj
 · exact hy j hj
end
mutual
theorem pL:∀(x:Nd) (ss:List bK) (to:Nat),Good ss->to<ss.length->Good (lay x ss to).1/\(lay x ss to).2<(lay x ss to).1.length
 |.mk k s kids,ss,to,hg,ht=>by
  rw[lay];split
  · exact⟨hg.append (by intro x hx j hj;simp at hx;subst hx;simp at hj;subst hj;simp;omega),by simp⟩
  · split
    · exact rE kids ss to hg ht
    · split
      · have h:=rH kids ss to hg ht;exact⟨h.1.append (by intro x hx j hj;simp at hx;subst hx;have:=h.2 j hj;simp;omega),by simp⟩
      · split
        · have h:=rD kids ss to hg ht;have hl:=gp kids ss to;exact⟨h.1.append (by intro x hx j hj;simp at hx;subst hx;simp at hj;simp;rcases hj with rfl|rfl<;>omega),by simp⟩
        · split
          · have h:=rD kids (ss++[⟨0,0,[],0⟩]) ss.length (hg.append (by intro x hx j hj;simp at hx;subst hx;cases hj)) (by simp);have hl:=gp kids (ss++[⟨0,0,[],0⟩]) ss.length;simp only[List.length_append,List.length_singleton] at hl;refine⟨h.1.set (by intro j hj;simp at hj;rcases hj with rfl|rfl;exact h.2;omega),?_⟩;simp only[List.length_set];split
            · exact h.2
            · omega
          · exact⟨hg,ht⟩
theorem rE:∀(l:List Nd) (ss:List bK) (to:Nat),Good ss->to<ss.length->Good (bJ l ss to).1/\(bJ l ss to).2<(bJ l ss to).1.length
 | [],ss,to,hg,ht=>by rw[bJ];exact⟨hg,ht⟩
 |x::r,ss,to,hg,ht=>by
  rw[bJ];have h1:=rE r ss to hg ht;exact pL x _ _ h1.1 h1.2
theorem rH:∀(l:List Nd) (ss:List bK) (to:Nat),Good ss->to<ss.length->Good (bA l ss to).1/\∀j∈(bA l ss to).2,j<(bA l ss to).1.length
 | [],ss,to,hg,ht=>by rw[bA];exact⟨hg,fun j hj=>by cases hj⟩
 |x::r,ss,to,hg,ht=>by
  rw[bA];have h1:=pL x ss to hg ht;have hl:=fT x ss to;have h2:=rH r (lay x ss to).1 to h1.1 (by omega);have hl2:=fB r (lay x ss to).1 to;refine⟨h2.1,fun j hj=>?_⟩
  rcases List.mem_cons.1 hj with rfl|hj
  · simp only;omega
  · exact h2.2 j hj
theorem rD:∀(l:List Nd) (ss:List bK) (to:Nat),Good ss->to<ss.length->Good (cC l ss to).1/\(cC l ss to).2<(cC l ss to).1.length
 | [],ss,to,hg,ht=>by rw[cC];exact⟨hg,ht⟩
 |x::r,ss,to,hg,ht=>by rw[cC];exact pL x ss to hg ht
end
section
variable {F ss:List bK}{fin:Nat->Prop}{n to i st:Nat}{x:bK}{w:By}{todo:List Nat}
structure La (i:Nat) (rules:List By) (ss:List bK) (t:List Nat) (ss':List bK) (t':List Nat):Prop where
 pre:∀j,j<ss.length->ss'[j]? =ss[j]?
 len:ss.length<=ss'.length/\ss'.length<=ss.length+402*rules.length
 tot:fy ss'<=fy ss+1605*rules.length
 good:Good ss->(∀j∈t,j<ss.length)->Good ss'/\∀j∈t',j<ss'.length
 starts:∃t2,t'=t++t2/\t2.length=rules.length/\∀k s,rules[k]? =some s->(bZ s).2=0/\∃a b,t2[k]? =some b/\ss.length<=a/\ss'[a]? =some ⟨2,0,[],i+k⟩/\∀F fin,ED F ss' ss.length->kI F fin->Splits F fin b a (G6 (bZ s).1)
theorem uf:∀(rules:List By) (i:Nat) (ss:List bK) (t:List Nat) (ss':List bK) (t':List Nat),kr i rules ss t= .inr (ss',t')->La i rules ss t ss' t'
 | [],i,ss,t,ss',t',h=>by
  rw[kr] at h;cases h;exact⟨fun _ _=>rfl,by simp,by simp,fun a b=>⟨a,b⟩,[],by simp,rfl,fun k s h=>by simp at h⟩
 |s::r,i,ss,t,ss',t',h=>by
  rw[kr] at h;split at h
  · cases h
  · rename_i he;have he:(bZ s).2=0:=by simpa using he
    have hsm:=pq he;have ih:=uf r _ _ _ _ _ h;have hpre:=kZ (bZ s).1 (ss++[⟨2,0,[],i⟩]) ss.length;have hlen:=fT (bZ s).1 (ss++[⟨2,0,[],i⟩]) ss.length;have htot:=sK (bZ s).1 (ss++[⟨2,0,[],i⟩]) ss.length;simp only[List.length_append,List.length_singleton,gw] at hpre hlen htot;have hL:fy [(⟨2,0,[],i⟩:bK)]=1:=by simp[fy]
    generalize hly:lay (bZ s).1 (ss++[⟨2,0,[],i⟩]) ss.length=ly at *;obtain⟨t2,pP,htl,hst⟩:=ih.starts;refine⟨fun j hj=>?_,⟨?_,?_⟩,?_,fun hg ht=>?_,ly.2::t2,by simp[pP],by simp[htl],fun k s' hk=>?_⟩
    · rw[ih.pre j (by omega),hpre j (by omega),List.getElem?_append_left hj]
    · have:=ih.len.1;omega
    · have:=ih.len.2;simp only[List.length_cons];omega
    · have:=ih.tot;simp only[List.length_cons];omega
    · have hgl:=pL (bZ s).1 (ss++[⟨2,0,[],i⟩]) ss.length (hg.append (by intro x hx j hj;simp at hx;subst hx;cases hj)) (by simp);rw[hly] at hgl
      exact ih.good hgl.1 (fun j hj=>by
       rcases List.mem_append.1 hj with h1|h1
       · have:=ht j h1;omega
       · have:j=ly.2:=by simpa using h1
         rw[this];exact hgl.2)
    · cases k with
      |zero =>
       simp at hk;subst hk;refine⟨he,ss.length,ly.2,rfl,Nat.le_refl _,?_,fun F fin hS hF=>?_⟩
       · rw[ih.pre _ (by omega),hpre _ (by omega)];simp
       · have:=kY hF (bZ s).1 (ss++[⟨2,0,[],i⟩]) ss.length (fun j h1 h2=>by
          rw[hly] at h2 ⊢;simp only[List.length_append,List.length_singleton] at h1;rw[hS j (by omega) (by have:=ih.len.1;omega)];exact ih.pre j h2)
         rwa [hly] at this
      |succ k =>
       obtain⟨h0,a,b,hb,hla,ha,hsp⟩:=hst k s' (by simpa using hk);exact⟨h0,a,b,by simpa using hb,by omega,by rw[ha];simp;omega,fun F fin hS hF=>hsp F fin (fun j h1 h2=>hS j (by omega) h2) hF⟩
structure Made (rules:List By) (ss:List bK) (st:Nat):Prop where
 good:Good ss
 stl:st<ss.length
 len:ss.length<=30000
 tot:fy ss<=110000
 num:rules.length<=64
 lng:∀r w,(∃n,Acc ss (lU ss r) n st w)↔∃s,rules[r]? =some s/\G6 (bZ s).1 w
theorem gk {rules:List By}(h:fk rules= .inr (ss,st)):Made rules ss st:=by
 unfold fk at h;split at h
 · cases h
 · rename_i hn;split at h
   · cases h
   · rename_i ss0 t hm;split at h
     · cases h
     · cases h;have k:=uf _ _ _ _ _ _ hm;obtain⟨t2,pP,htl,hst⟩:=k.starts;have ht:t=t2:=by simpa using pP
       subst ht;have hl:=k.len.2;have htot:=k.tot;have hgd:=k.good (by intro x hx;cases hx) (by intro j hj;cases hj);simp only[List.length_nil] at hl;have h0:fy ([]:List bK)=0:=rfl;have hF:(ss0++[⟨0,0,t,0⟩])[ss0.length]? =some ⟨0,0,t,0⟩:=by simp
       have hS:ED (ss0++[⟨0,0,t,0⟩]) ss0 ([]:List bK).length:=fun i _ h2=>List.getElem?_append_left h2
       refine⟨hgd.1.append (by intro x hx j hj;simp at hx;subst hx;have:=hgd.2 j hj;simp;omega),by simp,by simp;omega,?_,by omega,fun r w=>?_⟩
       · have hq:fy [(⟨0,0,t,0⟩:bK)]=t.length+1:=by simp[fy]
         rw[gw,hq];omega
       · constructor
         · rintro⟨n,hw⟩;obtain⟨m,q',_,hq,hw'⟩:=hw.fork (sL _ r) hF rfl;obtain⟨k',hk'⟩:=List.getElem?_of_mem hq;have hkl:k'<t.length:=(List.getElem?_eq_some_iff.1 hk').1;obtain⟨s,hs⟩:∃s,rules[k']? =some s:=⟨_,List.getElem?_eq_getElem (by omega)⟩
           obtain⟨_,a,b,hb,_,ha,hsp⟩:=hst k' s hs;rw[hk'] at hb;cases hb;obtain⟨u,v,m',rfl,hu,_,hv⟩:=(hsp _ _ hS (sL _ r)).1 _ _ hw';have ha':(ss0++[(⟨0,0,t,0⟩:bK)])[a]? =some ⟨2,0,[],0+k'⟩:=by rw[hS a (Nat.zero_le _) (List.getElem?_eq_some_iff.1 ha).1,ha]
           cases hv with
           |done hfin =>
            obtain⟨x,hx,_,hr⟩:=hfin;rw[ha'] at hx;cases hx;simp only[Nat.zero_add] at hr;subst hr;exact⟨s,hs,by rw[List.append_nil];exact hu⟩
           |eps hx hk _ _=>rw[ha'] at hx;cases hx;cases hk
           |eat hx hk _ _ _=>rw[ha'] at hx;cases hx;cases hk
         · rintro⟨s,hs,hw⟩;obtain⟨_,a,b,hb,_,ha,hsp⟩:=hst r s hs;have ha':(ss0++[(⟨0,0,t,0⟩:bK)])[a]? =some ⟨2,0,[],0+r⟩:=by rw[hS a (Nat.zero_le _) (List.getElem?_eq_some_iff.1 ha).1,ha]
           obtain⟨n,hn⟩:=(hsp _ _ hS (sL _ r)).2 w [] 0 hw (.done ⟨_,ha',rfl,by simp⟩);rw[List.append_nil] at hn;exact⟨n+1,.eps (q':=b) hF rfl (show b∈t from List.mem_of_getElem? hb) hn⟩
theorem xU {f:Nat->Nat}:∀{a b:List Nat},a.Sublist b->(a.map f).sum<=(b.map f).sum
 |_,_,.slnil=>by simp
 |_,_,.cons _ h=>by have:=xU (f:=f) h;simp;omega
 |_,_,.cons_cons _ h=>by have:=xU (f:=f) h;simp;omega
theorem Dd:∀ss:List bK,(ss.map fun x=>x.to.length).sum<=fy ss
 | []=>by simp[fy]
 |x::r=>by have:=Dd r;simp[fy] at *;omega
theorem DS (ss:List bK):((List.range ss.length).map fun i=>match ss[i]? with|some x=>x.to.length|none=>0).sum<=fy ss:=by
 have:((List.range ss.length).map fun i=>match ss[i]? with|some x=>x.to.length|none=>0)=ss.map fun x=>x.to.length:=by
  apply List.ext_getElem
  · simp
  · intro i h1 h2;simp at h2;simp[h2]
 rw[this];exact Dd ss
theorem wD (ss:List bK) (c:UInt8):∀(l a:List Nat),(stepG ss c l a).length<=a.length+(l.map fun i=>match ss[i]? with|some x=>x.to.length|none=>0).sum
 | [],a=>by simp[stepG]
 |j::r,a=>by
  rw[stepG];refine Nat.le_trans (wD ss c r _) ?_;simp only[List.map_cons,List.sum_cons];cases ss[j]? with
  |none=>simp
  |some x=>simp only;split<;>simp<;>omega
theorem DF (c:UInt8){now:List Nat}(h:now.Sublist (List.range ss.length)):(stepG ss c now []).length<=fy ss:=by
 have h1:=wD ss c now [];have h2:=xU (f:=fun i=>match ss[i]? with|some x=>x.to.length|none=>0) h;have h3:=DS ss;simp only[List.length_nil] at h1;omega
def IsMatch (P:Nat->Nat->Prop) (n:Nat) (o:Int×Int):Prop :=
 (o=(0,-1)/\∀k r,k<=n->¬P k r)\/∃k r:Nat,o=((k:Int),(r:Int))/\k<=n/\P k r/\(∀k' r',k'<=n->P k' r'->k'<=k)/\∀r',P k r'->r<=r'
def mQ (ac:Nat->Int):Nat->Nat->Int×Int->Int×Int
 | 0,k,b=>if 0<=ac k then ((k:Int),ac k) else b
 |n+1,k,b=>mQ ac n (k+1) (if 0<=ac k then ((k:Int),ac k) else b)
def oO (P:Nat->Nat->Prop) (m:Nat) (o:Int×Int):Prop :=
 (o=(0,-1)/\∀k r,k<m->¬P k r)\/∃k r:Nat,o=((k:Int),(r:Int))/\k<m/\P k r/\(∀k' r',k'<m->P k' r'->k'<=k)/\∀r',P k r'->r<=r'
theorem oO.next {P:Nat->Nat->Prop}{m:Nat}{o:Int×Int}{a:Int}(h:oO P m o) (ha:mZ (P m) a):oO P (m+1) (if 0<=a then ((m:Int),a) else o):=by
 rcases ha with ⟨rfl,h1⟩|⟨r,rfl,h1,h2⟩
 · rw[if_neg (by decide)]
   rcases h with ⟨rfl,h3⟩|⟨k,r,rfl,hk,hp,h3,h4⟩
   · exact .inl ⟨rfl,fun k r hk hp=>by
      by_cases e:k=m
      · subst e;exact h1 _ hp
      · exact h3 k r (by omega) hp⟩
   · exact .inr ⟨k,r,rfl,by omega,hp,fun k' r' hk' hp'=>by
      by_cases e:k'=m
      · subst e;exact absurd hp' (h1 _)
      · exact h3 k' r' (by omega) hp',h4⟩
 · rw[if_pos (by omega)];exact .inr ⟨m,r,rfl,by omega,h1,fun k' r' hk' _=>by omega,h2⟩
theorem u6 {P:Nat->Nat->Prop}{ac:Nat->Int}:∀(n k:Nat) (b:Int×Int),oO P k b->(∀j,k<=j->j<=k+n->mZ (P j) (ac j))->oO P (k+n+1) (mQ ac n k b)
 | 0,k,b,h,ha=>by rw[mQ];exact h.next (ha k (Nat.le_refl _) (by omega))
 |n+1,k,b,h,ha=>by
  rw[mQ];have:=u6 n (k+1) _ (h.next (ha k (Nat.le_refl _) (by omega))) (fun j h1 h2=>ha j (by omega) (by omega))
  rwa [show k+(n+1)+1=k+1+n+1 by omega]
theorem oO.match {P:Nat->Nat->Prop}{o:Int×Int}(h:oO P (n+1) o):IsMatch P n o:=by
 rcases h with ⟨rfl,h1⟩|⟨k,r,rfl,hk,hp,h1,h2⟩
 · exact .inl ⟨rfl,fun k r hk=>h1 k r (by omega)⟩
 · exact .inr ⟨k,r,rfl,by omega,hp,fun k' r' hk'=>h1 k' r' (by omega),h2⟩
theorem iR (ss:List bK) (c:UInt8):bg ss c []=[]:=by simp[bg,stepG,closed]
theorem rq (ss:List bK) (st:Nat) (a b:By):jI ss st (a++b)=b.foldl (fun T c=>bg ss c T) (jI ss st a):=by simp[jI,List.foldl_append]
theorem CS (ss:List bK):∀w:By,w.foldl (fun T c=>bg ss c T) ([]:List Nat)=[]
 | []=>rfl
 |c::w=>by rw[List.foldl_cons,iR,CS ss w]
theorem u5 {ac:Nat->Int}:∀(n k:Nat) (b:Int×Int),(∀j,k<=j->j<=k+n->ac j<0)->mQ ac n k b=b
 | 0,k,b,h=>by rw[mQ,if_neg (by have:=h k (Nat.le_refl _) (by omega);omega)]
 |n+1,k,b,h=>by
  rw[mQ,if_neg (by have:=h k (Nat.le_refl _) (by omega);omega)];exact u5 n (k+1) b (fun j h1 h2=>h j (by omega) (by omega))
theorem AE:∀(l a:By) (b:Int×Int),ck ss l (jI ss st a) a.length b=mQ (fun k=>aJ ss (jI ss st ((a++l).take k))) l.length a.length b:=by
 have none_:∀(l a:By) (b:Int×Int),jI ss st a=[]->ck ss l (jI ss st a) a.length b=mQ (fun k=>aJ ss (jI ss st ((a++l).take k))) l.length a.length b:=by
  intro l a b h;rw[gj (by rw[h];rfl),u5];intro j h1 h2;have:(a++l).take j=a++l.take (j-a.length):=by rw[List.take_append,List.take_of_length_le h1]
  rw[this,rq,h,CS];unfold aJ;split
  · decide
  · simp[qg]
 intro l
 induction l with
 |nil =>
  intro a b
  by_cases h:jI ss st a=[]
  · exact none_ [] a b h
  · rw[ck,if_neg (by simpa using h),List.length_nil,mQ];simp
 |cons c r ih =>
  intro a b
  by_cases h:jI ss st a=[]
  · exact none_ (c::r) a b h
  · rw[ck,if_neg (by simpa using h)];simp only[List.length_cons,mQ];have h1:=ih (a++[c]) (if 0<=aJ ss (jI ss st a) then ((a.length:Int),aJ ss (jI ss st a)) else b);rw[rq] at h1;simp only[List.foldl_cons,List.foldl_nil,List.length_append,List.length_singleton,List.append_assoc,List.singleton_append] at h1;rw[h1];have e:(a++c::r).take a.length=a:=by simp
    rw[e]
theorem AD {rules:List By}(k:Made rules ss st) (l:By):IsMatch (fun n r=>∃s,rules[r]? =some s/\G6 (bZ s).1 (l.take n)) l.length (cP ss st l):=by
 have hst:=k.stl;unfold cP;rw[if_neg (by omega)];have h:=AE (ss:=ss) (st:=st) l [] (0,-1);have e:jI ss st []=cu ss st:=rfl;rw[e] at h;simp only[List.length_nil,List.nil_append] at h;rw[h]
 have:=u6 (P:=fun n r=>∃s,rules[r]? =some s/\G6 (bZ s).1 (l.take n)) (ac:=fun k=>aJ ss (jI ss st (l.take k))) l.length 0 (0,-1) (.inl ⟨rfl,fun k r hk=>by omega⟩) (fun j _ _=>by
  have h1:=wg k.good k.stl (l.take j)
  have e:(fun r=>∃n,Acc ss (lU ss r) n st (l.take j))=(fun r=>∃s,rules[r]? =some s/\G6 (bZ s).1 (l.take j)):=by
   funext r;exact propext (k.lng r _)
  rw[e] at h1;exact h1)
 rw[Nat.zero_add] at this;exact this.match
end
end Go.Proofs.YtmehdcdbeafljaaGreatDoor
namespace Go.Proofs.YtmehdcdbeafljaaGreatDoor
open Go Go.Lw
set_option maxRecDepth 20000
def JG (h:az) (p:Value) (rules:List By):Prop:=∃(O:Nat->Prop) (nb:Nat) (v:Value) (ss:List bK) (st:Nat),p= .pointer (some ⟨nb,0,none⟩)/\cy h O nb v ss st/\fk rules= .inr (ss,st)
def II (rules:List By):Int:=match fk rules with|.inl e=>e|.inr _=>0
def yu (rules:List By) (s:By) (a:Int):Int×Int:=match fk rules with|.inl _=>(0,-1)|.inr (ss,st)=>B1 ss st s a
theorem D7 {h:az}{lim:Nat}(hg:Sg h lim) (hlim:lim<=h.size){rv:Value}{rules:List By}(hr:bS mK h (fun _=>False) rv rules) (hrl:∀s∈rules,s.length<=1000000) :
 ah Tryz.prog 27 #[rv] h (cT fun r h'=>(∃p,r= .tuple #[p,.int .i64 (II rules)]/\((∃e,fk rules= .inl e/\p= .pointer none)\/JG h' p rules))/\aD h h') :=
 (B2 hg hlim hr hrl).ret fun r h' k=>by
  obtain⟨k1,k2⟩:=k;refine⟨?_,k2⟩;unfold xH at k1;unfold II;cases hm:fk rules with
  |inl e=>rw[hm] at k1;exact⟨_,k1,.inl ⟨e,rfl,rfl⟩⟩
  |inr q =>
   obtain⟨ss,st⟩:=q;rw[hm] at k1;obtain⟨nb,v,h1,_,h3⟩:=k1;exact⟨_,h1,.inr ⟨_,nb,v,ss,st,rfl,h3,hm⟩⟩
theorem AH {rules:List By}{ss:List bK}{st:Nat}(k:Made rules ss st):ss.length<=1000000/\1+rz ss (List.replicate ss.length false)<=1000000/\∀c now,List.Sublist now (List.range ss.length)->(stepG ss c now []).length+rz ss (List.replicate ss.length false)<=1000000:=by
 have h1:=k.len;have h2:=k.tot;have h3:=Fq ss (List.replicate ss.length false);refine⟨by omega,by omega,fun c now hs=>?_⟩;have:=DF c hs;omega
theorem lits {h:az}(l:List By) (n:Nat) (hn:l.length=n) (hm:n<=maxLen):bS mK (h.push (.cells (l.map fun s=>Value.string (bs s)).toArray 9)) (fun _=>False) (.slice (some ⟨h.size,0,none⟩) n n) l :=
 cO.read (h1:=fun _=>rfl) (jo (fun s=>.string (bs s)) h 9 l n hn hm h.size (Nat.le_refl _) rfl) (fun _ _ k=>k)
end Go.Proofs.YtmehdcdbeafljaaGreatDoor

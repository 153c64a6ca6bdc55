/- What the proof of the statement leans on (part 22). -/
import Derived.Lib.SpaceU
import Derived.Test.YtpjgdgdnbkjoiaaGreatDoorQu

namespace Go.Proofs.YtpjgdgdnbkjoiaaGreatDoor
open Go
section
variable {l s:By}{n c p a:Nat}{so:Int->Bool}
def pJ (l:By):Nat:=(Lib.decodeN l.length (l.getD 0 0).toNat (l.getD 1 0).toNat (l.getD 2 0).toNat (l.getD 3 0).toNat).1
def yG (r:Nat):Int:=if r=32\/r=9\/r=10\/r=13 then 0 else if (48<=r/\r<=57)\/(65<=r/\r<=90)\/(97<=r/\r<=122)\/r=95\/128<=r then 1 else 2
def bf:Nat->By->Nat->List Nat
  | 0,_,_=>[]
  |n+1,l,a=>if l=[] then [] else a::bf n (l.drop (aN l)) (a+aN l)
def b8 (s:By):List Nat:=bf s.length s 0
def fG (s:By) (a:Int):Nat:=if (s.length:Int)<=a then s.length else (b8 s).foldl (fun(o k:Nat)=>if (k:Int)<=a then k else o) 0
def ij (s:By) (a:Nat):Nat:=if a=0\/s.length<a then a else a-(Lib.decodeLastL (s.take a)).2
def cw (s:By) (a:Nat):Nat:=if s.length<=a then a else a+aN (s.drop a)
def eR (s:By) (a:Nat):Int:=if s.length<=a then -1 else yG (pJ (s.drop a))
def fU (s:By) (a:Nat):Int:=if a=0\/s.length<a then -1 else yG (Lib.decodeLastL (s.take a)).1
def mO (s:By) (a:Nat):Prop:=a∈b8 s\/a=s.length
theorem qM (l:By):Lib.decodeL l=(pJ l,aN l):=by
  unfold Lib.decodeL pJ aN;rw[Lib.decode_at]
  have e:∀i,(ByteArray.get! ⟨l.toArray⟩ i)=l.getD i 0:=fun i=>by
    show (l.toArray)[i]! =_
    rw[getElem!_def,List.getElem?_toArray,List.getD_eq_getElem?_getD];cases l[i]? <;>rfl
  rw[e,e,e,e];rfl
theorem oV (h:aN l=n) (i:Nat) (h1:1<=i) (h2:i<n):(l.getD i 0).toNat / 64=2:=by
  unfold aN Lib.decodeN at h;have q:i=1\/i=2\/i=3\/4<=i:=by omega
  repeat' split at h
  all_goals first
    |(exfalso;simp only at h;omega)
    |(simp only at h;rename_i c _;rcases q with rfl|rfl|rfl|q<;>first|exact c.2.2|exact c.2.1.2|exact c.2.2.2|exact c.2.2.1.2|exact c.2.2.2.2|(exfalso;omega))
theorem ze (h:2<=aN l):¬(l.getD 0 0).toNat / 64=2/\128<=(l.getD 0 0).toNat:=by
  unfold aN Lib.decodeN at h
  repeat' split at h
  all_goals first|(exfalso;simp only at h;omega)|(constructor<;>omega)
theorem oW (l:By):aN l<=4:=by
  unfold aN Lib.decodeN
  repeat' split
  all_goals simp
theorem Ik (h:aN l=n) (h2:2<=n) (hl:n<=l.length):aN (l.take n)=n/\pJ (l.take n)=pJ l:=by
  have g:∀i,i<n->(l.take n).getD i 0=l.getD i 0:=fun i hi=>by rw[List.getD_eq_getElem?_getD,List.getD_eq_getElem?_getD,List.getElem?_take_of_lt hi]
  have hlen:(l.take n).length=n:=by rw[List.length_take];omega
  have h4:=oW l;unfold aN pJ at *;rw[hlen,g 0 (by omega),g 1 (by omega)];have q:n=2\/n=3\/n=4:=by omega
  rcases q with rfl|rfl|rfl
  · unfold Lib.decodeN at *
    repeat' split at h
    all_goals first|(exfalso;simp only at h;omega)|skip
    all_goals (rw[if_neg (by assumption),if_pos (by omega),if_pos (by assumption)];refine⟨rfl,?_⟩;repeat' split;all_goals first|rfl|(exfalso;omega))
  · rw[g 2 (by omega)];unfold Lib.decodeN at *
    repeat' split at h
    all_goals first|(exfalso;simp only at h;omega)|skip
    all_goals (rw[if_neg (by assumption),if_neg (by omega),if_pos (by omega),if_pos (by assumption)];refine⟨rfl,?_⟩;repeat' split;all_goals first|rfl|(exfalso;omega))
  · rw[g 2 (by omega),g 3 (by omega)];unfold Lib.decodeN at *
    repeat' split at h
    all_goals first|(exfalso;simp only at h;omega)|skip
    all_goals (rw[if_neg (by assumption),if_neg (by omega),if_neg (by omega),if_pos (by omega),if_pos (by assumption)];refine⟨rfl,?_⟩;repeat' split;all_goals first|rfl|(exfalso;omega))
theorem Gi (h:aN (l.take n)=n) (h2:2<=n) (hl:n<=l.length):aN l=n:=by
  have g:∀i,i<n->(l.take n).getD i 0=l.getD i 0:=fun i hi=>by rw[List.getD_eq_getElem?_getD,List.getD_eq_getElem?_getD,List.getElem?_take_of_lt hi]
  have hlen:(l.take n).length=n:=by rw[List.length_take];omega
  have h4:=oW (l.take n);have q:n=2\/n=3\/n=4:=by omega
  unfold aN at *;rw[hlen,g 0 (by omega),g 1 (by omega)] at h
  rcases q with rfl|rfl|rfl
  · unfold Lib.decodeN at *
    repeat' split at h
    all_goals first|(exfalso;simp only at h;omega)|skip
    all_goals (rw[if_neg (by assumption),if_pos (by omega),if_pos (by assumption)])
  · rw[g 2 (by omega)] at h;unfold Lib.decodeN at *
    repeat' split at h
    all_goals first|(exfalso;simp only at h;omega)|skip
    all_goals (rw[if_neg (by assumption),if_neg (by omega),if_pos (by omega),if_pos (by assumption)])
  · rw[g 2 (by omega),g 3 (by omega)] at h;unfold Lib.decodeN at *
    repeat' split at h
    all_goals first|(exfalso;simp only at h;omega)|skip
    all_goals (rw[if_neg (by assumption),if_neg (by omega),if_neg (by omega),if_pos (by omega),if_pos (by assumption)])
theorem eC:∀(n:Nat) (l:By) (a c:Nat),c∈bf n l a->a<=c/\c<a+l.length
  | 0,_,_,_,h=>by simp[bf] at h
  |n+1,l,a,c,h=>by
    rw[bf] at h;split at h
    · simp at h
    · rename_i hl;have hp:=List.length_pos_iff.2 hl;have hr:=cv hl
      rcases List.mem_cons.1 h with rfl|h
      · omega
      · have:=eC n _ _ c h;rw[List.length_drop] at this;omega
theorem gx (h:c∈b8 s):c<s.length:=by have:=eC _ _ _ _ h;omega
theorem rD:∀(n:Nat) (l:By) (a c:Nat),l.length<=n->c∈bf n l a ->
    (c+aN (l.drop (c-a))∈bf n l a\/c+aN (l.drop (c-a))=a+l.length)/\∀d,c<d->d<c+aN (l.drop (c-a))->d∉bf n l a
  | 0,_,_,_,_,h=>by simp[bf] at h
  |n+1,l,a,c,hn,h=>by
    rw[bf] at h ⊢;split at h
    · simp at h
    · rename_i hl;rw[if_neg hl];have hp:=List.length_pos_iff.2 hl;have hr:=cv hl;have hd:(l.drop (aN l)).length=l.length-aN l:=List.length_drop
      rcases List.mem_cons.1 h with rfl|h
      · rw[Nat.sub_self,List.drop_zero];refine⟨?_,fun d h1 h2 h3=>?_⟩
        · by_cases e:l.drop (aN l)=[]
          · right;rw[e] at hd;simp only[List.length_nil] at hd;omega
          · left
            refine List.mem_cons_of_mem _ ?_;cases n with
            |zero=>exact absurd (List.length_eq_zero_iff.1 (by omega)) e
            |succ n=>rw[bf,if_neg e];exact List.mem_cons_self
        · rcases List.mem_cons.1 h3 with rfl|h3
          · omega
          · have:=eC _ _ _ _ h3;omega
      · have hm:=eC _ _ _ _ h;have ih:=rD n (l.drop (aN l)) (a+aN l) c (by omega) h;rw[List.drop_drop,show aN l+(c-(a+aN l))=c-a by omega] at ih;refine⟨ih.1.imp (List.mem_cons_of_mem _) (fun e=>by omega),fun d h1 h2 h3=>?_⟩
        rcases List.mem_cons.1 h3 with rfl|h3
        · omega
        · exact ih.2 d h1 h2 h3
theorem rC:∀(n:Nat) (l:By) (a p:Nat),l.length<=n->a<p->(p∈bf n l a\/p=a+l.length)->∃q∈bf n l a,q+aN (l.drop (q-a))=p
  | 0,l,a,p,hn,h1,h=>by
    rcases h with h|h
    · simp[bf] at h
    · omega
  |n+1,l,a,p,hn,h1,h=>by
    have hl:l≠[]:=by
      rintro rfl
      rcases h with h|h
      · simp[bf] at h
      · simp only[List.length_nil] at h;omega
    have hr:=cv hl;have hd:(l.drop (aN l)).length=l.length-aN l:=List.length_drop;rw[bf,if_neg hl] at h ⊢
    rcases Nat.lt_trichotomy p (a+aN l) with q|q|q
    · exfalso
      rcases h with h|h
      · rcases List.mem_cons.1 h with h|h
        · omega
        · have:=eC _ _ _ _ h;omega
      · omega
    · exact⟨a,List.mem_cons_self,by rw[Nat.sub_self,List.drop_zero];omega⟩
    · obtain⟨x,hx,he⟩:=rC n (l.drop (aN l)) (a+aN l) p (by omega) q (by
        rcases h with h|h
        · rcases List.mem_cons.1 h with h|h
          · omega
          · exact .inl h
        · right;omega)
      have hm:=eC _ _ _ _ hx;rw[List.drop_drop,show aN l+(x-(a+aN l))=x-a by omega] at he;exact⟨x,List.mem_cons_of_mem _ hx,he⟩
theorem pV:∀(n:Nat) (l:By) (a c:Nat),l.length<=n->a<=c->c<a+l.length->¬(l.getD (c-a) 0).toNat / 64=2->c∈bf n l a
  | 0,l,a,c,hn,h1,h2,_=>by omega
  |n+1,l,a,c,hn,h1,h2,h=>by
    have hl:l≠[]:=by rintro rfl;simp only[List.length_nil] at h2;omega
    have hr:=cv hl;have hd:(l.drop (aN l)).length=l.length-aN l:=List.length_drop;rw[bf,if_neg hl]
    by_cases e:c=a
    · rw[e];exact List.mem_cons_self
    · refine List.mem_cons_of_mem _ (pV n _ _ c (by omega) ?_ (by omega) ?_)
      · rcases Nat.lt_or_ge c (a+aN l) with q|q
        · exact absurd (oV rfl (c-a) (by omega) (by omega)) h
        · exact q
      · have q:a+aN l<=c:=by
          rcases Nat.lt_or_ge c (a+aN l) with q|q
          · exact absurd (oV rfl (c-a) (by omega) (by omega)) h
          · exact q
        rw[List.getD_eq_getElem?_getD,List.getElem?_drop,show aN l+(c-(a+aN l))=c-a by omega,<-List.getD_eq_getElem?_getD];exact h
theorem tM (h:c∈b8 s):mO s (c+aN (s.drop c))/\∀d,c<d->d<c+aN (s.drop c)->¬mO s d:=by
  have k:=rD s.length s 0 c (Nat.le_refl _) h;rw[Nat.sub_zero,Nat.zero_add] at k;refine⟨k.1,fun d h1 h2 h3=>?_⟩;have hc:=gx h;have hr:=cv (l:=s.drop c) (by intro e;have:=congrArg List.length e;rw[List.length_drop,List.length_nil] at this;omega);rw[List.length_drop] at hr
  rcases h3 with h3|h3
  · exact k.2 d h1 h2 h3
  · omega
theorem BK (h:mO s p) (hp:0<p):∃q∈b8 s,q+aN (s.drop q)=p:=by
  obtain⟨q,h1,h2⟩:=rC s.length s 0 p (Nat.le_refl _) hp (by rcases h with h|h;exact .inl h;exact .inr (by omega));exact⟨q,h1,by simpa using h2⟩
theorem Ao (hc:c<s.length) (h:¬(s.getD c 0).toNat / 64=2):c∈b8 s :=
  pV s.length s 0 c (Nat.le_refl _) (Nat.zero_le _) (by omega) (by rw[Nat.sub_zero];exact h)
theorem DH (b:UInt8):Lib.runeStartB b=decide (¬b.toNat / 64=2):=by unfold Lib.runeStartB;rw[Bool.eq_iff_iff];simp
theorem F4 {i:Nat}(h:i<p):(s.take p).getD i 0=s.getD i 0:=by rw[List.getD_eq_getElem?_getD,List.getD_eq_getElem?_getD,List.getElem?_take_of_lt h]
theorem gN (s:By) (q i:Nat):(s.drop q).getD i 0=s.getD (q+i) 0:=by rw[List.getD_eq_getElem?_getD,List.getD_eq_getElem?_getD,List.getElem?_drop]
theorem GK {q:Nat}(hq:q∈b8 s) (hn:aN (s.drop q)=n):(Lib.decodeLastL (s.take (q+n))).2=n:=by
  have hqs:=gx hq;have hne:s.drop q≠[]:=by intro e;have:=congrArg List.length e;rw[List.length_drop,List.length_nil] at this;omega
  have hr:=cv hne;rw[List.length_drop,hn] at hr;have hlen:(s.take (q+n)).length=q+n:=by rw[List.length_take];omega
  have hnil:s.take (q+n)≠[]:=by intro e;rw[e] at hlen;simp only[List.length_nil] at hlen;omega
  have hg:∀i,i<q+n->(s.take (q+n)).getD i 0=s.getD i 0:=fun i hi=>F4 hi
  have h4:=oW (s.drop q);unfold Lib.decodeLastL;rw[if_neg hnil,hlen,hg _ (by omega)]
  rcases Nat.lt_or_ge n 2 with h2|h2
  · have hn1:n=1:=by omega
    subst hn1;split
    · rfl
    · simp only[qM];split
      · rename_i hb e;generalize hst:Lib.lastStart (s.take (q+1))=st at e;have hdl:((s.take (q+1)).drop st).length=q+1-st:=by rw[List.length_drop,hlen]
        by_cases hm:2<=aN ((s.take (q+1)).drop st)
        · exfalso;have hd:=ze hm;simp only[gN,Nat.add_zero] at hd;rw[hg st (by omega)] at hd;have hin:=Ao (c:=st) (by omega) hd.1;have e2:(s.take (q+1)).drop st=(s.drop st).take (q+1-st):=by rw[List.drop_take]
          have hk:aN (s.drop st)=q+1-st:=by
            refine Gi (n:=q+1-st) ?_ (by omega) (by rw[List.length_drop];omega);rw[<-e2];omega
          exact(tM hin).2 q (by omega) (by omega) (.inl hq)
        · have:1<=aN ((s.take (q+1)).drop st):=qL _ _ _ _ _;omega
      · rfl
  · have hcut:=Ik hn h2 (by rw[List.length_drop];omega);have e2:(s.take (q+n)).drop q=(s.drop q).take n:=by rw[List.drop_take,Nat.add_sub_cancel_left]
    have hlast:=oV hn (n-1) (by omega) (by omega);rw[gN,show q+(n-1)=q+n-1 by omega] at hlast;rw[if_neg (by omega)];have hhd:=ze (l:=s.drop q) (by omega);simp only[gN,Nat.add_zero] at hhd
    have hst:Lib.lastStart (s.take (q+n))=q:=by
      have hcon:∀i,1<=i->i<n->(s.getD (q+i) 0).toNat / 64=2:=fun i h1 h2=>by have:=oV hn i h1 h2;rwa [gN] at this
      have qn:n=2\/n=3\/n=4:=by omega
      unfold Lib.lastStart;simp only[hlen,DH];rw[if_neg (by omega)]
      rcases qn with rfl|rfl|rfl
      · rw[show q+2-2=q by omega,hg q (by omega),if_pos (decide_eq_true hhd.1)]
      · rw[show q+3-2=q+1 by omega,hg _ (by omega),if_neg (by rw[hcon 1 (by omega) (by omega)];simp),if_neg (by omega),show q+3-3=q by omega,hg q (by omega),if_pos (decide_eq_true hhd.1)]
      · rw[show q+4-2=q+2 by omega,hg _ (by omega),if_neg (by rw[hcon 2 (by omega) (by omega)];simp),if_neg (by omega),show q+4-3=q+1 by omega,hg _ (by omega),if_neg (by rw[hcon 1 (by omega) (by omega)];simp),if_neg (by omega),show q+4-4=q by omega,hg q (by omega),if_pos (decide_eq_true hhd.1)]
    simp only[qM,hst,e2,hcut.1];rfl
theorem Ft (h:mO s p):mO s (ij s p):=by
  by_cases h0:p=0
  · unfold ij;rw[if_pos (.inl h0)];exact h
  · obtain⟨q,h1,h2⟩:=BK h (by omega)
    have hp:p<=s.length:=by
      rcases h with h|h
      · have:=gx h;omega
      · omega
    have:=GK h1 rfl;rw[h2] at this;unfold ij;rw[if_neg (by omega),this,show p-aN (s.drop q)=q by omega];exact .inl h1
def iU:By->Nat->Nat->Nat
  | [],_,o=>o
  |c::l,k,o=>iU l (k+1) (if c=10 then k+1 else o)
def aW (s:By) (a:Nat):Nat:=iU (s.take a) 0 0
def eI (s:By) (a:Nat):Nat:=a+((s.drop a).takeWhile (fun c=>decide (c≠10))).length
def dF (s:By) (a:Nat):Nat:=((b8 s).takeWhile (fun k=>decide (k<a))).length
def kJ (s:By) (n:Int):Nat:=if n<1 then 0 else (b8 s).getD n.toNat s.length
def gD (c:Int) (d:Int):Bool:=decide (d=c) && decide (0<d)
def kX (so:Int->Bool) (s:By):Nat->Nat->Nat
  | 0,a=>a
  |n+1,a=>if 0<=eR s a/\so (eR s a)=true then kX so s n (cw s a) else a
def cI (so:Int->Bool) (s:By) (a:Nat):Nat:=kX so s (s.length-a) a
def mW (so:Int->Bool) (s:By):Nat->Nat->Nat
  | 0,a=>a
  |n+1,a=>if 0<=fU s a/\so (fU s a)=true then mW so s n (ij s a) else a
def gY (so:Int->Bool) (s:By) (a:Nat):Nat:=mW so s a a
def nX (s:By) (a:Nat) (up:Bool):Nat :=
  if up=true then (if aW s a=0 then a else let t:=aW s (aW s a-1);min (kJ s ((dF s t:Int)+((dF s a:Int)-(dF s (aW s a):Nat)))) (eI s t))
  else (if s.length<eI s a+1 then a else let t:=aW s (eI s a+1);min (kJ s ((dF s t:Int)+((dF s a:Int)-(dF s (aW s a):Nat)))) (eI s t))
def dZ (c:Int):Bool:=decide (c=0)
def FZ (c:Int):Bool:=decide (c=1)
def uD (c:Int):Bool:=decide (c≠1)
def E4 (s:By) (a:Nat):Nat :=
  let b:=cI dZ s (cw s a)
  let t:=cI (gD (eR s b)) s b
  if b<t then ij s t else b
def mS (s:By) (a:Nat) (w:Int):Nat :=
  if w=0 then ij s a else if w=1 then cw s a else if w=2 then aW s a else if w=3 then eI s a
  else if w=4 then nX s a true else if w=5 then nX s a false
  else if w=6 then cI FZ s (cI uD s a) else if w=7 then gY FZ s (gY uD s a)
  else if w=8 then cI dZ s (cI (gD (eR s a)) s a)
  else if w=9 then (let b:=gY dZ s a;gY (gD (fU s b)) s b)
  else if w=10 then E4 s a
  else if w=11 then min (cI dZ s (aW s a)) (eI s a)
  else if w=12 then 0 else if w=13 then s.length else a
def HV (s:By) (w:Int):Nat->Nat->Nat
  | 0,a=>a
  |n+1,a=>if mS s a w=a then a else HV s w n (mS s a w)
def lV (s:By) (a:Int) (w n:Int):Nat:=HV s w (min (max n 0) 1000).toNat (fG s a)
theorem yY:∀(l:By) (k o:Nat),o<=k->iU l k o<=k+l.length
  | [],k,o,h=>by simpa [iU] using h
  |c::l,k,o,h=>by
    rw[iU,List.length_cons];have:=yY l (k+1) (if c=10 then k+1 else o) (by split<;>omega);omega
theorem gL (s:By) (a:Nat):aW s a<=a/\aW s a<=s.length:=by
  have:=yY (s.take a) 0 0 (Nat.le_refl 0);rw[List.length_take] at this;unfold aW;omega
theorem mz (h:a<=s.length):a<=eI s a/\eI s a<=s.length:=by
  have:=List.Sublist.length_le (List.takeWhile_sublist (fun c=>decide (c≠10)) (l:=s.drop a));rw[List.length_drop] at this;unfold eI;omega
theorem gM (h:a<=s.length):a<=cw s a/\cw s a<=s.length:=by
  unfold cw;split
  · omega
  · have:=cv (l:=s.drop a) (by intro e;have:=congrArg List.length e;rw[List.length_drop,List.length_nil] at this;omega);rw[List.length_drop] at this;omega
theorem vO (h:a<s.length):a<cw s a:=by
  unfold cw;rw[if_neg (by omega)];have:=cv (l:=s.drop a) (by intro e;have:=congrArg List.length e;rw[List.length_drop,List.length_nil] at this;omega);omega
theorem wK (l:By) (h:l≠[]):1<=(Lib.decodeLastL l).2/\(Lib.decodeLastL l).2<=l.length:=by
  have hp:=List.length_pos_iff.2 h;unfold Lib.decodeLastL;rw[if_neg h];split
  · simp only;omega
  · simp only;split
    · rename_i e;rw[qM] at e ⊢;simp only at e ⊢;have:=qL (l.drop (Lib.lastStart l)).length ((l.drop (Lib.lastStart l)).getD 0 0).toNat ((l.drop (Lib.lastStart l)).getD 1 0).toNat ((l.drop (Lib.lastStart l)).getD 2 0).toNat ((l.drop (Lib.lastStart l)).getD 3 0).toNat;unfold aN at e ⊢;omega
    · simp only;omega
theorem rV (s:By) (a:Nat):ij s a<=a:=by unfold ij;split<;>omega
theorem AP (h0:0<a) (h:a<=s.length):ij s a<a:=by
  unfold ij;rw[if_neg (by omega)];have:=wK (s.take a) (by intro e;have:=congrArg List.length e;rw[List.length_take,List.length_nil] at this;omega);omega
theorem A4 (h:0<=eR s a):a<s.length:=by
  unfold eR at h;split at h
  · omega
  · omega
theorem sJ (h:0<=fU s a):0<a/\a<=s.length:=by
  unfold fU at h;split at h
  · omega
  · omega
theorem qt {so:Int->Bool}{s:By}:∀(n a:Nat),s.length<=n+a->kX so s n a=kX so s (s.length-a) a
  | 0,a,h=>by rw[show s.length-a=0 by omega]
  |n+1,a,h=>by
    rcases Nat.lt_or_ge a s.length with q|q
    · obtain⟨k,hk⟩:∃k,s.length-a=k+1:=⟨s.length-a-1,by omega⟩
      rw[hk,kX,kX];split
      · have:=vO q;rw[qt n _ (by omega),qt k _ (by omega)]
      · rfl
    · rw[show s.length-a=0 by omega,kX,kX,if_neg];rintro⟨h1,_⟩;have:=A4 h1;omega
  termination_by n a=>n
theorem Gg (h:0<=eR s a) (h2:so (eR s a)=true):cI so s a=cI so s (cw s a):=by
  have q:=A4 h;have:=vO q;unfold cI;obtain⟨k,hk⟩:∃k,s.length-a=k+1:=⟨s.length-a-1,by omega⟩
  rw[hk,kX,if_pos ⟨h,h2⟩,qt k _ (by omega)]
theorem Gf (h:¬(0<=eR s a/\so (eR s a)=true)):cI so s a=a:=by
  unfold cI;cases s.length-a with
  |zero=>rfl
  |succ n=>rw[kX,if_neg h]
theorem BN {so:Int->Bool}{s:By}:∀(n a:Nat),a<=s.length->a<=kX so s n a/\kX so s n a<=s.length
  | 0,a,h=>⟨Nat.le_refl _,h⟩
  |n+1,a,h=>by
    rw[kX];split
    · have:=gM h;have:=BN (so:=so) n (cw s a) this.2;omega
    · omega
theorem fY (h:a<=s.length):a<=cI so s a/\cI so s a<=s.length:=BN _ _ h
theorem qU {so:Int->Bool}{s:By}:∀(n a:Nat),a<=n->mW so s n a=mW so s a a
  | 0,a,h=>by rw[show a=0 by omega]
  |n+1,a,h=>by
    cases a with
    |zero =>
      rw[mW,mW,if_neg];rintro⟨h1,_⟩;have:=sJ h1;omega
    |succ k =>
      rw[mW,mW];split
      · rename_i c;have q:=sJ c.1;have:=AP q.1 q.2;rw[qU n _ (by omega),qU k _ (by omega)]
      · rfl
  termination_by n a=>n
theorem Hq (h:0<=fU s a) (h2:so (fU s a)=true):gY so s a=gY so s (ij s a):=by
  have q:=sJ h;have:=AP q.1 q.2;unfold gY;obtain⟨k,hk⟩:∃k,a=k+1:=⟨a-1,by omega⟩
  conv=>lhs;rw[hk,mW,<-hk,if_pos ⟨h,h2⟩,qU k _ (by omega)]
theorem Hp (h:¬(0<=fU s a/\so (fU s a)=true)):gY so s a=a:=by
  unfold gY;cases a with
  |zero=>rfl
  |succ n=>rw[mW,if_neg h]
theorem C7 {so:Int->Bool}{s:By}:∀(n a:Nat),mW so s n a<=a
  | 0,a=>Nat.le_refl _
  |n+1,a=>by
    rw[mW];split
    · have:=rV s a;have:=C7 (so:=so) (s:=s) n (ij s a);omega
    · omega
theorem oI:gY so s a<=a:=C7 _ _
theorem A5:∀(l:List Nat) (a:Int) (o:Nat),(∀k∈l,k∈l)->l.foldl (fun(o k:Nat)=>if (k:Int)<=a then k else o) o∈l\/l.foldl (fun(o k:Nat)=>if (k:Int)<=a then k else o) o=o
  | [],_,_,_=>.inr rfl
  |x::l,a,o,_=>by
    rw[List.foldl_cons]
    rcases A5 l a (if (x:Int)<=a then x else o) (fun _ h=>h) with h|h
    · exact .inl (List.mem_cons_of_mem _ h)
    · rw[h];split
      · exact .inl List.mem_cons_self
      · exact .inr rfl
theorem BJ (h:s≠[]):0∈b8 s:=by
  unfold b8;obtain⟨c,t,rfl⟩:=List.exists_cons_of_ne_nil h;rw[List.length_cons,bf,if_neg (by simp)];exact List.mem_cons_self
theorem mw (s:By) (a:Int):mO s (fG s a):=by
  unfold fG;split
  · exact .inr rfl
  · rcases A5 (b8 s) a 0 (fun _ h=>h) with h|h
    · exact .inl h
    · rw[h]
      by_cases hs:s=[]
      · subst hs;exact .inr rfl
      · exact .inl (BJ hs)
theorem tS (h:mO s a):a<=s.length:=by
  rcases h with h|h
  · have:=gx h;omega
  · omega
theorem uV (s:By) (a:Int):fG s a<=s.length:=tS (mw s a)
theorem zl (s:By) (n:Int):kJ s n<=s.length:=by
  unfold kJ;split
  · omega
  · rw[List.getD_eq_getElem?_getD];cases h:(b8 s)[n.toNat]? with
    |none=>simp
    |some v =>
      have:=gx (List.mem_of_getElem? h);simp only[Option.getD_some];omega
theorem Cp (h:a<=s.length) (up:Bool):nX s a up<=s.length:=by
  unfold nX;split
  · split
    · exact h
    · exact Nat.le_trans (Nat.min_le_left _ _) (zl _ _)
  · split
    · exact h
    · exact Nat.le_trans (Nat.min_le_left _ _) (zl _ _)
theorem eX {c:Prop}[Decidable c]{x y m:Nat}(h1:x<=m) (h2:y<=m):(if c then x else y)<=m:=by split<;>assumption
theorem Cb (h:a<=s.length) (w:Int):mS s a w<=s.length:=by
  have hr:=gM h;have hb:∀(f g:Int->Bool),gY f s (gY g s a)<=s.length:=fun f g=>Nat.le_trans oI (Nat.le_trans oI h)
  have hs:∀(f g:Int->Bool),cI f s (cI g s a)<=s.length:=fun f g=>(fY (fY h).2).2
  unfold mS;refine eX (Nat.le_trans (rV s a) h) (eX hr.2 (eX (gL s a).2 (eX (mz h).2 (eX (Cp h _) (eX (Cp h _) (eX (hs _ _) (eX (hb _ _) (eX (hs _ _) (eX (hb _ _) (eX ?_ (eX (Nat.le_trans (Nat.min_le_right _ _) (mz h).2) (eX (Nat.zero_le _) (eX (Nat.le_refl _) h)))))))))))));unfold E4;have h1:=fY (so:=dZ) hr.2;have h2:=fY (so:=gD (eR s (cI dZ s (cw s a)))) h1.2;simp only;exact eX (Nat.le_trans (rV _ _) h2.2) h1.2
theorem HU {s:By}{w:Int}:∀(n a:Nat),a<=s.length->HV s w n a<=s.length
  | 0,_,h=>h
  |n+1,a,h=>by
    rw[HV];split
    · exact h
    · exact HU n _ (Cb h w)
theorem vv (s:By) (a w n:Int):lV s a w n<=s.length:=HU _ _ (uV s a)
end
end Go.Proofs.YtpjgdgdnbkjoiaaGreatDoor

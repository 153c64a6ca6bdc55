/- What the proof of the statement leans on (part 22). -/
import Derived.Lib.SpaceU
import Derived.Test.YtpjgdgdnbkjoiaaGreatDoorQu

namespace Go.Proofs.YtpjgdgdnbkjoiaaGreatDoor
open Go
section
variable {l s:By}{n c p a:Nat}{so:Int->Bool}
def pX (l:By):Nat:=(Lib.decodeN l.length (l.getD 0 0).toNat (l.getD 1 0).toNat (l.getD 2 0).toNat (l.getD 3 0).toNat).1
def yU (r:Nat):Int:=if r=32\/r=9\/r=10\/r=13 then 0 else if (48<=r/\r<=57)\/(65<=r/\r<=90)\/(97<=r/\r<=122)\/r=95\/128<=r then 1 else 2
def aY:Nat->By->Nat->List Nat
  | 0,_,_=>[]
  |n+1,l,a=>if l=[] then [] else a::aY n (l.drop (aN l)) (a+aN l)
def b7 (s:By):List Nat:=aY s.length s 0
def eT (s:By) (a:Int):Nat:=if (s.length:Int)<=a then s.length else (b7 s).foldl (fun(o k:Nat)=>if (k:Int)<=a then k else o) 0
def gu (s:By) (a:Nat):Nat:=if a=0\/s.length<a then a else a-(Lib.decodeLastL (s.take a)).2
def cx (s:By) (a:Nat):Nat:=if s.length<=a then a else a+aN (s.drop a)
def eS (s:By) (a:Nat):Int:=if s.length<=a then -1 else yU (pX (s.drop a))
def gf (s:By) (a:Nat):Int:=if a=0\/s.length<a then -1 else yU (Lib.decodeLastL (s.take a)).1
def mq (s:By) (a:Nat):Prop:=a∈b7 s\/a=s.length
theorem qU (l:By):Lib.decodeL l=(pX l,aN l):=by
  unfold Lib.decodeL pX aN;rw[Lib.decode_at]
  have e:∀i,(ByteArray.get! ⟨l.toArray⟩ i)=l.getD i 0:=fun i=>by
    show (l.toArray)[i]! =_
    rw[getElem!_def,List.getElem?_toArray,List.getD_eq_getElem?_getD];cases l[i]? <;>rfl
  rw[e,e,e,e];rfl
theorem pz (h:aN l=n) (i:Nat) (h1:1<=i) (h2:i<n):(l.getD i 0).toNat / 64=2:=by
  unfold aN Lib.decodeN at h;have q:i=1\/i=2\/i=3\/4<=i:=by omega
  repeat' split at h
  all_goals first
    |(exfalso;simp only at h;omega)
    |(simp only at h;rename_i c _;rcases q with rfl|rfl|rfl|q<;>first|exact c.2.2|exact c.2.1.2|exact c.2.2.2|exact c.2.2.1.2|exact c.2.2.2.2|(exfalso;omega))
theorem tr (h:2<=aN l):¬(l.getD 0 0).toNat / 64=2/\128<=(l.getD 0 0).toNat:=by
  unfold aN Lib.decodeN at h
  repeat' split at h
  all_goals first|(exfalso;simp only at h;omega)|(constructor<;>omega)
theorem pE (l:By):aN l<=4:=by
  unfold aN Lib.decodeN
  repeat' split
  all_goals simp
theorem Io (h:aN l=n) (h2:2<=n) (hl:n<=l.length):aN (l.take n)=n/\pX (l.take n)=pX l:=by
  have g:∀i,i<n->(l.take n).getD i 0=l.getD i 0:=fun i hi=>by rw[List.getD_eq_getElem?_getD,List.getD_eq_getElem?_getD,List.getElem?_take_of_lt hi]
  have hlen:(l.take n).length=n:=by rw[List.length_take];omega
  have h4:=pE l;unfold aN pX at *;rw[hlen,g 0 (by omega),g 1 (by omega)];have q:n=2\/n=3\/n=4:=by omega
  rcases q with rfl|rfl|rfl
  · unfold Lib.decodeN at *
    repeat' split at h
    all_goals first|(exfalso;simp only at h;omega)|skip
    all_goals (rw[if_neg (by assumption),if_pos (by omega),if_pos (by assumption)];refine⟨rfl,?_⟩;repeat' split;all_goals first|rfl|(exfalso;omega))
  · rw[g 2 (by omega)];unfold Lib.decodeN at *
    repeat' split at h
    all_goals first|(exfalso;simp only at h;omega)|skip
    all_goals (rw[if_neg (by assumption),if_neg (by omega),if_pos (by omega),if_pos (by assumption)];refine⟨rfl,?_⟩;repeat' split;all_goals first|rfl|(exfalso;omega))
  · rw[g 2 (by omega),g 3 (by omega)];unfold Lib.decodeN at *
    repeat' split at h
    all_goals first|(exfalso;simp only at h;omega)|skip
    all_goals (rw[if_neg (by assumption),if_neg (by omega),if_neg (by omega),if_pos (by omega),if_pos (by assumption)];refine⟨rfl,?_⟩;repeat' split;all_goals first|rfl|(exfalso;omega))
theorem Gv (h:aN (l.take n)=n) (h2:2<=n) (hl:n<=l.length):aN l=n:=by
  have g:∀i,i<n->(l.take n).getD i 0=l.getD i 0:=fun i hi=>by rw[List.getD_eq_getElem?_getD,List.getD_eq_getElem?_getD,List.getElem?_take_of_lt hi]
  have hlen:(l.take n).length=n:=by rw[List.length_take];omega
  have h4:=pE (l.take n);have q:n=2\/n=3\/n=4:=by omega
  unfold aN at *;rw[hlen,g 0 (by omega),g 1 (by omega)] at h
  rcases q with rfl|rfl|rfl
  · unfold Lib.decodeN at *
    repeat' split at h
    all_goals first|(exfalso;simp only at h;omega)|skip
    all_goals (rw[if_neg (by assumption),if_pos (by omega),if_pos (by assumption)])
  · rw[g 2 (by omega)] at h;unfold Lib.decodeN at *
    repeat' split at h
    all_goals first|(exfalso;simp only at h;omega)|skip
    all_goals (rw[if_neg (by assumption),if_neg (by omega),if_pos (by omega),if_pos (by assumption)])
  · rw[g 2 (by omega),g 3 (by omega)] at h;unfold Lib.decodeN at *
    repeat' split at h
    all_goals first|(exfalso;simp only at h;omega)|skip
    all_goals (rw[if_neg (by assumption),if_neg (by omega),if_neg (by omega),if_pos (by omega),if_pos (by assumption)])
theorem eD:∀(n:Nat) (l:By) (a c:Nat),c∈aY n l a->a<=c/\c<a+l.length
  | 0,_,_,_,h=>by simp[aY] at h
  |n+1,l,a,c,h=>by
    rw[aY] at h;split at h
    · simp at h
    · rename_i hl;have hp:=List.length_pos_iff.2 hl;have hr:=ct hl
      rcases List.mem_cons.1 h with rfl|h
      · omega
      · have:=eD n _ _ c h;rw[List.length_drop] at this;omega
theorem fD (h:c∈b7 s):c<s.length:=by have:=eD _ _ _ _ h;omega
theorem rN:∀(n:Nat) (l:By) (a c:Nat),l.length<=n->c∈aY n l a ->
    (c+aN (l.drop (c-a))∈aY n l a\/c+aN (l.drop (c-a))=a+l.length)/\∀d,c<d->d<c+aN (l.drop (c-a))->d∉aY n l a
  | 0,_,_,_,_,h=>by simp[aY] at h
  |n+1,l,a,c,hn,h=>by
    rw[aY] at h ⊢;split at h
    · simp at h
    · rename_i hl;rw[if_neg hl];have hp:=List.length_pos_iff.2 hl;have hr:=ct hl;have hd:(l.drop (aN l)).length=l.length-aN l:=List.length_drop
      rcases List.mem_cons.1 h with rfl|h
      · rw[Nat.sub_self,List.drop_zero];refine⟨?_,fun d h1 h2 h3=>?_⟩
        · by_cases e:l.drop (aN l)=[]
          · right;rw[e] at hd;simp only[List.length_nil] at hd;omega
          · left
            refine List.mem_cons_of_mem _ ?_;cases n with
            |zero=>exact absurd (List.length_eq_zero_iff.1 (by omega)) e
            |succ n=>rw[aY,if_neg e];exact List.mem_cons_self
        · rcases List.mem_cons.1 h3 with rfl|h3
          · omega
          · have:=eD _ _ _ _ h3;omega
      · have hm:=eD _ _ _ _ h;have ih:=rN n (l.drop (aN l)) (a+aN l) c (by omega) h;rw[List.drop_drop,show aN l+(c-(a+aN l))=c-a by omega] at ih;refine⟨ih.1.imp (List.mem_cons_of_mem _) (fun e=>by omega),fun d h1 h2 h3=>?_⟩
        rcases List.mem_cons.1 h3 with rfl|h3
        · omega
        · exact ih.2 d h1 h2 h3
theorem rM:∀(n:Nat) (l:By) (a p:Nat),l.length<=n->a<p->(p∈aY n l a\/p=a+l.length)->∃q∈aY n l a,q+aN (l.drop (q-a))=p
  | 0,l,a,p,hn,h1,h=>by
    rcases h with h|h
    · simp[aY] at h
    · omega
  |n+1,l,a,p,hn,h1,h=>by
    have hl:l≠[]:=by
      rintro rfl
      rcases h with h|h
      · simp[aY] at h
      · simp only[List.length_nil] at h;omega
    have hr:=ct hl;have hd:(l.drop (aN l)).length=l.length-aN l:=List.length_drop;rw[aY,if_neg hl] at h ⊢
    rcases Nat.lt_trichotomy p (a+aN l) with q|q|q
    · exfalso
      rcases h with h|h
      · rcases List.mem_cons.1 h with h|h
        · omega
        · have:=eD _ _ _ _ h;omega
      · omega
    · exact⟨a,List.mem_cons_self,by rw[Nat.sub_self,List.drop_zero];omega⟩
    · obtain⟨x,hx,he⟩:=rM n (l.drop (aN l)) (a+aN l) p (by omega) q (by
        rcases h with h|h
        · rcases List.mem_cons.1 h with h|h
          · omega
          · exact .inl h
        · right;omega)
      have hm:=eD _ _ _ _ hx;rw[List.drop_drop,show aN l+(x-(a+aN l))=x-a by omega] at he;exact⟨x,List.mem_cons_of_mem _ hx,he⟩
theorem qe:∀(n:Nat) (l:By) (a c:Nat),l.length<=n->a<=c->c<a+l.length->¬(l.getD (c-a) 0).toNat / 64=2->c∈aY n l a
  | 0,l,a,c,hn,h1,h2,_=>by omega
  |n+1,l,a,c,hn,h1,h2,h=>by
    have hl:l≠[]:=by rintro rfl;simp only[List.length_nil] at h2;omega
    have hr:=ct hl;have hd:(l.drop (aN l)).length=l.length-aN l:=List.length_drop;rw[aY,if_neg hl]
    by_cases e:c=a
    · rw[e];exact List.mem_cons_self
    · refine List.mem_cons_of_mem _ (qe n _ _ c (by omega) ?_ (by omega) ?_)
      · rcases Nat.lt_or_ge c (a+aN l) with q|q
        · exact absurd (pz rfl (c-a) (by omega) (by omega)) h
        · exact q
      · have q:a+aN l<=c:=by
          rcases Nat.lt_or_ge c (a+aN l) with q|q
          · exact absurd (pz rfl (c-a) (by omega) (by omega)) h
          · exact q
        rw[List.getD_eq_getElem?_getD,List.getElem?_drop,show aN l+(c-(a+aN l))=c-a by omega,<-List.getD_eq_getElem?_getD];exact h
theorem uf (h:c∈b7 s):mq s (c+aN (s.drop c))/\∀d,c<d->d<c+aN (s.drop c)->¬mq s d:=by
  have k:=rN s.length s 0 c (Nat.le_refl _) h;rw[Nat.sub_zero,Nat.zero_add] at k;refine⟨k.1,fun d h1 h2 h3=>?_⟩;have hc:=fD h;have hr:=ct (l:=s.drop c) (by intro e;have:=congrArg List.length e;rw[List.length_drop,List.length_nil] at this;omega);rw[List.length_drop] at hr
  rcases h3 with h3|h3
  · exact k.2 d h1 h2 h3
  · omega
theorem ue (h:mq s p) (hp:0<p):∃q∈b7 s,q+aN (s.drop q)=p:=by
  obtain⟨q,h1,h2⟩:=rM s.length s 0 p (Nat.le_refl _) hp (by rcases h with h|h;exact .inl h;exact .inr (by omega));exact⟨q,h1,by simpa using h2⟩
theorem rK (hc:c<s.length) (h:¬(s.getD c 0).toNat / 64=2):c∈b7 s :=
  qe s.length s 0 c (Nat.le_refl _) (Nat.zero_le _) (by omega) (by rw[Nat.sub_zero];exact h)
theorem DU (b:UInt8):Lib.runeStartB b=decide (¬b.toNat / 64=2):=by unfold Lib.runeStartB;rw[Bool.eq_iff_iff];simp
theorem Gg {i:Nat}(h:i<p):(s.take p).getD i 0=s.getD i 0:=by rw[List.getD_eq_getElem?_getD,List.getD_eq_getElem?_getD,List.getElem?_take_of_lt h]
theorem fP (s:By) (q i:Nat):(s.drop q).getD i 0=s.getD (q+i) 0:=by rw[List.getD_eq_getElem?_getD,List.getD_eq_getElem?_getD,List.getElem?_drop]
theorem zU {q:Nat}(hq:q∈b7 s) (hn:aN (s.drop q)=n):(Lib.decodeLastL (s.take (q+n))).2=n:=by
  have hqs:=fD hq;have hne:s.drop q≠[]:=by intro e;have:=congrArg List.length e;rw[List.length_drop,List.length_nil] at this;omega
  have hr:=ct hne;rw[List.length_drop,hn] at hr;have hlen:(s.take (q+n)).length=q+n:=by rw[List.length_take];omega
  have hnil:s.take (q+n)≠[]:=by intro e;rw[e] at hlen;simp only[List.length_nil] at hlen;omega
  have hg:∀i,i<q+n->(s.take (q+n)).getD i 0=s.getD i 0:=fun i hi=>Gg hi
  have h4:=pE (s.drop q);unfold Lib.decodeLastL;rw[if_neg hnil,hlen,hg _ (by omega)]
  rcases Nat.lt_or_ge n 2 with h2|h2
  · have hn1:n=1:=by omega
    subst hn1;split
    · rfl
    · simp only[qU];split
      · rename_i hb e;generalize hst:Lib.lastStart (s.take (q+1))=st at e;have hdl:((s.take (q+1)).drop st).length=q+1-st:=by rw[List.length_drop,hlen]
        by_cases hm:2<=aN ((s.take (q+1)).drop st)
        · exfalso;have hd:=tr hm;simp only[fP,Nat.add_zero] at hd;rw[hg st (by omega)] at hd;have hin:=rK (c:=st) (by omega) hd.1;have e2:(s.take (q+1)).drop st=(s.drop st).take (q+1-st):=by rw[List.drop_take]
          have hk:aN (s.drop st)=q+1-st:=by
            refine Gv (n:=q+1-st) ?_ (by omega) (by rw[List.length_drop];omega);rw[<-e2];omega
          exact(uf hin).2 q (by omega) (by omega) (.inl hq)
        · have:1<=aN ((s.take (q+1)).drop st):=qT _ _ _ _ _;omega
      · rfl
  · have hcut:=Io hn h2 (by rw[List.length_drop];omega);have e2:(s.take (q+n)).drop q=(s.drop q).take n:=by rw[List.drop_take,Nat.add_sub_cancel_left]
    have hlast:=pz hn (n-1) (by omega) (by omega);rw[fP,show q+(n-1)=q+n-1 by omega] at hlast;rw[if_neg (by omega)];have hhd:=tr (l:=s.drop q) (by omega);simp only[fP,Nat.add_zero] at hhd
    have hst:Lib.lastStart (s.take (q+n))=q:=by
      have hcon:∀i,1<=i->i<n->(s.getD (q+i) 0).toNat / 64=2:=fun i h1 h2=>by have:=pz hn i h1 h2;rwa [fP] at this
      have qn:n=2\/n=3\/n=4:=by omega
      unfold Lib.lastStart;simp only[hlen,DU];rw[if_neg (by omega)]
      rcases qn with rfl|rfl|rfl
      · rw[show q+2-2=q by omega,hg q (by omega),if_pos (decide_eq_true hhd.1)]
      · rw[show q+3-2=q+1 by omega,hg _ (by omega),if_neg (by rw[hcon 1 (by omega) (by omega)];simp),if_neg (by omega),show q+3-3=q by omega,hg q (by omega),if_pos (decide_eq_true hhd.1)]
      · rw[show q+4-2=q+2 by omega,hg _ (by omega),if_neg (by rw[hcon 2 (by omega) (by omega)];simp),if_neg (by omega),show q+4-3=q+1 by omega,hg _ (by omega),if_neg (by rw[hcon 1 (by omega) (by omega)];simp),if_neg (by omega),show q+4-4=q by omega,hg q (by omega),if_pos (decide_eq_true hhd.1)]
    simp only[qU,hst,e2,hcut.1];rfl
theorem FE (h:mq s p):mq s (gu s p):=by
  by_cases h0:p=0
  · unfold gu;rw[if_pos (.inl h0)];exact h
  · obtain⟨q,h1,h2⟩:=ue h (by omega)
    have hp:p<=s.length:=by
      rcases h with h|h
      · have:=fD h;omega
      · omega
    have:=zU h1 rfl;rw[h2] at this;unfold gu;rw[if_neg (by omega),this,show p-aN (s.drop q)=q by omega];exact .inl h1
def jg:By->Nat->Nat->Nat
  | [],_,o=>o
  |c::l,k,o=>jg l (k+1) (if c=10 then k+1 else o)
def aT (s:By) (a:Nat):Nat:=jg (s.take a) 0 0
def eJ (s:By) (a:Nat):Nat:=a+((s.drop a).takeWhile (fun c=>decide (c≠10))).length
def dG (s:By) (a:Nat):Nat:=((b7 s).takeWhile (fun k=>decide (k<a))).length
def lA (s:By) (n:Int):Nat:=if n<1 then 0 else (b7 s).getD n.toNat s.length
def gL (c:Int) (d:Int):Bool:=decide (d=c) && decide (0<d)
def lM (so:Int->Bool) (s:By):Nat->Nat->Nat
  | 0,a=>a
  |n+1,a=>if 0<=eS s a/\so (eS s a)=true then lM so s n (cx s a) else a
def cN (so:Int->Bool) (s:By) (a:Nat):Nat:=lM so s (s.length-a) a
def nF (so:Int->Bool) (s:By):Nat->Nat->Nat
  | 0,a=>a
  |n+1,a=>if 0<=gf s a/\so (gf s a)=true then nF so s n (gu s a) else a
def ij (so:Int->Bool) (s:By) (a:Nat):Nat:=nF so s a a
def oB (s:By) (a:Nat) (up:Bool):Nat :=
  if up=true then (if aT s a=0 then a else let t:=aT s (aT s a-1);min (lA s ((dG s t:Int)+((dG s a:Int)-(dG s (aT s a):Nat)))) (eJ s t))
  else (if s.length<eJ s a+1 then a else let t:=aT s (eJ s a+1);min (lA s ((dG s t:Int)+((dG s a:Int)-(dG s (aT s a):Nat)))) (eJ s t))
def ef (c:Int):Bool:=decide (c=0)
def Gc (c:Int):Bool:=decide (c=1)
def uT (c:Int):Bool:=decide (c≠1)
def Fh (s:By) (a:Nat):Nat :=
  let b:=cN ef s (cx s a)
  let t:=cN (gL (eS s b)) s b
  if b<t then gu s t else b
def nC (s:By) (a:Nat) (w:Int):Nat :=
  if w=0 then gu s a else if w=1 then cx s a else if w=2 then aT s a else if w=3 then eJ s a
  else if w=4 then oB s a true else if w=5 then oB s a false
  else if w=6 then cN Gc s (cN uT s a) else if w=7 then ij Gc s (ij uT s a)
  else if w=8 then cN ef s (cN (gL (eS s a)) s a)
  else if w=9 then (let b:=ij ef s a;ij (gL (gf s b)) s b)
  else if w=10 then Fh s a
  else if w=11 then min (cN ef s (aT s a)) (eJ s a)
  else if w=12 then 0 else if w=13 then s.length else a
def H6 (s:By) (w:Int):Nat->Nat->Nat
  | 0,a=>a
  |n+1,a=>if nC s a w=a then a else H6 s w n (nC s a w)
def lJ (s:By) (a:Int) (w n:Int):Nat:=H6 s w (min (max n 0) 1000).toNat (eT s a)
theorem zu:∀(l:By) (k o:Nat),o<=k->jg l k o<=k+l.length
  | [],k,o,h=>by simpa [jg] using h
  |c::l,k,o,h=>by
    rw[jg,List.length_cons];have:=zu l (k+1) (if c=10 then k+1 else o) (by split<;>omega);omega
theorem gR (s:By) (a:Nat):aT s a<=a/\aT s a<=s.length:=by
  have:=zu (s.take a) 0 0 (Nat.le_refl 0);rw[List.length_take] at this;unfold aT;omega
theorem mT (h:a<=s.length):a<=eJ s a/\eJ s a<=s.length:=by
  have:=List.Sublist.length_le (List.takeWhile_sublist (fun c=>decide (c≠10)) (l:=s.drop a));rw[List.length_drop] at this;unfold eJ;omega
theorem gS (h:a<=s.length):a<=cx s a/\cx s a<=s.length:=by
  unfold cx;split
  · omega
  · have:=ct (l:=s.drop a) (by intro e;have:=congrArg List.length e;rw[List.length_drop,List.length_nil] at this;omega);rw[List.length_drop] at this;omega
theorem wg (h:a<s.length):a<cx s a:=by
  unfold cx;rw[if_neg (by omega)];have:=ct (l:=s.drop a) (by intro e;have:=congrArg List.length e;rw[List.length_drop,List.length_nil] at this;omega);omega
theorem wY (l:By) (h:l≠[]):1<=(Lib.decodeLastL l).2/\(Lib.decodeLastL l).2<=l.length:=by
  have hp:=List.length_pos_iff.2 h;unfold Lib.decodeLastL;rw[if_neg h];split
  · simp only;omega
  · simp only;split
    · rename_i e;rw[qU] at e ⊢;simp only at e ⊢;have:=qT (l.drop (Lib.lastStart l)).length ((l.drop (Lib.lastStart l)).getD 0 0).toNat ((l.drop (Lib.lastStart l)).getD 1 0).toNat ((l.drop (Lib.lastStart l)).getD 2 0).toNat ((l.drop (Lib.lastStart l)).getD 3 0).toNat;unfold aN at e ⊢;omega
    · simp only;omega
theorem sw (s:By) (a:Nat):gu s a<=a:=by unfold gu;split<;>omega
theorem A7 (h0:0<a) (h:a<=s.length):gu s a<a:=by
  unfold gu;rw[if_neg (by omega)];have:=wY (s.take a) (by intro e;have:=congrArg List.length e;rw[List.length_take,List.length_nil] at this;omega);omega
theorem Bj (h:0<=eS s a):a<s.length:=by
  unfold eS at h;split at h
  · omega
  · omega
theorem sX (h:0<=gf s a):0<a/\a<=s.length:=by
  unfold gf at h;split at h
  · omega
  · omega
theorem qB {so:Int->Bool}{s:By}:∀(n a:Nat),s.length<=n+a->lM so s n a=lM so s (s.length-a) a
  | 0,a,h=>by rw[show s.length-a=0 by omega]
  |n+1,a,h=>by
    rcases Nat.lt_or_ge a s.length with q|q
    · obtain⟨k,hk⟩:∃k,s.length-a=k+1:=⟨s.length-a-1,by omega⟩
      rw[hk,lM,lM];split
      · have:=wg q;rw[qB n _ (by omega),qB k _ (by omega)]
      · rfl
    · rw[show s.length-a=0 by omega,lM,lM,if_neg];rintro⟨h1,_⟩;have:=Bj h1;omega
  termination_by n a=>n
theorem Gt (h:0<=eS s a) (h2:so (eS s a)=true):cN so s a=cN so s (cx s a):=by
  have q:=Bj h;have:=wg q;unfold cN;obtain⟨k,hk⟩:∃k,s.length-a=k+1:=⟨s.length-a-1,by omega⟩
  rw[hk,lM,if_pos ⟨h,h2⟩,qB k _ (by omega)]
theorem Gs (h:¬(0<=eS s a/\so (eS s a)=true)):cN so s a=a:=by
  unfold cN;cases s.length-a with
  |zero=>rfl
  |succ n=>rw[lM,if_neg h]
theorem BV {so:Int->Bool}{s:By}:∀(n a:Nat),a<=s.length->a<=lM so s n a/\lM so s n a<=s.length
  | 0,a,h=>⟨Nat.le_refl _,h⟩
  |n+1,a,h=>by
    rw[lM];split
    · have:=gS h;have:=BV (so:=so) n (cx s a) this.2;omega
    · omega
theorem gp (h:a<=s.length):a<=cN so s a/\cN so s a<=s.length:=BV _ _ h
theorem rj {so:Int->Bool}{s:By}:∀(n a:Nat),a<=n->nF so s n a=nF so s a a
  | 0,a,h=>by rw[show a=0 by omega]
  |n+1,a,h=>by
    cases a with
    |zero =>
      rw[nF,nF,if_neg];rintro⟨h1,_⟩;have:=sX h1;omega
    |succ k =>
      rw[nF,nF];split
      · rename_i c;have q:=sX c.1;have:=A7 q.1 q.2;rw[rj n _ (by omega),rj k _ (by omega)]
      · rfl
  termination_by n a=>n
theorem Hu (h:0<=gf s a) (h2:so (gf s a)=true):ij so s a=ij so s (gu s a):=by
  have q:=sX h;have:=A7 q.1 q.2;unfold ij;obtain⟨k,hk⟩:∃k,a=k+1:=⟨a-1,by omega⟩
  conv=>lhs;rw[hk,nF,<-hk,if_pos ⟨h,h2⟩,rj k _ (by omega)]
theorem Hr (h:¬(0<=gf s a/\so (gf s a)=true)):ij so s a=a:=by
  unfold ij;cases a with
  |zero=>rfl
  |succ n=>rw[nF,if_neg h]
theorem Dg {so:Int->Bool}{s:By}:∀(n a:Nat),nF so s n a<=a
  | 0,a=>Nat.le_refl _
  |n+1,a=>by
    rw[nF];split
    · have:=sw s a;have:=Dg (so:=so) (s:=s) n (gu s a);omega
    · omega
theorem oW:ij so s a<=a:=Dg _ _
theorem Bk:∀(l:List Nat) (a:Int) (o:Nat),(∀k∈l,k∈l)->l.foldl (fun(o k:Nat)=>if (k:Int)<=a then k else o) o∈l\/l.foldl (fun(o k:Nat)=>if (k:Int)<=a then k else o) o=o
  | [],_,_,_=>.inr rfl
  |x::l,a,o,_=>by
    rw[List.foldl_cons]
    rcases Bk l a (if (x:Int)<=a then x else o) (fun _ h=>h) with h|h
    · exact .inl (List.mem_cons_of_mem _ h)
    · rw[h];split
      · exact .inl List.mem_cons_self
      · exact .inr rfl
theorem BS (h:s≠[]):0∈b7 s:=by
  unfold b7;obtain⟨c,t,rfl⟩:=List.exists_cons_of_ne_nil h;rw[List.length_cons,aY,if_neg (by simp)];exact List.mem_cons_self
theorem mS (s:By) (a:Int):mq s (eT s a):=by
  unfold eT;split
  · exact .inr rfl
  · rcases Bk (b7 s) a 0 (fun _ h=>h) with h|h
    · exact .inl h
    · rw[h]
      by_cases hs:s=[]
      · subst hs;exact .inr rfl
      · exact .inl (BS hs)
theorem uo (h:mq s a):a<=s.length:=by
  rcases h with h|h
  · have:=fD h;omega
  · omega
theorem vq (s:By) (a:Int):eT s a<=s.length:=uo (mS s a)
theorem zI (s:By) (n:Int):lA s n<=s.length:=by
  unfold lA;split
  · omega
  · rw[List.getD_eq_getElem?_getD];cases h:(b7 s)[n.toNat]? with
    |none=>simp
    |some v =>
      have:=fD (List.mem_of_getElem? h);simp only[Option.getD_some];omega
theorem Cy (h:a<=s.length) (up:Bool):oB s a up<=s.length:=by
  unfold oB;split
  · split
    · exact h
    · exact Nat.le_trans (Nat.min_le_left _ _) (zI _ _)
  · split
    · exact h
    · exact Nat.le_trans (Nat.min_le_left _ _) (zI _ _)
theorem eZ {c:Prop}[Decidable c]{x y m:Nat}(h1:x<=m) (h2:y<=m):(if c then x else y)<=m:=by split<;>assumption
theorem Cj (h:a<=s.length) (w:Int):nC s a w<=s.length:=by
  have hr:=gS h;have hb:∀(f g:Int->Bool),ij f s (ij g s a)<=s.length:=fun f g=>Nat.le_trans oW (Nat.le_trans oW h)
  have hs:∀(f g:Int->Bool),cN f s (cN g s a)<=s.length:=fun f g=>(gp (gp h).2).2
  unfold nC;refine eZ (Nat.le_trans (sw s a) h) (eZ hr.2 (eZ (gR s a).2 (eZ (mT h).2 (eZ (Cy h _) (eZ (Cy h _) (eZ (hs _ _) (eZ (hb _ _) (eZ (hs _ _) (eZ (hb _ _) (eZ ?_ (eZ (Nat.le_trans (Nat.min_le_right _ _) (mT h).2) (eZ (Nat.zero_le _) (eZ (Nat.le_refl _) h)))))))))))));unfold Fh;have h1:=gp (so:=ef) hr.2;have h2:=gp (so:=gL (eS s (cN ef s (cx s a)))) h1.2;simp only;exact eZ (Nat.le_trans (sw _ _) h2.2) h1.2
theorem HZ {s:By}{w:Int}:∀(n a:Nat),a<=s.length->H6 s w n a<=s.length
  | 0,_,h=>h
  |n+1,a,h=>by
    rw[H6];split
    · exact h
    · exact HZ n _ (Cj h w)
theorem vK (s:By) (a w n:Int):lJ s a w n<=s.length:=HZ _ _ (vq s a)
end
end Go.Proofs.YtpjgdgdnbkjoiaaGreatDoor

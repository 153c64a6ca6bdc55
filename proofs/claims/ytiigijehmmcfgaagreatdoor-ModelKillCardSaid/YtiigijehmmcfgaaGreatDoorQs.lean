/- What the proof of the statement leans on (part 19). -/
import Derived.Lib.SpaceU
import Derived.Test.YtiigijehmmcfgaaGreatDoorQr

namespace Go.Proofs.YtiigijehmmcfgaaGreatDoor
open Go
section
variable {l s:By}{n c p a:Nat}{so:Int->Bool}
def nI (l:By):Nat:=(Lib.decodeN l.length (l.getD 0 0).toNat (l.getD 1 0).toNat (l.getD 2 0).toNat (l.getD 3 0).toNat).1
def vD (r:Nat):Int:=if r=32\/r=9\/r=10\/r=13 then 0 else if (48<=r/\r<=57)\/(65<=r/\r<=90)\/(97<=r/\r<=122)\/r=95\/128<=r then 1 else 2
def bB:Nat->By->Nat->List Nat
 | 0,_,_=>[]
 |n+1,l,a=>if l=[] then [] else a::bB n (l.drop (aZ l)) (a+aZ l)
def ct (s:By):List Nat:=bB s.length s 0
def eE (s:By) (a:Int):Nat:=if (s.length:Int)<=a then s.length else (ct s).foldl (fun(o k:Nat)=>if (k:Int)<=a then k else o) 0
def fF (s:By) (a:Nat):Nat:=if a=0\/s.length<a then a else a-(Lib.decodeLastL (s.take a)).2
def cj (s:By) (a:Nat):Nat:=if s.length<=a then a else a+aZ (s.drop a)
def eN (s:By) (a:Nat):Int:=if s.length<=a then -1 else vD (nI (s.drop a))
def fM (s:By) (a:Nat):Int:=if a=0\/s.length<a then -1 else vD (Lib.decodeLastL (s.take a)).1
def ew (s:By) (a:Nat):Prop:=a∈ct s\/a=s.length
theorem oN (l:By):Lib.decodeL l=(nI l,aZ l):=by
 unfold Lib.decodeL nI aZ;rw[Lib.decode_at]
 have e:∀i,(ByteArray.get! ⟨l.toArray⟩ i)=l.getD i 0:=fun i=>by
  show (l.toArray)[i]! =_
  rw[getElem!_def,List.getElem?_toArray,List.getD_eq_getElem?_getD];cases l[i]? <;>rfl
 rw[e,e,e,e];rfl
theorem nw (h:aZ l=n) (i:Nat) (h1:1<=i) (h2:i<n):(l.getD i 0).toNat / 64=2:=by
 unfold aZ Lib.decodeN at h;have q:i=1\/i=2\/i=3\/4<=i:=by omega
 repeat' split at h
 all_goals first
  |(exfalso;simp only at h;omega)
  |(simp only at h;rename_i c _;rcases q with rfl|rfl|rfl|q<;>first|exact c.2.2|exact c.2.1.2|exact c.2.2.2|exact c.2.2.1.2|exact c.2.2.2.2|(exfalso;omega))
theorem wh (h:2<=aZ l):¬(l.getD 0 0).toNat / 64=2/\128<=(l.getD 0 0).toNat:=by
 unfold aZ Lib.decodeN at h
 repeat' split at h
 all_goals first|(exfalso;simp only at h;omega)|(constructor<;>omega)
theorem ny (l:By):aZ l<=4:=by
 unfold aZ Lib.decodeN
 repeat' split
 all_goals simp
theorem s8 (h:aZ l=n) (h2:2<=n) (hl:n<=l.length):aZ (l.take n)=n/\nI (l.take n)=nI l:=by
 have g:∀i,i<n->(l.take n).getD i 0=l.getD i 0:=fun i hi=>by rw[List.getD_eq_getElem?_getD,List.getD_eq_getElem?_getD,List.getElem?_take_of_lt hi]
 have hlen:(l.take n).length=n:=by rw[List.length_take];omega
 have h4:=ny l;unfold aZ nI at *;rw[hlen,g 0 (by omega),g 1 (by omega)];have q:n=2\/n=3\/n=4:=by omega
 rcases q with rfl|rfl|rfl
 · unfold Lib.decodeN at *
   repeat' split at h
   all_goals first|(exfalso;simp only at h;omega)|skip
   all_goals (rw[if_neg (by assumption),if_pos (by omega),if_pos (by assumption)];refine⟨rfl,?_⟩;repeat' split;all_goals first|rfl|(exfalso;omega))
 · rw[g 2 (by omega)];unfold Lib.decodeN at *
   repeat' split at h
   all_goals first|(exfalso;simp only at h;omega)|skip
   all_goals (rw[if_neg (by assumption),if_neg (by omega),if_pos (by omega),if_pos (by assumption)];refine⟨rfl,?_⟩;repeat' split;all_goals first|rfl|(exfalso;omega))
 · rw[g 2 (by omega),g 3 (by omega)];unfold Lib.decodeN at *
   repeat' split at h
   all_goals first|(exfalso;simp only at h;omega)|skip
   all_goals (rw[if_neg (by assumption),if_neg (by omega),if_neg (by omega),if_pos (by omega),if_pos (by assumption)];refine⟨rfl,?_⟩;repeat' split;all_goals first|rfl|(exfalso;omega))
theorem qC (h:aZ (l.take n)=n) (h2:2<=n) (hl:n<=l.length):aZ l=n:=by
 have g:∀i,i<n->(l.take n).getD i 0=l.getD i 0:=fun i hi=>by rw[List.getD_eq_getElem?_getD,List.getD_eq_getElem?_getD,List.getElem?_take_of_lt hi]
 have hlen:(l.take n).length=n:=by rw[List.length_take];omega
 have h4:=ny (l.take n);have q:n=2\/n=3\/n=4:=by omega
 unfold aZ at *;rw[hlen,g 0 (by omega),g 1 (by omega)] at h
 rcases q with rfl|rfl|rfl
 · unfold Lib.decodeN at *
   repeat' split at h
   all_goals first|(exfalso;simp only at h;omega)|skip
   all_goals (rw[if_neg (by assumption),if_pos (by omega),if_pos (by assumption)])
 · rw[g 2 (by omega)] at h;unfold Lib.decodeN at *
   repeat' split at h
   all_goals first|(exfalso;simp only at h;omega)|skip
   all_goals (rw[if_neg (by assumption),if_neg (by omega),if_pos (by omega),if_pos (by assumption)])
 · rw[g 2 (by omega),g 3 (by omega)] at h;unfold Lib.decodeN at *
   repeat' split at h
   all_goals first|(exfalso;simp only at h;omega)|skip
   all_goals (rw[if_neg (by assumption),if_neg (by omega),if_neg (by omega),if_pos (by omega),if_pos (by assumption)])
theorem dS:∀(n:Nat) (l:By) (a c:Nat),c∈bB n l a->a<=c/\c<a+l.length
 | 0,_,_,_,h=>by simp[bB] at h
 |n+1,l,a,c,h=>by
  rw[bB] at h;split at h
  · simp at h
  · rename_i hl;have hp:=List.length_pos_iff.2 hl;have hr:=cS hl
    rcases List.mem_cons.1 h with rfl|h
    · omega
    · have:=dS n _ _ c h;rw[List.length_drop] at this;omega
theorem fZ (h:c∈ct s):c<s.length:=by have:=dS _ _ _ _ h;omega
theorem pz:∀(n:Nat) (l:By) (a c:Nat),l.length<=n->c∈bB n l a ->
 (c+aZ (l.drop (c-a))∈bB n l a\/c+aZ (l.drop (c-a))=a+l.length)/\∀d,c<d->d<c+aZ (l.drop (c-a))->d∉bB n l a
 | 0,_,_,_,_,h=>by simp[bB] at h
 |n+1,l,a,c,hn,h=>by
  rw[bB] at h ⊢;split at h
  · simp at h
  · rename_i hl;rw[if_neg hl];have hp:=List.length_pos_iff.2 hl;have hr:=cS hl;have hd:(l.drop (aZ l)).length=l.length-aZ l:=List.length_drop
    rcases List.mem_cons.1 h with rfl|h
    · rw[Nat.sub_self,List.drop_zero];refine⟨?_,fun d h1 h2 h3=>?_⟩
      · by_cases e:l.drop (aZ l)=[]
        · right;rw[e] at hd;simp only[List.length_nil] at hd;omega
        · left
          refine List.mem_cons_of_mem _ ?_;cases n with
          |zero=>exact absurd (List.length_eq_zero_iff.1 (by omega)) e
          |succ n=>rw[bB,if_neg e];exact List.mem_cons_self
      · rcases List.mem_cons.1 h3 with rfl|h3
        · omega
        · have:=dS _ _ _ _ h3;omega
    · have hm:=dS _ _ _ _ h;have ih:=pz n (l.drop (aZ l)) (a+aZ l) c (by omega) h;rw[List.drop_drop,show aZ l+(c-(a+aZ l))=c-a by omega] at ih;refine⟨ih.1.imp (List.mem_cons_of_mem _) (fun e=>by omega),fun d h1 h2 h3=>?_⟩
      rcases List.mem_cons.1 h3 with rfl|h3
      · omega
      · exact ih.2 d h1 h2 h3
theorem pq:∀(n:Nat) (l:By) (a p:Nat),l.length<=n->a<p->(p∈bB n l a\/p=a+l.length)->∃q∈bB n l a,q+aZ (l.drop (q-a))=p
 | 0,l,a,p,hn,h1,h=>by
  rcases h with h|h
  · simp[bB] at h
  · omega
 |n+1,l,a,p,hn,h1,h=>by
  have hl:l≠[]:=by
   rintro rfl
   rcases h with h|h
   · simp[bB] at h
   · simp only[List.length_nil] at h;omega
  have hr:=cS hl;have hd:(l.drop (aZ l)).length=l.length-aZ l:=List.length_drop;rw[bB,if_neg hl] at h ⊢
  rcases Nat.lt_trichotomy p (a+aZ l) with q|q|q
  · exfalso
    rcases h with h|h
    · rcases List.mem_cons.1 h with h|h
      · omega
      · have:=dS _ _ _ _ h;omega
    · omega
  · exact⟨a,List.mem_cons_self,by rw[Nat.sub_self,List.drop_zero];omega⟩
  · obtain⟨x,hx,he⟩:=pq n (l.drop (aZ l)) (a+aZ l) p (by omega) q (by
     rcases h with h|h
     · rcases List.mem_cons.1 h with h|h
       · omega
       · exact .inl h
     · right;omega)
    have hm:=dS _ _ _ _ hx;rw[List.drop_drop,show aZ l+(x-(a+aZ l))=x-a by omega] at he;exact⟨x,List.mem_cons_of_mem _ hx,he⟩
theorem nQ:∀(n:Nat) (l:By) (a c:Nat),l.length<=n->a<=c->c<a+l.length->¬(l.getD (c-a) 0).toNat / 64=2->c∈bB n l a
 | 0,l,a,c,hn,h1,h2,_=>by omega
 |n+1,l,a,c,hn,h1,h2,h=>by
  have hl:l≠[]:=by rintro rfl;simp only[List.length_nil] at h2;omega
  have hr:=cS hl;have hd:(l.drop (aZ l)).length=l.length-aZ l:=List.length_drop;rw[bB,if_neg hl]
  by_cases e:c=a
  · rw[e];exact List.mem_cons_self
  · refine List.mem_cons_of_mem _ (nQ n _ _ c (by omega) ?_ (by omega) ?_)
    · rcases Nat.lt_or_ge c (a+aZ l) with q|q
      · exact absurd (nw rfl (c-a) (by omega) (by omega)) h
      · exact q
    · have q:a+aZ l<=c:=by
       rcases Nat.lt_or_ge c (a+aZ l) with q|q
       · exact absurd (nw rfl (c-a) (by omega) (by omega)) h
       · exact q
      rw[List.getD_eq_getElem?_getD,List.getElem?_drop,show aZ l+(c-(a+aZ l))=c-a by omega,<-List.getD_eq_getElem?_getD];exact h
theorem ry (h:c∈ct s):ew s (c+aZ (s.drop c))/\∀d,c<d->d<c+aZ (s.drop c)->¬ew s d:=by
 have k:=pz s.length s 0 c (Nat.le_refl _) h;rw[Nat.sub_zero,Nat.zero_add] at k;refine⟨k.1,fun d h1 h2 h3=>?_⟩;have hc:=fZ h;have hr:=cS (l:=s.drop c) (by intro e;have:=congrArg List.length e;rw[List.length_drop,List.length_nil] at this;omega);rw[List.length_drop] at hr
 rcases h3 with h3|h3
 · exact k.2 d h1 h2 h3
 · omega
theorem y9 (h:ew s p) (hp:0<p):∃q∈ct s,q+aZ (s.drop q)=p:=by
 obtain⟨q,h1,h2⟩:=pq s.length s 0 p (Nat.le_refl _) hp (by rcases h with h|h;exact .inl h;exact .inr (by omega));exact⟨q,h1,by simpa using h2⟩
theorem xF (hc:c<s.length) (h:¬(s.getD c 0).toNat / 64=2):c∈ct s :=
 nQ s.length s 0 c (Nat.le_refl _) (Nat.zero_le _) (by omega) (by rw[Nat.sub_zero];exact h)
theorem Ba (b:UInt8):Lib.runeStartB b=decide (¬b.toNat / 64=2):=by unfold Lib.runeStartB;rw[Bool.eq_iff_iff];simp
theorem vT {i:Nat}(h:i<p):(s.take p).getD i 0=s.getD i 0:=by rw[List.getD_eq_getElem?_getD,List.getD_eq_getElem?_getD,List.getElem?_take_of_lt h]
theorem gx (s:By) (q i:Nat):(s.drop q).getD i 0=s.getD (q+i) 0:=by rw[List.getD_eq_getElem?_getD,List.getD_eq_getElem?_getD,List.getElem?_drop]
theorem DL {q:Nat}(hq:q∈ct s) (hn:aZ (s.drop q)=n):(Lib.decodeLastL (s.take (q+n))).2=n:=by
 have hqs:=fZ hq;have hne:s.drop q≠[]:=by intro e;have:=congrArg List.length e;rw[List.length_drop,List.length_nil] at this;omega
 have hr:=cS hne;rw[List.length_drop,hn] at hr;have hlen:(s.take (q+n)).length=q+n:=by rw[List.length_take];omega
 have hnil:s.take (q+n)≠[]:=by intro e;rw[e] at hlen;simp only[List.length_nil] at hlen;omega
 have hg:∀i,i<q+n->(s.take (q+n)).getD i 0=s.getD i 0:=fun i hi=>vT hi
 have h4:=ny (s.drop q);unfold Lib.decodeLastL;rw[if_neg hnil,hlen,hg _ (by omega)]
 rcases Nat.lt_or_ge n 2 with h2|h2
 · have hn1:n=1:=by omega
   subst hn1;split
   · rfl
   · simp only[oN];split
     · rename_i hb e;generalize hst:Lib.lastStart (s.take (q+1))=st at e;have hdl:((s.take (q+1)).drop st).length=q+1-st:=by rw[List.length_drop,hlen]
       by_cases hm:2<=aZ ((s.take (q+1)).drop st)
       · exfalso;have hd:=wh hm;simp only[gx,Nat.add_zero] at hd;rw[hg st (by omega)] at hd;have hin:=xF (c:=st) (by omega) hd.1;have e2:(s.take (q+1)).drop st=(s.drop st).take (q+1-st):=by rw[List.drop_take]
         have hk:aZ (s.drop st)=q+1-st:=by
          refine qC (n:=q+1-st) ?_ (by omega) (by rw[List.length_drop];omega);rw[<-e2];omega
         exact(ry hin).2 q (by omega) (by omega) (.inl hq)
       · have:1<=aZ ((s.take (q+1)).drop st):=oM _ _ _ _ _;omega
     · rfl
 · have hcut:=s8 hn h2 (by rw[List.length_drop];omega);have e2:(s.take (q+n)).drop q=(s.drop q).take n:=by rw[List.drop_take,Nat.add_sub_cancel_left]
   have hlast:=nw hn (n-1) (by omega) (by omega);rw[gx,show q+(n-1)=q+n-1 by omega] at hlast;rw[if_neg (by omega)];have hhd:=wh (l:=s.drop q) (by omega);simp only[gx,Nat.add_zero] at hhd
   have hst:Lib.lastStart (s.take (q+n))=q:=by
    have hcon:∀i,1<=i->i<n->(s.getD (q+i) 0).toNat / 64=2:=fun i h1 h2=>by have:=nw hn i h1 h2;rwa [gx] at this
    have qn:n=2\/n=3\/n=4:=by omega
    unfold Lib.lastStart;simp only[hlen,Ba];rw[if_neg (by omega)]
    rcases qn with rfl|rfl|rfl
    · rw[show q+2-2=q by omega,hg q (by omega),if_pos (decide_eq_true hhd.1)]
    · rw[show q+3-2=q+1 by omega,hg _ (by omega),if_neg (by rw[hcon 1 (by omega) (by omega)];simp),if_neg (by omega),show q+3-3=q by omega,hg q (by omega),if_pos (decide_eq_true hhd.1)]
    · rw[show q+4-2=q+2 by omega,hg _ (by omega),if_neg (by rw[hcon 2 (by omega) (by omega)];simp),if_neg (by omega),show q+4-3=q+1 by omega,hg _ (by omega),if_neg (by rw[hcon 1 (by omega) (by omega)];simp),if_neg (by omega),show q+4-4=q by omega,hg q (by omega),if_pos (decide_eq_true hhd.1)]
   simp only[oN,hst,e2,hcut.1];rfl
theorem pX (h:ew s p):ew s (fF s p):=by
 by_cases h0:p=0
 · unfold fF;rw[if_pos (.inl h0)];exact h
 · obtain⟨q,h1,h2⟩:=y9 h (by omega)
   have hp:p<=s.length:=by
    rcases h with h|h
    · have:=fZ h;omega
    · omega
   have:=DL h1 rfl;rw[h2] at this;unfold fF;rw[if_neg (by omega),this,show p-aZ (s.drop q)=q by omega];exact .inl h1
def iO:By->Nat->Nat->Nat
 | [],_,o=>o
 |c::l,k,o=>iO l (k+1) (if c=10 then k+1 else o)
def bn (s:By) (a:Nat):Nat:=iO (s.take a) 0 0
def cZ (s:By) (a:Nat):Nat:=a+((s.drop a).takeWhile (fun c=>decide (c≠10))).length
def dI (s:By) (a:Nat):Nat:=((ct s).takeWhile (fun k=>decide (k<a))).length
def jS (s:By) (n:Int):Nat:=if n<1 then 0 else (ct s).getD n.toNat s.length
def gf (c:Int) (d:Int):Bool:=decide (d=c) && decide (0<d)
def ji (so:Int->Bool) (s:By):Nat->Nat->Nat
 | 0,a=>a
 |n+1,a=>if 0<=eN s a/\so (eN s a)=true then ji so s n (cj s a) else a
def cY (so:Int->Bool) (s:By) (a:Nat):Nat:=ji so s (s.length-a) a
def jP (so:Int->Bool) (s:By):Nat->Nat->Nat
 | 0,a=>a
 |n+1,a=>if 0<=fM s a/\so (fM s a)=true then jP so s n (fF s a) else a
def gL (so:Int->Bool) (s:By) (a:Nat):Nat:=jP so s a a
def mE (s:By) (a:Nat) (up:Bool):Nat :=
 if up=true then (if bn s a=0 then a else let t:=bn s (bn s a-1);min (jS s ((dI s t:Int)+((dI s a:Int)-(dI s (bn s a):Nat)))) (cZ s t))
 else (if s.length<cZ s a+1 then a else let t:=bn s (cZ s a+1);min (jS s ((dI s t:Int)+((dI s a:Int)-(dI s (bn s a):Nat)))) (cZ s t))
def eC (c:Int):Bool:=decide (c=0)
def C7 (c:Int):Bool:=decide (c=1)
def sj (c:Int):Bool:=decide (c≠1)
def Cq (s:By) (a:Nat):Nat :=
 let b:=cY eC s (cj s a)
 let t:=cY (gf (eN s b)) s b
 if b<t then fF s t else b
def jG (s:By) (a:Nat) (w:Int):Nat :=
 if w=0 then fF s a else if w=1 then cj s a else if w=2 then bn s a else if w=3 then cZ s a
 else if w=4 then mE s a true else if w=5 then mE s a false
 else if w=6 then cY C7 s (cY sj s a) else if w=7 then gL C7 s (gL sj s a)
 else if w=8 then cY eC s (cY (gf (eN s a)) s a)
 else if w=9 then (let b:=gL eC s a;gL (gf (fM s b)) s b)
 else if w=10 then Cq s a
 else if w=11 then min (cY eC s (bn s a)) (cZ s a)
 else if w=12 then 0 else if w=13 then s.length else a
def EF (s:By) (w:Int):Nat->Nat->Nat
 | 0,a=>a
 |n+1,a=>if jG s a w=a then a else EF s w n (jG s a w)
def gD (s:By) (a:Int) (w n:Int):Nat:=EF s w (min (max n 0) 1000).toNat (eE s a)
theorem vY:∀(l:By) (k o:Nat),o<=k->iO l k o<=k+l.length
 | [],k,o,h=>by simpa [iO] using h
 |c::l,k,o,h=>by
  rw[iO,List.length_cons];have:=vY l (k+1) (if c=10 then k+1 else o) (by split<;>omega);omega
theorem eS (s:By) (a:Nat):bn s a<=a/\bn s a<=s.length:=by
 have:=vY (s.take a) 0 0 (Nat.le_refl 0);rw[List.length_take] at this;unfold bn;omega
theorem iA (h:a<=s.length):a<=cZ s a/\cZ s a<=s.length:=by
 have:=List.Sublist.length_le (List.takeWhile_sublist (fun c=>decide (c≠10)) (l:=s.drop a));rw[List.length_drop] at this;unfold cZ;omega
theorem dP (h:a<=s.length):a<=cj s a/\cj s a<=s.length:=by
 unfold cj;split
 · omega
 · have:=cS (l:=s.drop a) (by intro e;have:=congrArg List.length e;rw[List.length_drop,List.length_nil] at this;omega);rw[List.length_drop] at this;omega
theorem pM (h:a<s.length):a<cj s a:=by
 unfold cj;rw[if_neg (by omega)];have:=cS (l:=s.drop a) (by intro e;have:=congrArg List.length e;rw[List.length_drop,List.length_nil] at this;omega);omega
theorem pZ (l:By) (h:l≠[]):1<=(Lib.decodeLastL l).2/\(Lib.decodeLastL l).2<=l.length:=by
 have hp:=List.length_pos_iff.2 h;unfold Lib.decodeLastL;rw[if_neg h];split
 · simp only;omega
 · simp only;split
   · rename_i e;rw[oN] at e ⊢;simp only at e ⊢;have:=oM (l.drop (Lib.lastStart l)).length ((l.drop (Lib.lastStart l)).getD 0 0).toNat ((l.drop (Lib.lastStart l)).getD 1 0).toNat ((l.drop (Lib.lastStart l)).getD 2 0).toNat ((l.drop (Lib.lastStart l)).getD 3 0).toNat;unfold aZ at e ⊢;omega
   · simp only;omega
theorem mF (s:By) (a:Nat):fF s a<=a:=by unfold fF;split<;>omega
theorem xT (h0:0<a) (h:a<=s.length):fF s a<a:=by
 unfold fF;rw[if_neg (by omega)];have:=pZ (s.take a) (by intro e;have:=congrArg List.length e;rw[List.length_take,List.length_nil] at this;omega);omega
theorem yj (h:0<=eN s a):a<s.length:=by
 unfold eN at h;split at h
 · omega
 · omega
theorem qp (h:0<=fM s a):0<a/\a<=s.length:=by
 unfold fM at h;split at h
 · omega
 · omega
theorem oq {so:Int->Bool}{s:By}:∀(n a:Nat),s.length<=n+a->ji so s n a=ji so s (s.length-a) a
 | 0,a,h=>by rw[show s.length-a=0 by omega]
 |n+1,a,h=>by
  rcases Nat.lt_or_ge a s.length with q|q
  · obtain⟨k,hk⟩:∃k,s.length-a=k+1:=⟨s.length-a-1,by omega⟩
    rw[hk,ji,ji];split
    · have:=pM q;rw[oq n _ (by omega),oq k _ (by omega)]
    · rfl
  · rw[show s.length-a=0 by omega,ji,ji,if_neg];rintro⟨h1,_⟩;have:=yj h1;omega
 termination_by n a=>n
theorem Dl (h:0<=eN s a) (h2:so (eN s a)=true):cY so s a=cY so s (cj s a):=by
 have q:=yj h;have:=pM q;unfold cY;obtain⟨k,hk⟩:∃k,s.length-a=k+1:=⟨s.length-a-1,by omega⟩
 rw[hk,ji,if_pos ⟨h,h2⟩,oq k _ (by omega)]
theorem Dk (h:¬(0<=eN s a/\so (eN s a)=true)):cY so s a=a:=by
 unfold cY;cases s.length-a with
 |zero=>rfl
 |succ n=>rw[ji,if_neg h]
theorem zf {so:Int->Bool}{s:By}:∀(n a:Nat),a<=s.length->a<=ji so s n a/\ji so s n a<=s.length
 | 0,a,h=>⟨Nat.le_refl _,h⟩
 |n+1,a,h=>by
  rw[ji];split
  · have:=dP h;have:=zf (so:=so) n (cj s a) this.2;omega
  · omega
theorem fO (h:a<=s.length):a<=cY so s a/\cY so s a<=s.length:=zf _ _ h
theorem oV {so:Int->Bool}{s:By}:∀(n a:Nat),a<=n->jP so s n a=jP so s a a
 | 0,a,h=>by rw[show a=0 by omega]
 |n+1,a,h=>by
  cases a with
  |zero =>
   rw[jP,jP,if_neg];rintro⟨h1,_⟩;have:=qp h1;omega
  |succ k =>
   rw[jP,jP];split
   · rename_i c;have q:=qp c.1;have:=xT q.1 q.2;rw[oV n _ (by omega),oV k _ (by omega)]
   · rfl
 termination_by n a=>n
theorem Eg (h:0<=fM s a) (h2:so (fM s a)=true):gL so s a=gL so s (fF s a):=by
 have q:=qp h;have:=xT q.1 q.2;unfold gL;obtain⟨k,hk⟩:∃k,a=k+1:=⟨a-1,by omega⟩
 conv=>lhs;rw[hk,jP,<-hk,if_pos ⟨h,h2⟩,oV k _ (by omega)]
theorem Ef (h:¬(0<=fM s a/\so (fM s a)=true)):gL so s a=a:=by
 unfold gL;cases a with
 |zero=>rfl
 |succ n=>rw[jP,if_neg h]
theorem AJ {so:Int->Bool}{s:By}:∀(n a:Nat),jP so s n a<=a
 | 0,a=>Nat.le_refl _
 |n+1,a=>by
  rw[jP];split
  · have:=mF s a;have:=AJ (so:=so) (s:=s) n (fF s a);omega
  · omega
theorem mU:gL so s a<=a:=AJ _ _
theorem yl:∀(l:List Nat) (a:Int) (o:Nat),(∀k∈l,k∈l)->l.foldl (fun(o k:Nat)=>if (k:Int)<=a then k else o) o∈l\/l.foldl (fun(o k:Nat)=>if (k:Int)<=a then k else o) o=o
 | [],_,_,_=>.inr rfl
 |x::l,a,o,_=>by
  rw[List.foldl_cons]
  rcases yl l a (if (x:Int)<=a then x else o) (fun _ h=>h) with h|h
  · exact .inl (List.mem_cons_of_mem _ h)
  · rw[h];split
    · exact .inl List.mem_cons_self
    · exact .inr rfl
theorem rq (h:s≠[]):0∈ct s:=by
 unfold ct;obtain⟨c,t,rfl⟩:=List.exists_cons_of_ne_nil h;rw[List.length_cons,bB,if_neg (by simp)];exact List.mem_cons_self
theorem fT (s:By) (a:Int):ew s (eE s a):=by
 unfold eE;split
 · exact .inr rfl
 · rcases yl (ct s) a 0 (fun _ h=>h) with h|h
   · exact .inl h
   · rw[h]
     by_cases hs:s=[]
     · subst hs;exact .inr rfl
     · exact .inl (rq hs)
theorem jm (h:ew s a):a<=s.length:=by
 rcases h with h|h
 · have:=fZ h;omega
 · omega
theorem jK (s:By) (a:Int):eE s a<=s.length:=jm (fT s a)
theorem wq (s:By) (n:Int):jS s n<=s.length:=by
 unfold jS;split
 · omega
 · rw[List.getD_eq_getElem?_getD];cases h:(ct s)[n.toNat]? with
   |none=>simp
   |some v =>
    have:=fZ (List.mem_of_getElem? h);simp only[Option.getD_some];omega
theorem zT (h:a<=s.length) (up:Bool):mE s a up<=s.length:=by
 unfold mE;split
 · split
   · exact h
   · exact Nat.le_trans (Nat.min_le_left _ _) (wq _ _)
 · split
   · exact h
   · exact Nat.le_trans (Nat.min_le_left _ _) (wq _ _)
theorem eV {c:Prop}[Decidable c]{x y m:Nat}(h1:x<=m) (h2:y<=m):(if c then x else y)<=m:=by split<;>assumption
theorem zF (h:a<=s.length) (w:Int):jG s a w<=s.length:=by
 have hr:=dP h;have hb:∀(f g:Int->Bool),gL f s (gL g s a)<=s.length:=fun f g=>Nat.le_trans mU (Nat.le_trans mU h)
 have hs:∀(f g:Int->Bool),cY f s (cY g s a)<=s.length:=fun f g=>(fO (fO h).2).2
 unfold jG;refine eV (Nat.le_trans (mF s a) h) (eV hr.2 (eV (eS s a).2 (eV (iA h).2 (eV (zT h _) (eV (zT h _) (eV (hs _ _) (eV (hb _ _) (eV (hs _ _) (eV (hb _ _) (eV ?_ (eV (Nat.le_trans (Nat.min_le_right _ _) (iA h).2) (eV (Nat.zero_le _) (eV (Nat.le_refl _) h)))))))))))));unfold Cq;have h1:=fO (so:=eC) hr.2;have h2:=fO (so:=gf (eN s (cY eC s (cj s a)))) h1.2;simp only;exact eV (Nat.le_trans (mF _ _) h2.2) h1.2
theorem EE {s:By}{w:Int}:∀(n a:Nat),a<=s.length->EF s w n a<=s.length
 | 0,_,h=>h
 |n+1,a,h=>by
  rw[EF];split
  · exact h
  · exact EE n _ (zF h w)
theorem oh (s:By) (a w n:Int):gD s a w n<=s.length:=EE _ _ (jK s a)
end
end Go.Proofs.YtiigijehmmcfgaaGreatDoor

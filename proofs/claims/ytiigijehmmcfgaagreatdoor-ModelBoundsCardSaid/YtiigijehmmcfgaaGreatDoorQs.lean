/- What the proof of the statement leans on (part 19). -/
import Derived.Lib.SpaceU
import Derived.Test.YtiigijehmmcfgaaGreatDoorQr

namespace Go.Proofs.YtiigijehmmcfgaaGreatDoor
open Go
section
variable {l s:By}{n c p a:Nat}{so:Int->Bool}
def nF (l:By):Nat:=(Lib.decodeN l.length (l.getD 0 0).toNat (l.getD 1 0).toNat (l.getD 2 0).toNat (l.getD 3 0).toNat).1
def vg (r:Nat):Int:=if r=32\/r=9\/r=10\/r=13 then 0 else if (48<=r/\r<=57)\/(65<=r/\r<=90)\/(97<=r/\r<=122)\/r=95\/128<=r then 1 else 2
def bI:Nat->By->Nat->List Nat
 | 0,_,_=>[]
 |n+1,l,a=>if l=[] then [] else a::bI n (l.drop (bw l)) (a+bw l)
def cq (s:By):List Nat:=bI s.length s 0
def eN (s:By) (a:Int):Nat:=if (s.length:Int)<=a then s.length else (cq s).foldl (fun(o k:Nat)=>if (k:Int)<=a then k else o) 0
def fC (s:By) (a:Nat):Nat:=if a=0\/s.length<a then a else a-(Lib.decodeLastL (s.take a)).2
def cR (s:By) (a:Nat):Nat:=if s.length<=a then a else a+bw (s.drop a)
def eM (s:By) (a:Nat):Int:=if s.length<=a then -1 else vg (nF (s.drop a))
def fJ (s:By) (a:Nat):Int:=if a=0\/s.length<a then -1 else vg (Lib.decodeLastL (s.take a)).1
def iX (s:By) (a:Nat):Prop:=a∈cq s\/a=s.length
theorem oJ (l:By):Lib.decodeL l=(nF l,bw l):=by
 unfold Lib.decodeL nF bw;rw[Lib.decode_at]
 have e:∀i,(ByteArray.get! ⟨l.toArray⟩ i)=l.getD i 0:=fun i=>by
  show (l.toArray)[i]! =_
  rw[getElem!_def,List.getElem?_toArray,List.getD_eq_getElem?_getD];cases l[i]? <;>rfl
 rw[e,e,e,e];rfl
theorem ni (h:bw l=n) (i:Nat) (h1:1<=i) (h2:i<n):(l.getD i 0).toNat / 64=2:=by
 unfold bw Lib.decodeN at h;have q:i=1\/i=2\/i=3\/4<=i:=by omega
 repeat' split at h
 all_goals first
  |(exfalso;simp only at h;omega)
  |(simp only at h;rename_i c _;rcases q with rfl|rfl|rfl|q<;>first|exact c.2.2|exact c.2.1.2|exact c.2.2.2|exact c.2.2.1.2|exact c.2.2.2.2|(exfalso;omega))
theorem vO (h:2<=bw l):¬(l.getD 0 0).toNat / 64=2/\128<=(l.getD 0 0).toNat:=by
 unfold bw Lib.decodeN at h
 repeat' split at h
 all_goals first|(exfalso;simp only at h;omega)|(constructor<;>omega)
theorem nj (l:By):bw l<=4:=by
 unfold bw Lib.decodeN
 repeat' split
 all_goals simp
theorem Ez (h:bw l=n) (h2:2<=n) (hl:n<=l.length):bw (l.take n)=n/\nF (l.take n)=nF l:=by
 have g:∀i,i<n->(l.take n).getD i 0=l.getD i 0:=fun i hi=>by rw[List.getD_eq_getElem?_getD,List.getD_eq_getElem?_getD,List.getElem?_take_of_lt hi]
 have hlen:(l.take n).length=n:=by rw[List.length_take];omega
 have h4:=nj l;unfold bw nF at *;rw[hlen,g 0 (by omega),g 1 (by omega)];have q:n=2\/n=3\/n=4:=by omega
 rcases q with rfl|rfl|rfl
 · unfold Lib.decodeN at *
   repeat' split at h
   all_goals first|(exfalso;simp only at h;omega)|skip
   all_goals (rw[if_neg (by assumption),if_pos (by omega),if_pos (by assumption)];refine⟨rfl,?_⟩;repeat' split;all_goals first|rfl|(exfalso;omega))
 · rw[g 2 (by omega)];unfold Lib.decodeN at *
   repeat' split at h
   all_goals first|(exfalso;simp only at h;omega)|skip
   all_goals (rw[if_neg (by assumption),if_neg (by omega),if_pos (by omega),if_pos (by assumption)];refine⟨rfl,?_⟩;repeat' split;all_goals first|rfl|(exfalso;omega))
 · rw[g 2 (by omega),g 3 (by omega)];unfold Lib.decodeN at *
   repeat' split at h
   all_goals first|(exfalso;simp only at h;omega)|skip
   all_goals (rw[if_neg (by assumption),if_neg (by omega),if_neg (by omega),if_pos (by omega),if_pos (by assumption)];refine⟨rfl,?_⟩;repeat' split;all_goals first|rfl|(exfalso;omega))
theorem C4 (h:bw (l.take n)=n) (h2:2<=n) (hl:n<=l.length):bw l=n:=by
 have g:∀i,i<n->(l.take n).getD i 0=l.getD i 0:=fun i hi=>by rw[List.getD_eq_getElem?_getD,List.getD_eq_getElem?_getD,List.getElem?_take_of_lt hi]
 have hlen:(l.take n).length=n:=by rw[List.length_take];omega
 have h4:=nj (l.take n);have q:n=2\/n=3\/n=4:=by omega
 unfold bw at *;rw[hlen,g 0 (by omega),g 1 (by omega)] at h
 rcases q with rfl|rfl|rfl
 · unfold Lib.decodeN at *
   repeat' split at h
   all_goals first|(exfalso;simp only at h;omega)|skip
   all_goals (rw[if_neg (by assumption),if_pos (by omega),if_pos (by assumption)])
 · rw[g 2 (by omega)] at h;unfold Lib.decodeN at *
   repeat' split at h
   all_goals first|(exfalso;simp only at h;omega)|skip
   all_goals (rw[if_neg (by assumption),if_neg (by omega),if_pos (by omega),if_pos (by assumption)])
 · rw[g 2 (by omega),g 3 (by omega)] at h;unfold Lib.decodeN at *
   repeat' split at h
   all_goals first|(exfalso;simp only at h;omega)|skip
   all_goals (rw[if_neg (by assumption),if_neg (by omega),if_neg (by omega),if_pos (by omega),if_pos (by assumption)])
theorem eF:∀(n:Nat) (l:By) (a c:Nat),c∈bI n l a->a<=c/\c<a+l.length
 | 0,_,_,_,h=>by simp[bI] at h
 |n+1,l,a,c,h=>by
  rw[bI] at h;split at h
  · simp at h
  · rename_i hl;have hp:=List.length_pos_iff.2 hl;have hr:=dm hl
    rcases List.mem_cons.1 h with rfl|h
    · omega
    · have:=eF n _ _ c h;rw[List.length_drop] at this;omega
theorem fU (h:c∈cq s):c<s.length:=by have:=eF _ _ _ _ h;omega
theorem o8:∀(n:Nat) (l:By) (a c:Nat),l.length<=n->c∈bI n l a ->
 (c+bw (l.drop (c-a))∈bI n l a\/c+bw (l.drop (c-a))=a+l.length)/\∀d,c<d->d<c+bw (l.drop (c-a))->d∉bI n l a
 | 0,_,_,_,_,h=>by simp[bI] at h
 |n+1,l,a,c,hn,h=>by
  rw[bI] at h ⊢;split at h
  · simp at h
  · rename_i hl;rw[if_neg hl];have hp:=List.length_pos_iff.2 hl;have hr:=dm hl;have hd:(l.drop (bw l)).length=l.length-bw l:=List.length_drop
    rcases List.mem_cons.1 h with rfl|h
    · rw[Nat.sub_self,List.drop_zero];refine⟨?_,fun d h1 h2 h3=>?_⟩
      · by_cases e:l.drop (bw l)=[]
        · right;rw[e] at hd;simp only[List.length_nil] at hd;omega
        · left
          refine List.mem_cons_of_mem _ ?_;cases n with
          |zero=>exact absurd (List.length_eq_zero_iff.1 (by omega)) e
          |succ n=>rw[bI,if_neg e];exact List.mem_cons_self
      · rcases List.mem_cons.1 h3 with rfl|h3
        · omega
        · have:=eF _ _ _ _ h3;omega
    · have hm:=eF _ _ _ _ h;have ih:=o8 n (l.drop (bw l)) (a+bw l) c (by omega) h;rw[List.drop_drop,show bw l+(c-(a+bw l))=c-a by omega] at ih;refine⟨ih.1.imp (List.mem_cons_of_mem _) (fun e=>by omega),fun d h1 h2 h3=>?_⟩
      rcases List.mem_cons.1 h3 with rfl|h3
      · omega
      · exact ih.2 d h1 h2 h3
theorem o7:∀(n:Nat) (l:By) (a p:Nat),l.length<=n->a<p->(p∈bI n l a\/p=a+l.length)->∃q∈bI n l a,q+bw (l.drop (q-a))=p
 | 0,l,a,p,hn,h1,h=>by
  rcases h with h|h
  · simp[bI] at h
  · omega
 |n+1,l,a,p,hn,h1,h=>by
  have hl:l≠[]:=by
   rintro rfl
   rcases h with h|h
   · simp[bI] at h
   · simp only[List.length_nil] at h;omega
  have hr:=dm hl;have hd:(l.drop (bw l)).length=l.length-bw l:=List.length_drop;rw[bI,if_neg hl] at h ⊢
  rcases Nat.lt_trichotomy p (a+bw l) with q|q|q
  · exfalso
    rcases h with h|h
    · rcases List.mem_cons.1 h with h|h
      · omega
      · have:=eF _ _ _ _ h;omega
    · omega
  · exact⟨a,List.mem_cons_self,by rw[Nat.sub_self,List.drop_zero];omega⟩
  · obtain⟨x,hx,he⟩:=o7 n (l.drop (bw l)) (a+bw l) p (by omega) q (by
     rcases h with h|h
     · rcases List.mem_cons.1 h with h|h
       · omega
       · exact .inl h
     · right;omega)
    have hm:=eF _ _ _ _ hx;rw[List.drop_drop,show bw l+(x-(a+bw l))=x-a by omega] at he;exact⟨x,List.mem_cons_of_mem _ hx,he⟩
theorem nL:∀(n:Nat) (l:By) (a c:Nat),l.length<=n->a<=c->c<a+l.length->¬(l.getD (c-a) 0).toNat / 64=2->c∈bI n l a
 | 0,l,a,c,hn,h1,h2,_=>by omega
 |n+1,l,a,c,hn,h1,h2,h=>by
  have hl:l≠[]:=by rintro rfl;simp only[List.length_nil] at h2;omega
  have hr:=dm hl;have hd:(l.drop (bw l)).length=l.length-bw l:=List.length_drop;rw[bI,if_neg hl]
  by_cases e:c=a
  · rw[e];exact List.mem_cons_self
  · refine List.mem_cons_of_mem _ (nL n _ _ c (by omega) ?_ (by omega) ?_)
    · rcases Nat.lt_or_ge c (a+bw l) with q|q
      · exact absurd (ni rfl (c-a) (by omega) (by omega)) h
      · exact q
    · have q:a+bw l<=c:=by
       rcases Nat.lt_or_ge c (a+bw l) with q|q
       · exact absurd (ni rfl (c-a) (by omega) (by omega)) h
       · exact q
      rw[List.getD_eq_getElem?_getD,List.getElem?_drop,show bw l+(c-(a+bw l))=c-a by omega,<-List.getD_eq_getElem?_getD];exact h
theorem qS (h:c∈cq s):iX s (c+bw (s.drop c))/\∀d,c<d->d<c+bw (s.drop c)->¬iX s d:=by
 have k:=o8 s.length s 0 c (Nat.le_refl _) h;rw[Nat.sub_zero,Nat.zero_add] at k;refine⟨k.1,fun d h1 h2 h3=>?_⟩;have hc:=fU h;have hr:=dm (l:=s.drop c) (by intro e;have:=congrArg List.length e;rw[List.length_drop,List.length_nil] at this;omega);rw[List.length_drop] at hr
 rcases h3 with h3|h3
 · exact k.2 d h1 h2 h3
 · omega
theorem yO (h:iX s p) (hp:0<p):∃q∈cq s,q+bw (s.drop q)=p:=by
 obtain⟨q,h1,h2⟩:=o7 s.length s 0 p (Nat.le_refl _) hp (by rcases h with h|h;exact .inl h;exact .inr (by omega));exact⟨q,h1,by simpa using h2⟩
theorem xb (hc:c<s.length) (h:¬(s.getD c 0).toNat / 64=2):c∈cq s :=
 nL s.length s 0 c (Nat.le_refl _) (Nat.zero_le _) (by omega) (by rw[Nat.sub_zero];exact h)
theorem AT (b:UInt8):Lib.runeStartB b=decide (¬b.toNat / 64=2):=by unfold Lib.runeStartB;rw[Bool.eq_iff_iff];simp
theorem CQ {i:Nat}(h:i<p):(s.take p).getD i 0=s.getD i 0:=by rw[List.getD_eq_getElem?_getD,List.getD_eq_getElem?_getD,List.getElem?_take_of_lt h]
theorem gq (s:By) (q i:Nat):(s.drop q).getD i 0=s.getD (q+i) 0:=by rw[List.getD_eq_getElem?_getD,List.getD_eq_getElem?_getD,List.getElem?_drop]
theorem Dv {q:Nat}(hq:q∈cq s) (hn:bw (s.drop q)=n):(Lib.decodeLastL (s.take (q+n))).2=n:=by
 have hqs:=fU hq;have hne:s.drop q≠[]:=by intro e;have:=congrArg List.length e;rw[List.length_drop,List.length_nil] at this;omega
 have hr:=dm hne;rw[List.length_drop,hn] at hr;have hlen:(s.take (q+n)).length=q+n:=by rw[List.length_take];omega
 have hnil:s.take (q+n)≠[]:=by intro e;rw[e] at hlen;simp only[List.length_nil] at hlen;omega
 have hg:∀i,i<q+n->(s.take (q+n)).getD i 0=s.getD i 0:=fun i hi=>CQ hi
 have h4:=nj (s.drop q);unfold Lib.decodeLastL;rw[if_neg hnil,hlen,hg _ (by omega)]
 rcases Nat.lt_or_ge n 2 with h2|h2
 · have hn1:n=1:=by omega
   subst hn1;split
   · rfl
   · simp only[oJ];split
     · rename_i hb e;generalize hst:Lib.lastStart (s.take (q+1))=st at e;have hdl:((s.take (q+1)).drop st).length=q+1-st:=by rw[List.length_drop,hlen]
       by_cases hm:2<=bw ((s.take (q+1)).drop st)
       · exfalso;have hd:=vO hm;simp only[gq,Nat.add_zero] at hd;rw[hg st (by omega)] at hd;have hin:=xb (c:=st) (by omega) hd.1;have e2:(s.take (q+1)).drop st=(s.drop st).take (q+1-st):=by rw[List.drop_take]
         have hk:bw (s.drop st)=q+1-st:=by
          refine C4 (n:=q+1-st) ?_ (by omega) (by rw[List.length_drop];omega);rw[<-e2];omega
         exact(qS hin).2 q (by omega) (by omega) (.inl hq)
       · have:1<=bw ((s.take (q+1)).drop st):=oI _ _ _ _ _;omega
     · rfl
 · have hcut:=Ez hn h2 (by rw[List.length_drop];omega);have e2:(s.take (q+n)).drop q=(s.drop q).take n:=by rw[List.drop_take,Nat.add_sub_cancel_left]
   have hlast:=ni hn (n-1) (by omega) (by omega);rw[gq,show q+(n-1)=q+n-1 by omega] at hlast;rw[if_neg (by omega)];have hhd:=vO (l:=s.drop q) (by omega);simp only[gq,Nat.add_zero] at hhd
   have hst:Lib.lastStart (s.take (q+n))=q:=by
    have hcon:∀i,1<=i->i<n->(s.getD (q+i) 0).toNat / 64=2:=fun i h1 h2=>by have:=ni hn i h1 h2;rwa [gq] at this
    have qn:n=2\/n=3\/n=4:=by omega
    unfold Lib.lastStart;simp only[hlen,AT];rw[if_neg (by omega)]
    rcases qn with rfl|rfl|rfl
    · rw[show q+2-2=q by omega,hg q (by omega),if_pos (decide_eq_true hhd.1)]
    · rw[show q+3-2=q+1 by omega,hg _ (by omega),if_neg (by rw[hcon 1 (by omega) (by omega)];simp),if_neg (by omega),show q+3-3=q by omega,hg q (by omega),if_pos (decide_eq_true hhd.1)]
    · rw[show q+4-2=q+2 by omega,hg _ (by omega),if_neg (by rw[hcon 2 (by omega) (by omega)];simp),if_neg (by omega),show q+4-3=q+1 by omega,hg _ (by omega),if_neg (by rw[hcon 1 (by omega) (by omega)];simp),if_neg (by omega),show q+4-4=q by omega,hg q (by omega),if_pos (decide_eq_true hhd.1)]
   simp only[oJ,hst,e2,hcut.1];rfl
theorem xE (h:iX s p):iX s (fC s p):=by
 by_cases h0:p=0
 · unfold fC;rw[if_pos (.inl h0)];exact h
 · obtain⟨q,h1,h2⟩:=yO h (by omega)
   have hp:p<=s.length:=by
    rcases h with h|h
    · have:=fU h;omega
    · omega
   have:=Dv h1 rfl;rw[h2] at this;unfold fC;rw[if_neg (by omega),this,show p-bw (s.drop q)=q by omega];exact .inl h1
def iH:By->Nat->Nat->Nat
 | [],_,o=>o
 |c::l,k,o=>iH l (k+1) (if c=10 then k+1 else o)
def bn (s:By) (a:Nat):Nat:=iH (s.take a) 0 0
def cZ (s:By) (a:Nat):Nat:=a+((s.drop a).takeWhile (fun c=>decide (c≠10))).length
def dG (s:By) (a:Nat):Nat:=((cq s).takeWhile (fun k=>decide (k<a))).length
def jM (s:By) (n:Int):Nat:=if n<1 then 0 else (cq s).getD n.toNat s.length
def fX (c:Int) (d:Int):Bool:=decide (d=c) && decide (0<d)
def jZ (so:Int->Bool) (s:By):Nat->Nat->Nat
 | 0,a=>a
 |n+1,a=>if 0<=eM s a/\so (eM s a)=true then jZ so s n (cR s a) else a
def cY (so:Int->Bool) (s:By) (a:Nat):Nat:=jZ so s (s.length-a) a
def lS (so:Int->Bool) (s:By):Nat->Nat->Nat
 | 0,a=>a
 |n+1,a=>if 0<=fJ s a/\so (fJ s a)=true then lS so s n (fC s a) else a
def gF (so:Int->Bool) (s:By) (a:Nat):Nat:=lS so s a a
def mw (s:By) (a:Nat) (up:Bool):Nat :=
 if up=true then (if bn s a=0 then a else let t:=bn s (bn s a-1);min (jM s ((dG s t:Int)+((dG s a:Int)-(dG s (bn s a):Nat)))) (cZ s t))
 else (if s.length<cZ s a+1 then a else let t:=bn s (cZ s a+1);min (jM s ((dG s t:Int)+((dG s a:Int)-(dG s (bn s a):Nat)))) (cZ s t))
def eC (c:Int):Bool:=decide (c=0)
def CL (c:Int):Bool:=decide (c=1)
def rR (c:Int):Bool:=decide (c≠1)
def B4 (s:By) (a:Nat):Nat :=
 let b:=cY eC s (cR s a)
 let t:=cY (fX (eM s b)) s b
 if b<t then fC s t else b
def kr (s:By) (a:Nat) (w:Int):Nat :=
 if w=0 then fC s a else if w=1 then cR s a else if w=2 then bn s a else if w=3 then cZ s a
 else if w=4 then mw s a true else if w=5 then mw s a false
 else if w=6 then cY CL s (cY rR s a) else if w=7 then gF CL s (gF rR s a)
 else if w=8 then cY eC s (cY (fX (eM s a)) s a)
 else if w=9 then (let b:=gF eC s a;gF (fX (fJ s b)) s b)
 else if w=10 then B4 s a
 else if w=11 then min (cY eC s (bn s a)) (cZ s a)
 else if w=12 then 0 else if w=13 then s.length else a
def Em (s:By) (w:Int):Nat->Nat->Nat
 | 0,a=>a
 |n+1,a=>if kr s a w=a then a else Em s w n (kr s a w)
def gK (s:By) (a:Int) (w n:Int):Nat:=Em s w (min (max n 0) 1000).toNat (eN s a)
theorem vK:∀(l:By) (k o:Nat),o<=k->iH l k o<=k+l.length
 | [],k,o,h=>by simpa [iH] using h
 |c::l,k,o,h=>by
  rw[iH,List.length_cons];have:=vK l (k+1) (if c=10 then k+1 else o) (by split<;>omega);omega
theorem eS (s:By) (a:Nat):bn s a<=a/\bn s a<=s.length:=by
 have:=vK (s.take a) 0 0 (Nat.le_refl 0);rw[List.length_take] at this;unfold bn;omega
theorem ir (h:a<=s.length):a<=cZ s a/\cZ s a<=s.length:=by
 have:=List.Sublist.length_le (List.takeWhile_sublist (fun c=>decide (c≠10)) (l:=s.drop a));rw[List.length_drop] at this;unfold cZ;omega
theorem dN (h:a<=s.length):a<=cR s a/\cR s a<=s.length:=by
 unfold cR;split
 · omega
 · have:=dm (l:=s.drop a) (by intro e;have:=congrArg List.length e;rw[List.length_drop,List.length_nil] at this;omega);rw[List.length_drop] at this;omega
theorem sQ (h:a<s.length):a<cR s a:=by
 unfold cR;rw[if_neg (by omega)];have:=dm (l:=s.drop a) (by intro e;have:=congrArg List.length e;rw[List.length_drop,List.length_nil] at this;omega);omega
theorem pS (l:By) (h:l≠[]):1<=(Lib.decodeLastL l).2/\(Lib.decodeLastL l).2<=l.length:=by
 have hp:=List.length_pos_iff.2 h;unfold Lib.decodeLastL;rw[if_neg h];split
 · simp only;omega
 · simp only;split
   · rename_i e;rw[oJ] at e ⊢;simp only at e ⊢;have:=oI (l.drop (Lib.lastStart l)).length ((l.drop (Lib.lastStart l)).getD 0 0).toNat ((l.drop (Lib.lastStart l)).getD 1 0).toNat ((l.drop (Lib.lastStart l)).getD 2 0).toNat ((l.drop (Lib.lastStart l)).getD 3 0).toNat;unfold bw at e ⊢;omega
   · simp only;omega
theorem mz (s:By) (a:Nat):fC s a<=a:=by unfold fC;split<;>omega
theorem xF (h0:0<a) (h:a<=s.length):fC s a<a:=by
 unfold fC;rw[if_neg (by omega)];have:=pS (s.take a) (by intro e;have:=congrArg List.length e;rw[List.length_take,List.length_nil] at this;omega);omega
theorem xS (h:0<=eM s a):a<s.length:=by
 unfold eM at h;split at h
 · omega
 · omega
theorem qg (h:0<=fJ s a):0<a/\a<=s.length:=by
 unfold fJ at h;split at h
 · omega
 · omega
theorem oe {so:Int->Bool}{s:By}:∀(n a:Nat),s.length<=n+a->jZ so s n a=jZ so s (s.length-a) a
 | 0,a,h=>by rw[show s.length-a=0 by omega]
 |n+1,a,h=>by
  rcases Nat.lt_or_ge a s.length with q|q
  · obtain⟨k,hk⟩:∃k,s.length-a=k+1:=⟨s.length-a-1,by omega⟩
    rw[hk,jZ,jZ];split
    · have:=sQ q;rw[oe n _ (by omega),oe k _ (by omega)]
    · rfl
  · rw[show s.length-a=0 by omega,jZ,jZ,if_neg];rintro⟨h1,_⟩;have:=xS h1;omega
 termination_by n a=>n
theorem C1 (h:0<=eM s a) (h2:so (eM s a)=true):cY so s a=cY so s (cR s a):=by
 have q:=xS h;have:=sQ q;unfold cY;obtain⟨k,hk⟩:∃k,s.length-a=k+1:=⟨s.length-a-1,by omega⟩
 rw[hk,jZ,if_pos ⟨h,h2⟩,oe k _ (by omega)]
theorem C0 (h:¬(0<=eM s a/\so (eM s a)=true)):cY so s a=a:=by
 unfold cY;cases s.length-a with
 |zero=>rfl
 |succ n=>rw[jZ,if_neg h]
theorem yR {so:Int->Bool}{s:By}:∀(n a:Nat),a<=s.length->a<=jZ so s n a/\jZ so s n a<=s.length
 | 0,a,h=>⟨Nat.le_refl _,h⟩
 |n+1,a,h=>by
  rw[jZ];split
  · have:=dN h;have:=yR (so:=so) n (cR s a) this.2;omega
  · omega
theorem fL (h:a<=s.length):a<=cY so s a/\cY so s a<=s.length:=yR _ _ h
theorem oP {so:Int->Bool}{s:By}:∀(n a:Nat),a<=n->lS so s n a=lS so s a a
 | 0,a,h=>by rw[show a=0 by omega]
 |n+1,a,h=>by
  cases a with
  |zero =>
   rw[lS,lS,if_neg];rintro⟨h1,_⟩;have:=qg h1;omega
  |succ k =>
   rw[lS,lS];split
   · rename_i c;have q:=qg c.1;have:=xF q.1 q.2;rw[oP n _ (by omega),oP k _ (by omega)]
   · rfl
 termination_by n a=>n
theorem DY (h:0<=fJ s a) (h2:so (fJ s a)=true):gF so s a=gF so s (fC s a):=by
 have q:=qg h;have:=xF q.1 q.2;unfold gF;obtain⟨k,hk⟩:∃k,a=k+1:=⟨a-1,by omega⟩
 conv=>lhs;rw[hk,lS,<-hk,if_pos ⟨h,h2⟩,oP k _ (by omega)]
theorem DX (h:¬(0<=fJ s a/\so (fJ s a)=true)):gF so s a=a:=by
 unfold gF;cases a with
 |zero=>rfl
 |succ n=>rw[lS,if_neg h]
theorem Au {so:Int->Bool}{s:By}:∀(n a:Nat),lS so s n a<=a
 | 0,a=>Nat.le_refl _
 |n+1,a=>by
  rw[lS];split
  · have:=mz s a;have:=Au (so:=so) (s:=s) n (fC s a);omega
  · omega
theorem mO:gF so s a<=a:=Au _ _
theorem xU:∀(l:List Nat) (a:Int) (o:Nat),(∀k∈l,k∈l)->l.foldl (fun(o k:Nat)=>if (k:Int)<=a then k else o) o∈l\/l.foldl (fun(o k:Nat)=>if (k:Int)<=a then k else o) o=o
 | [],_,_,_=>.inr rfl
 |x::l,a,o,_=>by
  rw[List.foldl_cons]
  rcases xU l a (if (x:Int)<=a then x else o) (fun _ h=>h) with h|h
  · exact .inl (List.mem_cons_of_mem _ h)
  · rw[h];split
    · exact .inl List.mem_cons_self
    · exact .inr rfl
theorem yN (h:s≠[]):0∈cq s:=by
 unfold cq;obtain⟨c,t,rfl⟩:=List.exists_cons_of_ne_nil h;rw[List.length_cons,bI,if_neg (by simp)];exact List.mem_cons_self
theorem gC (s:By) (a:Int):iX s (eN s a):=by
 unfold eN;split
 · exact .inr rfl
 · rcases xU (cq s) a 0 (fun _ h=>h) with h|h
   · exact .inl h
   · rw[h]
     by_cases hs:s=[]
     · subst hs;exact .inr rfl
     · exact .inl (yN hs)
theorem ko (h:iX s a):a<=s.length:=by
 rcases h with h|h
 · have:=fU h;omega
 · omega
theorem jF (s:By) (a:Int):eN s a<=s.length:=ko (gC s a)
theorem vT (s:By) (n:Int):jM s n<=s.length:=by
 unfold jM;split
 · omega
 · rw[List.getD_eq_getElem?_getD];cases h:(cq s)[n.toNat]? with
   |none=>simp
   |some v =>
    have:=fU (List.mem_of_getElem? h);simp only[Option.getD_some];omega
theorem zH (h:a<=s.length) (up:Bool):mw s a up<=s.length:=by
 unfold mw;split
 · split
   · exact h
   · exact Nat.le_trans (Nat.min_le_left _ _) (vT _ _)
 · split
   · exact h
   · exact Nat.le_trans (Nat.min_le_left _ _) (vT _ _)
theorem eV {c:Prop}[Decidable c]{x y m:Nat}(h1:x<=m) (h2:y<=m):(if c then x else y)<=m:=by split<;>assumption
theorem zm (h:a<=s.length) (w:Int):kr s a w<=s.length:=by
 have hr:=dN h;have hb:∀(f g:Int->Bool),gF f s (gF g s a)<=s.length:=fun f g=>Nat.le_trans mO (Nat.le_trans mO h)
 have hs:∀(f g:Int->Bool),cY f s (cY g s a)<=s.length:=fun f g=>(fL (fL h).2).2
 unfold kr;refine eV (Nat.le_trans (mz s a) h) (eV hr.2 (eV (eS s a).2 (eV (ir h).2 (eV (zH h _) (eV (zH h _) (eV (hs _ _) (eV (hb _ _) (eV (hs _ _) (eV (hb _ _) (eV ?_ (eV (Nat.le_trans (Nat.min_le_right _ _) (ir h).2) (eV (Nat.zero_le _) (eV (Nat.le_refl _) h)))))))))))));unfold B4;have h1:=fL (so:=eC) hr.2;have h2:=fL (so:=fX (eM s (cY eC s (cR s a)))) h1.2;simp only;exact eV (Nat.le_trans (mz _ _) h2.2) h1.2
theorem El {s:By}{w:Int}:∀(n a:Nat),a<=s.length->Em s w n a<=s.length
 | 0,_,h=>h
 |n+1,a,h=>by
  rw[Em];split
  · exact h
  · exact El n _ (zm h w)
theorem nZ (s:By) (a w n:Int):gK s a w n<=s.length:=El _ _ (jF s a)
end
end Go.Proofs.YtiigijehmmcfgaaGreatDoor

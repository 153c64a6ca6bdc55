/- What the proof of the statement leans on (part 19). -/
import Derived.Lib.SpaceU
import Derived.Test.YtiigijehmmcfgaaGreatDoorQr

namespace Go.Proofs.YtiigijehmmcfgaaGreatDoor
open Go
section
variable {l s:By}{n c p a:Nat}{so:Int->Bool}
def nF (l:By):Nat:=(Lib.decodeN l.length (l.getD 0 0).toNat (l.getD 1 0).toNat (l.getD 2 0).toNat (l.getD 3 0).toNat).1
def vf (r:Nat):Int:=if r=32\/r=9\/r=10\/r=13 then 0 else if (48<=r/\r<=57)\/(65<=r/\r<=90)\/(97<=r/\r<=122)\/r=95\/128<=r then 1 else 2
def bH:Nat->By->Nat->List Nat
 | 0,_,_=>[]
 |n+1,l,a=>if l=[] then [] else a::bH n (l.drop (bw l)) (a+bw l)
def cq (s:By):List Nat:=bH s.length s 0
def eC (s:By) (a:Int):Nat:=if (s.length:Int)<=a then s.length else (cq s).foldl (fun(o k:Nat)=>if (k:Int)<=a then k else o) 0
def fA (s:By) (a:Nat):Nat:=if a=0\/s.length<a then a else a-(Lib.decodeLastL (s.take a)).2
def cQ (s:By) (a:Nat):Nat:=if s.length<=a then a else a+bw (s.drop a)
def eJ (s:By) (a:Nat):Int:=if s.length<=a then -1 else vf (nF (s.drop a))
def fI (s:By) (a:Nat):Int:=if a=0\/s.length<a then -1 else vf (Lib.decodeLastL (s.take a)).1
def jx (s:By) (a:Nat):Prop:=a∈cq s\/a=s.length
theorem oJ (l:By):Lib.decodeL l=(nF l,bw l):=by
 unfold Lib.decodeL nF bw;rw[Lib.decode_at]
 have e:∀i,(ByteArray.get! ⟨l.toArray⟩ i)=l.getD i 0:=fun i=>by
  show (l.toArray)[i]! =_
  rw[getElem!_def,List.getElem?_toArray,List.getD_eq_getElem?_getD];cases l[i]? <;>rfl
 rw[e,e,e,e];rfl
theorem ni (h:bw l=n) (i:Nat) (h1:1<=i) (h2:i<n):(l.getD i 0).toNat / 64=2:=by
 unfold bw Lib.decodeN at h;have q:i=1\/i=2\/i=3\/4<=i:=by omega
 repeat' split at h
 all_goals first
  |(exfalso;simp only at h;omega)
  |(simp only at h;rename_i c _;rcases q with rfl|rfl|rfl|q<;>first|exact c.2.2|exact c.2.1.2|exact c.2.2.2|exact c.2.2.1.2|exact c.2.2.2.2|(exfalso;omega))
theorem vN (h:2<=bw l):¬(l.getD 0 0).toNat / 64=2/\128<=(l.getD 0 0).toNat:=by
 unfold bw Lib.decodeN at h
 repeat' split at h
 all_goals first|(exfalso;simp only at h;omega)|(constructor<;>omega)
theorem nj (l:By):bw l<=4:=by
 unfold bw Lib.decodeN
 repeat' split
 all_goals simp
theorem Ew (h:bw l=n) (h2:2<=n) (hl:n<=l.length):bw (l.take n)=n/\nF (l.take n)=nF l:=by
 have g:∀i,i<n->(l.take n).getD i 0=l.getD i 0:=fun i hi=>by rw[List.getD_eq_getElem?_getD,List.getD_eq_getElem?_getD,List.getElem?_take_of_lt hi]
 have hlen:(l.take n).length=n:=by rw[List.length_take];omega
 have h4:=nj l;unfold bw nF at *;rw[hlen,g 0 (by omega),g 1 (by omega)];have q:n=2\/n=3\/n=4:=by omega
 rcases q with rfl|rfl|rfl
 · unfold Lib.decodeN at *
   repeat' split at h
   all_goals first|(exfalso;simp only at h;omega)|skip
   all_goals (rw[if_neg (by assumption),if_pos (by omega),if_pos (by assumption)];refine⟨rfl,?_⟩;repeat' split;all_goals first|rfl|(exfalso;omega))
 · rw[g 2 (by omega)];unfold Lib.decodeN at *
   repeat' split at h
   all_goals first|(exfalso;simp only at h;omega)|skip
   all_goals (rw[if_neg (by assumption),if_neg (by omega),if_pos (by omega),if_pos (by assumption)];refine⟨rfl,?_⟩;repeat' split;all_goals first|rfl|(exfalso;omega))
 · rw[g 2 (by omega),g 3 (by omega)];unfold Lib.decodeN at *
   repeat' split at h
   all_goals first|(exfalso;simp only at h;omega)|skip
   all_goals (rw[if_neg (by assumption),if_neg (by omega),if_neg (by omega),if_pos (by omega),if_pos (by assumption)];refine⟨rfl,?_⟩;repeat' split;all_goals first|rfl|(exfalso;omega))
theorem C3 (h:bw (l.take n)=n) (h2:2<=n) (hl:n<=l.length):bw l=n:=by
 have g:∀i,i<n->(l.take n).getD i 0=l.getD i 0:=fun i hi=>by rw[List.getD_eq_getElem?_getD,List.getD_eq_getElem?_getD,List.getElem?_take_of_lt hi]
 have hlen:(l.take n).length=n:=by rw[List.length_take];omega
 have h4:=nj (l.take n);have q:n=2\/n=3\/n=4:=by omega
 unfold bw at *;rw[hlen,g 0 (by omega),g 1 (by omega)] at h
 rcases q with rfl|rfl|rfl
 · unfold Lib.decodeN at *
   repeat' split at h
   all_goals first|(exfalso;simp only at h;omega)|skip
   all_goals (rw[if_neg (by assumption),if_pos (by omega),if_pos (by assumption)])
 · rw[g 2 (by omega)] at h;unfold Lib.decodeN at *
   repeat' split at h
   all_goals first|(exfalso;simp only at h;omega)|skip
   all_goals (rw[if_neg (by assumption),if_neg (by omega),if_pos (by omega),if_pos (by assumption)])
 · rw[g 2 (by omega),g 3 (by omega)] at h;unfold Lib.decodeN at *
   repeat' split at h
   all_goals first|(exfalso;simp only at h;omega)|skip
   all_goals (rw[if_neg (by assumption),if_neg (by omega),if_neg (by omega),if_pos (by omega),if_pos (by assumption)])
theorem eD:∀(n:Nat) (l:By) (a c:Nat),c∈bH n l a->a<=c/\c<a+l.length
 | 0,_,_,_,h=>by simp[bH] at h
 |n+1,l,a,c,h=>by
  rw[bH] at h;split at h
  · simp at h
  · rename_i hl;have hp:=List.length_pos_iff.2 hl;have hr:=dm hl
    rcases List.mem_cons.1 h with rfl|h
    · omega
    · have:=eD n _ _ c h;rw[List.length_drop] at this;omega
theorem fT (h:c∈cq s):c<s.length:=by have:=eD _ _ _ _ h;omega
theorem pg:∀(n:Nat) (l:By) (a c:Nat),l.length<=n->c∈bH n l a ->
 (c+bw (l.drop (c-a))∈bH n l a\/c+bw (l.drop (c-a))=a+l.length)/\∀d,c<d->d<c+bw (l.drop (c-a))->d∉bH n l a
 | 0,_,_,_,_,h=>by simp[bH] at h
 |n+1,l,a,c,hn,h=>by
  rw[bH] at h ⊢;split at h
  · simp at h
  · rename_i hl;rw[if_neg hl];have hp:=List.length_pos_iff.2 hl;have hr:=dm hl;have hd:(l.drop (bw l)).length=l.length-bw l:=List.length_drop
    rcases List.mem_cons.1 h with rfl|h
    · rw[Nat.sub_self,List.drop_zero];refine⟨?_,fun d h1 h2 h3=>?_⟩
      · by_cases e:l.drop (bw l)=[]
        · right;rw[e] at hd;simp only[List.length_nil] at hd;omega
        · left
          refine List.mem_cons_of_mem _ ?_;cases n with
          |zero=>exact absurd (List.length_eq_zero_iff.1 (by omega)) e
          |succ n=>rw[bH,if_neg e];exact List.mem_cons_self
      · rcases List.mem_cons.1 h3 with rfl|h3
        · omega
        · have:=eD _ _ _ _ h3;omega
    · have hm:=eD _ _ _ _ h;have ih:=pg n (l.drop (bw l)) (a+bw l) c (by omega) h;rw[List.drop_drop,show bw l+(c-(a+bw l))=c-a by omega] at ih;refine⟨ih.1.imp (List.mem_cons_of_mem _) (fun e=>by omega),fun d h1 h2 h3=>?_⟩
      rcases List.mem_cons.1 h3 with rfl|h3
      · omega
      · exact ih.2 d h1 h2 h3
theorem pe:∀(n:Nat) (l:By) (a p:Nat),l.length<=n->a<p->(p∈bH n l a\/p=a+l.length)->∃q∈bH n l a,q+bw (l.drop (q-a))=p
 | 0,l,a,p,hn,h1,h=>by
  rcases h with h|h
  · simp[bH] at h
  · omega
 |n+1,l,a,p,hn,h1,h=>by
  have hl:l≠[]:=by
   rintro rfl
   rcases h with h|h
   · simp[bH] at h
   · simp only[List.length_nil] at h;omega
  have hr:=dm hl;have hd:(l.drop (bw l)).length=l.length-bw l:=List.length_drop;rw[bH,if_neg hl] at h ⊢
  rcases Nat.lt_trichotomy p (a+bw l) with q|q|q
  · exfalso
    rcases h with h|h
    · rcases List.mem_cons.1 h with h|h
      · omega
      · have:=eD _ _ _ _ h;omega
    · omega
  · exact⟨a,List.mem_cons_self,by rw[Nat.sub_self,List.drop_zero];omega⟩
  · obtain⟨x,hx,he⟩:=pe n (l.drop (bw l)) (a+bw l) p (by omega) q (by
     rcases h with h|h
     · rcases List.mem_cons.1 h with h|h
       · omega
       · exact .inl h
     · right;omega)
    have hm:=eD _ _ _ _ hx;rw[List.drop_drop,show bw l+(x-(a+bw l))=x-a by omega] at he;exact⟨x,List.mem_cons_of_mem _ hx,he⟩
theorem nL:∀(n:Nat) (l:By) (a c:Nat),l.length<=n->a<=c->c<a+l.length->¬(l.getD (c-a) 0).toNat / 64=2->c∈bH n l a
 | 0,l,a,c,hn,h1,h2,_=>by omega
 |n+1,l,a,c,hn,h1,h2,h=>by
  have hl:l≠[]:=by rintro rfl;simp only[List.length_nil] at h2;omega
  have hr:=dm hl;have hd:(l.drop (bw l)).length=l.length-bw l:=List.length_drop;rw[bH,if_neg hl]
  by_cases e:c=a
  · rw[e];exact List.mem_cons_self
  · refine List.mem_cons_of_mem _ (nL n _ _ c (by omega) ?_ (by omega) ?_)
    · rcases Nat.lt_or_ge c (a+bw l) with q|q
      · exact absurd (ni rfl (c-a) (by omega) (by omega)) h
      · exact q
    · have q:a+bw l<=c:=by
       rcases Nat.lt_or_ge c (a+bw l) with q|q
       · exact absurd (ni rfl (c-a) (by omega) (by omega)) h
       · exact q
      rw[List.getD_eq_getElem?_getD,List.getElem?_drop,show bw l+(c-(a+bw l))=c-a by omega,<-List.getD_eq_getElem?_getD];exact h
theorem qT (h:c∈cq s):jx s (c+bw (s.drop c))/\∀d,c<d->d<c+bw (s.drop c)->¬jx s d:=by
 have k:=pg s.length s 0 c (Nat.le_refl _) h;rw[Nat.sub_zero,Nat.zero_add] at k;refine⟨k.1,fun d h1 h2 h3=>?_⟩;have hc:=fT h;have hr:=dm (l:=s.drop c) (by intro e;have:=congrArg List.length e;rw[List.length_drop,List.length_nil] at this;omega);rw[List.length_drop] at hr
 rcases h3 with h3|h3
 · exact k.2 d h1 h2 h3
 · omega
theorem yK (h:jx s p) (hp:0<p):∃q∈cq s,q+bw (s.drop q)=p:=by
 obtain⟨q,h1,h2⟩:=pe s.length s 0 p (Nat.le_refl _) hp (by rcases h with h|h;exact .inl h;exact .inr (by omega));exact⟨q,h1,by simpa using h2⟩
theorem wZ (hc:c<s.length) (h:¬(s.getD c 0).toNat / 64=2):c∈cq s :=
 nL s.length s 0 c (Nat.le_refl _) (Nat.zero_le _) (by omega) (by rw[Nat.sub_zero];exact h)
theorem AO (b:UInt8):Lib.runeStartB b=decide (¬b.toNat / 64=2):=by unfold Lib.runeStartB;rw[Bool.eq_iff_iff];simp
theorem CP {i:Nat}(h:i<p):(s.take p).getD i 0=s.getD i 0:=by rw[List.getD_eq_getElem?_getD,List.getD_eq_getElem?_getD,List.getElem?_take_of_lt h]
theorem gq (s:By) (q i:Nat):(s.drop q).getD i 0=s.getD (q+i) 0:=by rw[List.getD_eq_getElem?_getD,List.getD_eq_getElem?_getD,List.getElem?_drop]
theorem Dr {q:Nat}(hq:q∈cq s) (hn:bw (s.drop q)=n):(Lib.decodeLastL (s.take (q+n))).2=n:=by
 have hqs:=fT hq;have hne:s.drop q≠[]:=by intro e;have:=congrArg List.length e;rw[List.length_drop,List.length_nil] at this;omega
 have hr:=dm hne;rw[List.length_drop,hn] at hr;have hlen:(s.take (q+n)).length=q+n:=by rw[List.length_take];omega
 have hnil:s.take (q+n)≠[]:=by intro e;rw[e] at hlen;simp only[List.length_nil] at hlen;omega
 have hg:∀i,i<q+n->(s.take (q+n)).getD i 0=s.getD i 0:=fun i hi=>CP hi
 have h4:=nj (s.drop q);unfold Lib.decodeLastL;rw[if_neg hnil,hlen,hg _ (by omega)]
 rcases Nat.lt_or_ge n 2 with h2|h2
 · have hn1:n=1:=by omega
   subst hn1;split
   · rfl
   · simp only[oJ];split
     · rename_i hb e;generalize hst:Lib.lastStart (s.take (q+1))=st at e;have hdl:((s.take (q+1)).drop st).length=q+1-st:=by rw[List.length_drop,hlen]
       by_cases hm:2<=bw ((s.take (q+1)).drop st)
       · exfalso;have hd:=vN hm;simp only[gq,Nat.add_zero] at hd;rw[hg st (by omega)] at hd;have hin:=wZ (c:=st) (by omega) hd.1;have e2:(s.take (q+1)).drop st=(s.drop st).take (q+1-st):=by rw[List.drop_take]
         have hk:bw (s.drop st)=q+1-st:=by
          refine C3 (n:=q+1-st) ?_ (by omega) (by rw[List.length_drop];omega);rw[<-e2];omega
         exact(qT hin).2 q (by omega) (by omega) (.inl hq)
       · have:1<=bw ((s.take (q+1)).drop st):=oI _ _ _ _ _;omega
     · rfl
 · have hcut:=Ew hn h2 (by rw[List.length_drop];omega);have e2:(s.take (q+n)).drop q=(s.drop q).take n:=by rw[List.drop_take,Nat.add_sub_cancel_left]
   have hlast:=ni hn (n-1) (by omega) (by omega);rw[gq,show q+(n-1)=q+n-1 by omega] at hlast;rw[if_neg (by omega)];have hhd:=vN (l:=s.drop q) (by omega);simp only[gq,Nat.add_zero] at hhd
   have hst:Lib.lastStart (s.take (q+n))=q:=by
    have hcon:∀i,1<=i->i<n->(s.getD (q+i) 0).toNat / 64=2:=fun i h1 h2=>by have:=ni hn i h1 h2;rwa [gq] at this
    have qn:n=2\/n=3\/n=4:=by omega
    unfold Lib.lastStart;simp only[hlen,AO];rw[if_neg (by omega)]
    rcases qn with rfl|rfl|rfl
    · rw[show q+2-2=q by omega,hg q (by omega),if_pos (decide_eq_true hhd.1)]
    · rw[show q+3-2=q+1 by omega,hg _ (by omega),if_neg (by rw[hcon 1 (by omega) (by omega)];simp),if_neg (by omega),show q+3-3=q by omega,hg q (by omega),if_pos (decide_eq_true hhd.1)]
    · rw[show q+4-2=q+2 by omega,hg _ (by omega),if_neg (by rw[hcon 2 (by omega) (by omega)];simp),if_neg (by omega),show q+4-3=q+1 by omega,hg _ (by omega),if_neg (by rw[hcon 1 (by omega) (by omega)];simp),if_neg (by omega),show q+4-4=q by omega,hg q (by omega),if_pos (decide_eq_true hhd.1)]
   simp only[oJ,hst,e2,hcut.1];rfl
theorem xD (h:jx s p):jx s (fA s p):=by
 by_cases h0:p=0
 · unfold fA;rw[if_pos (.inl h0)];exact h
 · obtain⟨q,h1,h2⟩:=yK h (by omega)
   have hp:p<=s.length:=by
    rcases h with h|h
    · have:=fT h;omega
    · omega
   have:=Dr h1 rfl;rw[h2] at this;unfold fA;rw[if_neg (by omega),this,show p-bw (s.drop q)=q by omega];exact .inl h1
def iG:By->Nat->Nat->Nat
 | [],_,o=>o
 |c::l,k,o=>iG l (k+1) (if c=10 then k+1 else o)
def bk (s:By) (a:Nat):Nat:=iG (s.take a) 0 0
def cY (s:By) (a:Nat):Nat:=a+((s.drop a).takeWhile (fun c=>decide (c≠10))).length
def dG (s:By) (a:Nat):Nat:=((cq s).takeWhile (fun k=>decide (k<a))).length
def jL (s:By) (n:Int):Nat:=if n<1 then 0 else (cq s).getD n.toNat s.length
def fW (c:Int) (d:Int):Bool:=decide (d=c) && decide (0<d)
def jY (so:Int->Bool) (s:By):Nat->Nat->Nat
 | 0,a=>a
 |n+1,a=>if 0<=eJ s a/\so (eJ s a)=true then jY so s n (cQ s a) else a
def cX (so:Int->Bool) (s:By) (a:Nat):Nat:=jY so s (s.length-a) a
def lQ (so:Int->Bool) (s:By):Nat->Nat->Nat
 | 0,a=>a
 |n+1,a=>if 0<=fI s a/\so (fI s a)=true then lQ so s n (fA s a) else a
def gF (so:Int->Bool) (s:By) (a:Nat):Nat:=lQ so s a a
def mz (s:By) (a:Nat) (up:Bool):Nat :=
 if up=true then (if bk s a=0 then a else let t:=bk s (bk s a-1);min (jL s ((dG s t:Int)+((dG s a:Int)-(dG s (bk s a):Nat)))) (cY s t))
 else (if s.length<cY s a+1 then a else let t:=bk s (cY s a+1);min (jL s ((dG s t:Int)+((dG s a:Int)-(dG s (bk s a):Nat)))) (cY s t))
def ey (c:Int):Bool:=decide (c=0)
def CK (c:Int):Bool:=decide (c=1)
def rR (c:Int):Bool:=decide (c≠1)
def BZ (s:By) (a:Nat):Nat :=
 let b:=cX ey s (cQ s a)
 let t:=cX (fW (eJ s b)) s b
 if b<t then fA s t else b
def ko (s:By) (a:Nat) (w:Int):Nat :=
 if w=0 then fA s a else if w=1 then cQ s a else if w=2 then bk s a else if w=3 then cY s a
 else if w=4 then mz s a true else if w=5 then mz s a false
 else if w=6 then cX CK s (cX rR s a) else if w=7 then gF CK s (gF rR s a)
 else if w=8 then cX ey s (cX (fW (eJ s a)) s a)
 else if w=9 then (let b:=gF ey s a;gF (fW (fI s b)) s b)
 else if w=10 then BZ s a
 else if w=11 then min (cX ey s (bk s a)) (cY s a)
 else if w=12 then 0 else if w=13 then s.length else a
def Ek (s:By) (w:Int):Nat->Nat->Nat
 | 0,a=>a
 |n+1,a=>if ko s a w=a then a else Ek s w n (ko s a w)
def gK (s:By) (a:Int) (w n:Int):Nat:=Ek s w (min (max n 0) 1000).toNat (eC s a)
theorem vJ:∀(l:By) (k o:Nat),o<=k->iG l k o<=k+l.length
 | [],k,o,h=>by simpa [iG] using h
 |c::l,k,o,h=>by
  rw[iG,List.length_cons];have:=vJ l (k+1) (if c=10 then k+1 else o) (by split<;>omega);omega
theorem eO (s:By) (a:Nat):bk s a<=a/\bk s a<=s.length:=by
 have:=vJ (s.take a) 0 0 (Nat.le_refl 0);rw[List.length_take] at this;unfold bk;omega
theorem ig (h:a<=s.length):a<=cY s a/\cY s a<=s.length:=by
 have:=List.Sublist.length_le (List.takeWhile_sublist (fun c=>decide (c≠10)) (l:=s.drop a));rw[List.length_drop] at this;unfold cY;omega
theorem dO (h:a<=s.length):a<=cQ s a/\cQ s a<=s.length:=by
 unfold cQ;split
 · omega
 · have:=dm (l:=s.drop a) (by intro e;have:=congrArg List.length e;rw[List.length_drop,List.length_nil] at this;omega);rw[List.length_drop] at this;omega
theorem sQ (h:a<s.length):a<cQ s a:=by
 unfold cQ;rw[if_neg (by omega)];have:=dm (l:=s.drop a) (by intro e;have:=congrArg List.length e;rw[List.length_drop,List.length_nil] at this;omega);omega
theorem pU (l:By) (h:l≠[]):1<=(Lib.decodeLastL l).2/\(Lib.decodeLastL l).2<=l.length:=by
 have hp:=List.length_pos_iff.2 h;unfold Lib.decodeLastL;rw[if_neg h];split
 · simp only;omega
 · simp only;split
   · rename_i e;rw[oJ] at e ⊢;simp only at e ⊢;have:=oI (l.drop (Lib.lastStart l)).length ((l.drop (Lib.lastStart l)).getD 0 0).toNat ((l.drop (Lib.lastStart l)).getD 1 0).toNat ((l.drop (Lib.lastStart l)).getD 2 0).toNat ((l.drop (Lib.lastStart l)).getD 3 0).toNat;unfold bw at e ⊢;omega
   · simp only;omega
theorem mB (s:By) (a:Nat):fA s a<=a:=by unfold fA;split<;>omega
theorem xE (h0:0<a) (h:a<=s.length):fA s a<a:=by
 unfold fA;rw[if_neg (by omega)];have:=pU (s.take a) (by intro e;have:=congrArg List.length e;rw[List.length_take,List.length_nil] at this;omega);omega
theorem xR (h:0<=eJ s a):a<s.length:=by
 unfold eJ at h;split at h
 · omega
 · omega
theorem qh (h:0<=fI s a):0<a/\a<=s.length:=by
 unfold fI at h;split at h
 · omega
 · omega
theorem og {so:Int->Bool}{s:By}:∀(n a:Nat),s.length<=n+a->jY so s n a=jY so s (s.length-a) a
 | 0,a,h=>by rw[show s.length-a=0 by omega]
 |n+1,a,h=>by
  rcases Nat.lt_or_ge a s.length with q|q
  · obtain⟨k,hk⟩:∃k,s.length-a=k+1:=⟨s.length-a-1,by omega⟩
    rw[hk,jY,jY];split
    · have:=sQ q;rw[og n _ (by omega),og k _ (by omega)]
    · rfl
  · rw[show s.length-a=0 by omega,jY,jY,if_neg];rintro⟨h1,_⟩;have:=xR h1;omega
 termination_by n a=>n
theorem C0 (h:0<=eJ s a) (h2:so (eJ s a)=true):cX so s a=cX so s (cQ s a):=by
 have q:=xR h;have:=sQ q;unfold cX;obtain⟨k,hk⟩:∃k,s.length-a=k+1:=⟨s.length-a-1,by omega⟩
 rw[hk,jY,if_pos ⟨h,h2⟩,og k _ (by omega)]
theorem CZ (h:¬(0<=eJ s a/\so (eJ s a)=true)):cX so s a=a:=by
 unfold cX;cases s.length-a with
 |zero=>rfl
 |succ n=>rw[jY,if_neg h]
theorem yN {so:Int->Bool}{s:By}:∀(n a:Nat),a<=s.length->a<=jY so s n a/\jY so s n a<=s.length
 | 0,a,h=>⟨Nat.le_refl _,h⟩
 |n+1,a,h=>by
  rw[jY];split
  · have:=dO h;have:=yN (so:=so) n (cQ s a) this.2;omega
  · omega
theorem fK (h:a<=s.length):a<=cX so s a/\cX so s a<=s.length:=yN _ _ h
theorem oQ {so:Int->Bool}{s:By}:∀(n a:Nat),a<=n->lQ so s n a=lQ so s a a
 | 0,a,h=>by rw[show a=0 by omega]
 |n+1,a,h=>by
  cases a with
  |zero =>
   rw[lQ,lQ,if_neg];rintro⟨h1,_⟩;have:=qh h1;omega
  |succ k =>
   rw[lQ,lQ];split
   · rename_i c;have q:=qh c.1;have:=xE q.1 q.2;rw[oQ n _ (by omega),oQ k _ (by omega)]
   · rfl
 termination_by n a=>n
theorem DU (h:0<=fI s a) (h2:so (fI s a)=true):gF so s a=gF so s (fA s a):=by
 have q:=qh h;have:=xE q.1 q.2;unfold gF;obtain⟨k,hk⟩:∃k,a=k+1:=⟨a-1,by omega⟩
 conv=>lhs;rw[hk,lQ,<-hk,if_pos ⟨h,h2⟩,oQ k _ (by omega)]
theorem DT (h:¬(0<=fI s a/\so (fI s a)=true)):gF so s a=a:=by
 unfold gF;cases a with
 |zero=>rfl
 |succ n=>rw[lQ,if_neg h]
theorem Ap {so:Int->Bool}{s:By}:∀(n a:Nat),lQ so s n a<=a
 | 0,a=>Nat.le_refl _
 |n+1,a=>by
  rw[lQ];split
  · have:=mB s a;have:=Ap (so:=so) (s:=s) n (fA s a);omega
  · omega
theorem mP:gF so s a<=a:=Ap _ _
theorem xS:∀(l:List Nat) (a:Int) (o:Nat),(∀k∈l,k∈l)->l.foldl (fun(o k:Nat)=>if (k:Int)<=a then k else o) o∈l\/l.foldl (fun(o k:Nat)=>if (k:Int)<=a then k else o) o=o
 | [],_,_,_=>.inr rfl
 |x::l,a,o,_=>by
  rw[List.foldl_cons]
  rcases xS l a (if (x:Int)<=a then x else o) (fun _ h=>h) with h|h
  · exact .inl (List.mem_cons_of_mem _ h)
  · rw[h];split
    · exact .inl List.mem_cons_self
    · exact .inr rfl
theorem yJ (h:s≠[]):0∈cq s:=by
 unfold cq;obtain⟨c,t,rfl⟩:=List.exists_cons_of_ne_nil h;rw[List.length_cons,bH,if_neg (by simp)];exact List.mem_cons_self
theorem gC (s:By) (a:Int):jx s (eC s a):=by
 unfold eC;split
 · exact .inr rfl
 · rcases xS (cq s) a 0 (fun _ h=>h) with h|h
   · exact .inl h
   · rw[h]
     by_cases hs:s=[]
     · subst hs;exact .inr rfl
     · exact .inl (yJ hs)
theorem lJ (h:jx s a):a<=s.length:=by
 rcases h with h|h
 · have:=fT h;omega
 · omega
theorem jE (s:By) (a:Int):eC s a<=s.length:=lJ (gC s a)
theorem vS (s:By) (n:Int):jL s n<=s.length:=by
 unfold jL;split
 · omega
 · rw[List.getD_eq_getElem?_getD];cases h:(cq s)[n.toNat]? with
   |none=>simp
   |some v =>
    have:=fT (List.mem_of_getElem? h);simp only[Option.getD_some];omega
theorem zD (h:a<=s.length) (up:Bool):mz s a up<=s.length:=by
 unfold mz;split
 · split
   · exact h
   · exact Nat.le_trans (Nat.min_le_left _ _) (vS _ _)
 · split
   · exact h
   · exact Nat.le_trans (Nat.min_le_left _ _) (vS _ _)
theorem eS {c:Prop}[Decidable c]{x y m:Nat}(h1:x<=m) (h2:y<=m):(if c then x else y)<=m:=by split<;>assumption
theorem zh (h:a<=s.length) (w:Int):ko s a w<=s.length:=by
 have hr:=dO h;have hb:∀(f g:Int->Bool),gF f s (gF g s a)<=s.length:=fun f g=>Nat.le_trans mP (Nat.le_trans mP h)
 have hs:∀(f g:Int->Bool),cX f s (cX g s a)<=s.length:=fun f g=>(fK (fK h).2).2
 unfold ko;refine eS (Nat.le_trans (mB s a) h) (eS hr.2 (eS (eO s a).2 (eS (ig h).2 (eS (zD h _) (eS (zD h _) (eS (hs _ _) (eS (hb _ _) (eS (hs _ _) (eS (hb _ _) (eS ?_ (eS (Nat.le_trans (Nat.min_le_right _ _) (ig h).2) (eS (Nat.zero_le _) (eS (Nat.le_refl _) h)))))))))))));unfold BZ;have h1:=fK (so:=ey) hr.2;have h2:=fK (so:=fW (eJ s (cX ey s (cQ s a)))) h1.2;simp only;exact eS (Nat.le_trans (mB _ _) h2.2) h1.2
theorem Ej {s:By}{w:Int}:∀(n a:Nat),a<=s.length->Ek s w n a<=s.length
 | 0,_,h=>h
 |n+1,a,h=>by
  rw[Ek];split
  · exact h
  · exact Ej n _ (zh h w)
theorem n5 (s:By) (a w n:Int):gK s a w n<=s.length:=Ej _ _ (jE s a)
end
end Go.Proofs.YtiigijehmmcfgaaGreatDoor

/- What the proof of the statement leans on (part 28). -/
import Derived.Lib.SpaceU
import Derived.Test.YtdihgdeciopfpaaGreatDoorQza

namespace Go.Proofs.YtdihgdeciopfpaaGreatDoor
open Go
section
variable {l s:By}{n c p:Nat}
def tq (l:By):Nat:=(Lib.decodeN l.length (l.getD 0 0).toNat (l.getD 1 0).toNat (l.getD 2 0).toNat (l.getD 3 0).toNat).1
def QA (r:Nat):Int:=if r=32\/r=9\/r=10\/r=13 then 0 else if (48<=r/\r<=57)\/(65<=r/\r<=90)\/(97<=r/\r<=122)\/r=95\/128<=r then 1 else 2
def bM:Nat->By->Nat->List Nat
  | 0,_,_=>[]
  |n+1,l,a=>if l=[] then [] else a::bM n (l.drop (aZ l)) (a+aZ l)
def cE (s:By):List Nat:=bM s.length s 0
def nT (s:By) (a:Int):Nat:=if (s.length:Int)<=a then s.length else (cE s).foldl (fun(o k:Nat)=>if (k:Int)<=a then k else o) 0
def vI (s:By) (a:Nat):Nat:=if a=0\/s.length<a then a else a-(Lib.decodeLastL (s.take a)).2
def DZ (s:By) (a:Nat):Nat:=if s.length<=a then a else a+aZ (s.drop a)
def Fx (s:By) (a:Nat):Int:=if s.length<=a then -1 else QA (tq (s.drop a))
def EU (s:By) (a:Nat):Int:=if a=0\/s.length<a then -1 else QA (Lib.decodeLastL (s.take a)).1
def xD (s:By) (a:Nat):Prop:=a∈cE s\/a=s.length
theorem wC (l:By):Lib.decodeL l=(tq l,aZ l):=by
  unfold Lib.decodeL tq aZ;rw[Lib.decode_at]
  have e:∀i,(ByteArray.get! ⟨l.toArray⟩ i)=l.getD i 0:=fun i=>by
    show (l.toArray)[i]! =_
    rw[getElem!_def,List.getElem?_toArray,List.getD_eq_getElem?_getD];cases l[i]? <;>rfl
  rw[e,e,e,e];rfl
theorem nI (h:aZ l=n) (i:Nat) (h1:1<=i) (h2:i<n):(l.getD i 0).toNat / 64=2:=by
  unfold aZ Lib.decodeN at h;have q:i=1\/i=2\/i=3\/4<=i:=by omega
  repeat' split at h
  all_goals first
    |(exfalso;simp only at h;omega)
    |(simp only at h;rename_i c _;rcases q with rfl|rfl|rfl|q<;>first|exact c.2.2|exact c.2.1.2|exact c.2.2.2|exact c.2.2.1.2|exact c.2.2.2.2|(exfalso;omega))
theorem zb (h:2<=aZ l):¬(l.getD 0 0).toNat / 64=2/\128<=(l.getD 0 0).toNat:=by
  unfold aZ Lib.decodeN at h
  repeat' split at h
  all_goals first|(exfalso;simp only at h;omega)|(constructor<;>omega)
theorem rA (l:By):aZ l<=4:=by
  unfold aZ Lib.decodeN
  repeat' split
  all_goals simp
theorem Iq (h:aZ l=n) (h2:2<=n) (hl:n<=l.length):aZ (l.take n)=n/\tq (l.take n)=tq l:=by
  have g:∀i,i<n->(l.take n).getD i 0=l.getD i 0:=fun i hi=>by rw[List.getD_eq_getElem?_getD,List.getD_eq_getElem?_getD,List.getElem?_take_of_lt hi]
  have hlen:(l.take n).length=n:=by rw[List.length_take];omega
  have h4:=rA l;unfold aZ tq at *;rw[hlen,g 0 (by omega),g 1 (by omega)];have q:n=2\/n=3\/n=4:=by omega
  rcases q with rfl|rfl|rfl
  · unfold Lib.decodeN at *
    repeat' split at h
    all_goals first|(exfalso;simp only at h;omega)|skip
    all_goals (rw[if_neg (by assumption),if_pos (by omega),if_pos (by assumption)];refine⟨rfl,?_⟩;repeat' split;all_goals first|rfl|(exfalso;omega))
  · rw[g 2 (by omega)];unfold Lib.decodeN at *
    repeat' split at h
    all_goals first|(exfalso;simp only at h;omega)|skip
    all_goals (rw[if_neg (by assumption),if_neg (by omega),if_pos (by omega),if_pos (by assumption)];refine⟨rfl,?_⟩;repeat' split;all_goals first|rfl|(exfalso;omega))
  · rw[g 2 (by omega),g 3 (by omega)];unfold Lib.decodeN at *
    repeat' split at h
    all_goals first|(exfalso;simp only at h;omega)|skip
    all_goals (rw[if_neg (by assumption),if_neg (by omega),if_neg (by omega),if_pos (by omega),if_pos (by assumption)];refine⟨rfl,?_⟩;repeat' split;all_goals first|rfl|(exfalso;omega))
theorem Gr (h:aZ (l.take n)=n) (h2:2<=n) (hl:n<=l.length):aZ l=n:=by
  have g:∀i,i<n->(l.take n).getD i 0=l.getD i 0:=fun i hi=>by rw[List.getD_eq_getElem?_getD,List.getD_eq_getElem?_getD,List.getElem?_take_of_lt hi]
  have hlen:(l.take n).length=n:=by rw[List.length_take];omega
  have h4:=rA (l.take n);have q:n=2\/n=3\/n=4:=by omega
  unfold aZ at *;rw[hlen,g 0 (by omega),g 1 (by omega)] at h
  rcases q with rfl|rfl|rfl
  · unfold Lib.decodeN at *
    repeat' split at h
    all_goals first|(exfalso;simp only at h;omega)|skip
    all_goals (rw[if_neg (by assumption),if_pos (by omega),if_pos (by assumption)])
  · rw[g 2 (by omega)] at h;unfold Lib.decodeN at *
    repeat' split at h
    all_goals first|(exfalso;simp only at h;omega)|skip
    all_goals (rw[if_neg (by assumption),if_neg (by omega),if_pos (by omega),if_pos (by assumption)])
  · rw[g 2 (by omega),g 3 (by omega)] at h;unfold Lib.decodeN at *
    repeat' split at h
    all_goals first|(exfalso;simp only at h;omega)|skip
    all_goals (rw[if_neg (by assumption),if_neg (by omega),if_neg (by omega),if_pos (by omega),if_pos (by assumption)])
theorem eX:∀(n:Nat) (l:By) (a c:Nat),c∈bM n l a->a<=c/\c<a+l.length
  | 0,_,_,_,h=>by simp[bM] at h
  |n+1,l,a,c,h=>by
    rw[bM] at h;split at h
    · simp at h
    · rename_i hl;have hp:=List.length_pos_iff.2 hl;have hr:=dG hl
      rcases List.mem_cons.1 h with rfl|h
      · omega
      · have:=eX n _ _ c h;rw[List.length_drop] at this;omega
theorem iZ (h:c∈cE s):c<s.length:=by have:=eX _ _ _ _ h;omega
theorem pY:∀(n:Nat) (l:By) (a c:Nat),l.length<=n->c∈bM n l a ->
    (c+aZ (l.drop (c-a))∈bM n l a\/c+aZ (l.drop (c-a))=a+l.length)/\∀d,c<d->d<c+aZ (l.drop (c-a))->d∉bM n l a
  | 0,_,_,_,_,h=>by simp[bM] at h
  |n+1,l,a,c,hn,h=>by
    rw[bM] at h ⊢;split at h
    · simp at h
    · rename_i hl;rw[if_neg hl];have hp:=List.length_pos_iff.2 hl;have hr:=dG hl;have hd:(l.drop (aZ l)).length=l.length-aZ l:=List.length_drop
      rcases List.mem_cons.1 h with rfl|h
      · rw[Nat.sub_self,List.drop_zero];refine⟨?_,fun d h1 h2 h3=>?_⟩
        · by_cases e:l.drop (aZ l)=[]
          · right;rw[e] at hd;simp only[List.length_nil] at hd;omega
          · left
            refine List.mem_cons_of_mem _ ?_;cases n with
            |zero=>exact absurd (List.length_eq_zero_iff.1 (by omega)) e
            |succ n=>rw[bM,if_neg e];exact List.mem_cons_self
        · rcases List.mem_cons.1 h3 with rfl|h3
          · omega
          · have:=eX _ _ _ _ h3;omega
      · have hm:=eX _ _ _ _ h;have ih:=pY n (l.drop (aZ l)) (a+aZ l) c (by omega) h;rw[List.drop_drop,show aZ l+(c-(a+aZ l))=c-a by omega] at ih;refine⟨ih.1.imp (List.mem_cons_of_mem _) (fun e=>by omega),fun d h1 h2 h3=>?_⟩
        rcases List.mem_cons.1 h3 with rfl|h3
        · omega
        · exact ih.2 d h1 h2 h3
theorem pX:∀(n:Nat) (l:By) (a p:Nat),l.length<=n->a<p->(p∈bM n l a\/p=a+l.length)->∃q∈bM n l a,q+aZ (l.drop (q-a))=p
  | 0,l,a,p,hn,h1,h=>by
    rcases h with h|h
    · simp[bM] at h
    · omega
  |n+1,l,a,p,hn,h1,h=>by
    have hl:l≠[]:=by
      rintro rfl
      rcases h with h|h
      · simp[bM] at h
      · simp only[List.length_nil] at h;omega
    have hr:=dG hl;have hd:(l.drop (aZ l)).length=l.length-aZ l:=List.length_drop;rw[bM,if_neg hl] at h ⊢
    rcases Nat.lt_trichotomy p (a+aZ l) with q|q|q
    · exfalso
      rcases h with h|h
      · rcases List.mem_cons.1 h with h|h
        · omega
        · have:=eX _ _ _ _ h;omega
      · omega
    · exact⟨a,List.mem_cons_self,by rw[Nat.sub_self,List.drop_zero];omega⟩
    · obtain⟨x,hx,he⟩:=pX n (l.drop (aZ l)) (a+aZ l) p (by omega) q (by
        rcases h with h|h
        · rcases List.mem_cons.1 h with h|h
          · omega
          · exact .inl h
        · right;omega)
      have hm:=eX _ _ _ _ hx;rw[List.drop_drop,show aZ l+(x-(a+aZ l))=x-a by omega] at he;exact⟨x,List.mem_cons_of_mem _ hx,he⟩
theorem nZ:∀(n:Nat) (l:By) (a c:Nat),l.length<=n->a<=c->c<a+l.length->¬(l.getD (c-a) 0).toNat / 64=2->c∈bM n l a
  | 0,l,a,c,hn,h1,h2,_=>by omega
  |n+1,l,a,c,hn,h1,h2,h=>by
    have hl:l≠[]:=by rintro rfl;simp only[List.length_nil] at h2;omega
    have hr:=dG hl;have hd:(l.drop (aZ l)).length=l.length-aZ l:=List.length_drop;rw[bM,if_neg hl]
    by_cases e:c=a
    · rw[e];exact List.mem_cons_self
    · refine List.mem_cons_of_mem _ (nZ n _ _ c (by omega) ?_ (by omega) ?_)
      · rcases Nat.lt_or_ge c (a+aZ l) with q|q
        · exact absurd (nI rfl (c-a) (by omega) (by omega)) h
        · exact q
      · have q:a+aZ l<=c:=by
          rcases Nat.lt_or_ge c (a+aZ l) with q|q
          · exact absurd (nI rfl (c-a) (by omega) (by omega)) h
          · exact q
        rw[List.getD_eq_getElem?_getD,List.getElem?_drop,show aZ l+(c-(a+aZ l))=c-a by omega,<-List.getD_eq_getElem?_getD];exact h
theorem BT (h:c∈cE s):xD s (c+aZ (s.drop c))/\∀d,c<d->d<c+aZ (s.drop c)->¬xD s d:=by
  have k:=pY s.length s 0 c (Nat.le_refl _) h;rw[Nat.sub_zero,Nat.zero_add] at k;refine⟨k.1,fun d h1 h2 h3=>?_⟩;have hc:=iZ h;have hr:=dG (l:=s.drop c) (by intro e;have:=congrArg List.length e;rw[List.length_drop,List.length_nil] at this;omega);rw[List.length_drop] at hr
  rcases h3 with h3|h3
  · exact k.2 d h1 h2 h3
  · omega
theorem BS (h:xD s p) (hp:0<p):∃q∈cE s,q+aZ (s.drop q)=p:=by
  obtain⟨q,h1,h2⟩:=pX s.length s 0 p (Nat.le_refl _) hp (by rcases h with h|h;exact .inl h;exact .inr (by omega));exact⟨q,h1,by simpa using h2⟩
theorem pW (hc:c<s.length) (h:¬(s.getD c 0).toNat / 64=2):c∈cE s :=
  nZ s.length s 0 c (Nat.le_refl _) (Nat.zero_le _) (by omega) (by rw[Nat.sub_zero];exact h)
theorem DR (b:UInt8):Lib.runeStartB b=decide (¬b.toNat / 64=2):=by unfold Lib.runeStartB;rw[Bool.eq_iff_iff];simp
theorem Gf {i:Nat}(h:i<p):(s.take p).getD i 0=s.getD i 0:=by rw[List.getD_eq_getElem?_getD,List.getD_eq_getElem?_getD,List.getElem?_take_of_lt h]
theorem gp (s:By) (q i:Nat):(s.drop q).getD i 0=s.getD (q+i) 0:=by rw[List.getD_eq_getElem?_getD,List.getD_eq_getElem?_getD,List.getElem?_drop]
theorem GW {q:Nat}(hq:q∈cE s) (hn:aZ (s.drop q)=n):(Lib.decodeLastL (s.take (q+n))).2=n:=by
  have hqs:=iZ hq;have hne:s.drop q≠[]:=by intro e;have:=congrArg List.length e;rw[List.length_drop,List.length_nil] at this;omega
  have hr:=dG hne;rw[List.length_drop,hn] at hr;have hlen:(s.take (q+n)).length=q+n:=by rw[List.length_take];omega
  have hnil:s.take (q+n)≠[]:=by intro e;rw[e] at hlen;simp only[List.length_nil] at hlen;omega
  have hg:∀i,i<q+n->(s.take (q+n)).getD i 0=s.getD i 0:=fun i hi=>Gf hi
  have h4:=rA (s.drop q);unfold Lib.decodeLastL;rw[if_neg hnil,hlen,hg _ (by omega)]
  rcases Nat.lt_or_ge n 2 with h2|h2
  · have hn1:n=1:=by omega
    subst hn1;split
    · rfl
    · simp only[wC];split
      · rename_i hb e;generalize hst:Lib.lastStart (s.take (q+1))=st at e;have hdl:((s.take (q+1)).drop st).length=q+1-st:=by rw[List.length_drop,hlen]
        by_cases hm:2<=aZ ((s.take (q+1)).drop st)
        · exfalso;have hd:=zb hm;simp only[gp,Nat.add_zero] at hd;rw[hg st (by omega)] at hd;have hin:=pW (c:=st) (by omega) hd.1;have e2:(s.take (q+1)).drop st=(s.drop st).take (q+1-st):=by rw[List.drop_take]
          have hk:aZ (s.drop st)=q+1-st:=by
            refine Gr (n:=q+1-st) ?_ (by omega) (by rw[List.length_drop];omega);rw[<-e2];omega
          exact(BT hin).2 q (by omega) (by omega) (.inl hq)
        · have:1<=aZ ((s.take (q+1)).drop st):=wB _ _ _ _ _;omega
      · rfl
  · have hcut:=Iq hn h2 (by rw[List.length_drop];omega);have e2:(s.take (q+n)).drop q=(s.drop q).take n:=by rw[List.drop_take,Nat.add_sub_cancel_left]
    have hlast:=nI hn (n-1) (by omega) (by omega);rw[gp,show q+(n-1)=q+n-1 by omega] at hlast;rw[if_neg (by omega)];have hhd:=zb (l:=s.drop q) (by omega);simp only[gp,Nat.add_zero] at hhd
    have hst:Lib.lastStart (s.take (q+n))=q:=by
      have hcon:∀i,1<=i->i<n->(s.getD (q+i) 0).toNat / 64=2:=fun i h1 h2=>by have:=nI hn i h1 h2;rwa [gp] at this
      have qn:n=2\/n=3\/n=4:=by omega
      unfold Lib.lastStart;simp only[hlen,DR];rw[if_neg (by omega)]
      rcases qn with rfl|rfl|rfl
      · rw[show q+2-2=q by omega,hg q (by omega),if_pos (decide_eq_true hhd.1)]
      · rw[show q+3-2=q+1 by omega,hg _ (by omega),if_neg (by rw[hcon 1 (by omega) (by omega)];simp),if_neg (by omega),show q+3-3=q by omega,hg q (by omega),if_pos (decide_eq_true hhd.1)]
      · rw[show q+4-2=q+2 by omega,hg _ (by omega),if_neg (by rw[hcon 2 (by omega) (by omega)];simp),if_neg (by omega),show q+4-3=q+1 by omega,hg _ (by omega),if_neg (by rw[hcon 1 (by omega) (by omega)];simp),if_neg (by omega),show q+4-4=q by omega,hg q (by omega),if_pos (decide_eq_true hhd.1)]
    simp only[wC,hst,e2,hcut.1];rfl
theorem KP (h:xD s p):xD s (vI s p):=by
  by_cases h0:p=0
  · unfold vI;rw[if_pos (.inl h0)];exact h
  · obtain⟨q,h1,h2⟩:=BS h (by omega)
    have hp:p<=s.length:=by
      rcases h with h|h
      · have:=iZ h;omega
      · omega
    have:=GW h1 rfl;rw[h2] at this;unfold vI;rw[if_neg (by omega),this,show p-aZ (s.drop q)=q by omega];exact .inl h1
def Il:By->Nat->Nat->Nat
  | [],_,o=>o
  |c::l,k,o=>Il l (k+1) (if c=10 then k+1 else o)
def gy (s:By) (a:Nat):Nat:=Il (s.take a) 0 0
def o6 (s:By) (a:Nat):Nat:=a+((s.drop a).takeWhile (fun c=>decide (c≠10))).length
def rz (s:By) (a:Nat):Nat:=((cE s).takeWhile (fun k=>decide (k<a))).length
def IF (s:By) (n:Int):Nat:=if n<1 then 0 else (cE s).getD n.toNat s.length
def D6 (c:Int) (d:Int):Bool:=decide (d=c) && decide (0<d)
def LZ (so:Int->Bool) (s:By):Nat->Nat->Nat
  | 0,a=>a
  |n+1,a=>if 0<=Fx s a/\so (Fx s a)=true then LZ so s n (DZ s a) else a
def uO (so:Int->Bool) (s:By) (a:Nat):Nat:=LZ so s (s.length-a) a
def MR (so:Int->Bool) (s:By):Nat->Nat->Nat
  | 0,a=>a
  |n+1,a=>if 0<=EU s a/\so (EU s a)=true then MR so s n (vI s a) else a
def FN (so:Int->Bool) (s:By) (a:Nat):Nat:=MR so s a a
def Ms (s:By) (a:Nat) (up:Bool):Nat :=
  if up=true then (if gy s a=0 then a else let t:=gy s (gy s a-1);min (IF s ((rz s t:Int)+((rz s a:Int)-(rz s (gy s a):Nat)))) (o6 s t))
  else (if s.length<o6 s a+1 then a else let t:=gy s (o6 s a+1);min (IF s ((rz s t:Int)+((rz s a:Int)-(rz s (gy s a):Nat)))) (o6 s t))
def Bh (c:Int):Bool:=decide (c=0)
def OM (c:Int):Bool:=decide (c=1)
def MP (c:Int):Bool:=decide (c≠1)
def OR (s:By) (a:Nat):Nat :=
  let b:=uO Bh s (DZ s a)
  let t:=uO (D6 (Fx s b)) s b
  if b<t then vI s t else b
def Ft (s:By) (a:Nat) (w:Int):Nat :=
  if w=0 then vI s a else if w=1 then DZ s a else if w=2 then gy s a else if w=3 then o6 s a
  else if w=4 then Ms s a true else if w=5 then Ms s a false
  else if w=6 then uO OM s (uO MP s a) else if w=7 then FN OM s (FN MP s a)
  else if w=8 then uO Bh s (uO (D6 (Fx s a)) s a)
  else if w=9 then (let b:=FN Bh s a;FN (D6 (EU s b)) s b)
  else if w=10 then OR s a
  else if w=11 then min (uO Bh s (gy s a)) (o6 s a)
  else if w=12 then 0 else if w=13 then s.length else a
def Q8 (s:By) (w:Int):Nat->Nat->Nat
  | 0,a=>a
  |n+1,a=>if Ft s a w=a then a else Q8 s w n (Ft s a w)
def BF (s:By) (a:Int) (w n:Int):Nat:=Q8 s w (min (max n 0) 1000).toNat (nT s a)
theorem FC:∀(l:List Nat) (a:Int) (o:Nat),(∀k∈l,k∈l)->l.foldl (fun(o k:Nat)=>if (k:Int)<=a then k else o) o∈l\/l.foldl (fun(o k:Nat)=>if (k:Int)<=a then k else o) o=o
  | [],_,_,_=>.inr rfl
  |x::l,a,o,_=>by
    rw[List.foldl_cons]
    rcases FC l a (if (x:Int)<=a then x else o) (fun _ h=>h) with h|h
    · exact .inl (List.mem_cons_of_mem _ h)
    · rw[h];split
      · exact .inl List.mem_cons_self
      · exact .inr rfl
theorem BR (h:s≠[]):0∈cE s:=by
  unfold cE;obtain⟨c,t,rfl⟩:=List.exists_cons_of_ne_nil h;rw[List.length_cons,bM,if_neg (by simp)];exact List.mem_cons_self
theorem tL (s:By) (a:Int):xD s (nT s a):=by
  unfold nT;split
  · exact .inr rfl
  · rcases FC (cE s) a 0 (fun _ h=>h) with h|h
    · exact .inl h
    · rw[h]
      by_cases hs:s=[]
      · subst hs;exact .inr rfl
      · exact .inl (BR hs)
theorem Pc {a:Nat}(h:xD s a):a<=s.length:=by
  rcases h with h|h
  · have:=iZ h;omega
  · omega
end
end Go.Proofs.YtdihgdeciopfpaaGreatDoor

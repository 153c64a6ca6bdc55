/- What the proof of the statement leans on (part 22). -/
import Derived.Lib.DecodeN
import Derived.Lib.IndexMore
import Derived.Test.YtdihgdeciopfpaaGreatDoorQu

namespace Go.Proofs.YtdihgdeciopfpaaGreatDoor
open Go
section
variable {l s:By}{n j i:Nat}
def ey (m:Int) (l:By):Int×Int:=if m=0 then cV Am 53 l else if m=1 then cV Al 10 l else if m=2 then cV Ak 11 l else (0,-1)
def vP (m:Int):List (Int×Int):=if m=0 then [(1,0),(2,0),(3,0),(5,0),(11,0),(11,3),(9,1),(7,0),(8,0),(6,0)] else if m=1 then [(9,0),(10,0),(9,2),(9,0)] else if m=2 then [(11,3),(11,4),(11,0),(11,0)] else []
def jg (m n:Int):Option (Int×Int):=if n<0 then none else (vP m)[n.toNat]?
def qs (m n:Int):Int:=match jg m n with|some p=>p.1|none=>0
abbrev ew:=Int×Int
def jk (s:ew) (n:Int):ew:=match jg s.1 n with
  |none=>s
  |some p=>if p.2=0 then s else if p.2=1 then (1,0) else if p.2=3 then (2,min (max s.2 0) 16383+1) else if p.2=4/\1<s.2 then (s.1,s.2-1) else (0,0)
def HR:By:=[32,105,102,32,101,108,115,101,32,108,101,116,32,105,110,32,102,117,110,32,116,114,117,101,32,102,97,108,115,101,32,97,110,100,32,111,114,32,110,111,116,32]
def rX (s:By):Bool:=decide (s≠[]) && (!Lib.contains s [32] && Lib.contains HR (32::(s++[32])))
def aZ (l:By):Nat:=(Lib.decodeN l.length (l.getD 0 0).toNat (l.getD 1 0).toNat (l.getD 2 0).toNat (l.getD 3 0).toNat).2
def bF (l:By) (m:Int):Nat:=if (ey m l).1=0 then aZ l else (ey m l).1.toNat
def mh (l:By) (m:Int):Int:=if (ey m l).1=0 then 0 else if qs m (ey m l).2=3/\rX (l.take (ey m l).1.toNat)=true then 4 else qs m (ey m l).2
def dH (l:By) (st:ew):ew:=if (ey st.1 l).1=0 then st else jk st (ey st.1 l).2
abbrev Tk:=Int×Int×Int
def dK:Nat->By->Nat->ew->List Tk×ew
  | 0,_,_,st=>([],st)
  |n+1,l,at_,st=>if l=[] then ([],st) else
    (((mh l st.1,(at_:Int),((at_+bF l st.1:Nat):Int)):Tk)::(dK n (l.drop (bF l st.1)) (at_+bF l st.1) (dH l st)).1,(dK n (l.drop (bF l st.1)) (at_+bF l st.1) (dH l st)).2)
def bh (s:By):List Tk×ew:=dK s.length s 0 (0,0)
theorem wB (n b0 b1 b2 b3:Nat):1<=(Lib.decodeN n b0 b1 b2 b3).2:=by
  unfold Lib.decodeN
  repeat' split
  all_goals simp
theorem Ey (n b0 b1 b2 b3:Nat) (hn:1<=n):(Lib.decodeN n b0 b1 b2 b3).2<=n:=by
  unfold Lib.decodeN
  repeat' split
  all_goals (simp only;omega)
theorem dG (h:l≠[]):1<=aZ l/\aZ l<=l.length:=⟨wB _ _ _ _ _,Ey _ _ _ _ _ (List.length_pos_iff.2 h)⟩
theorem Mq:Made DY Am 53:=fe Rb
theorem lW:Made DX Al 10:=fe Kg
theorem Mp:Made DW Ak 11:=fe Ra
theorem je (m:Int) (l:By):0<=(ey m l).1/\(ey m l).1<=l.length:=by
  have key:∀{rules:List By}{ss:List bC}{st:Nat},Made rules ss st->0<=(cV ss st l).1/\(cV ss st l).1<=l.length:=fun k=>by
    rcases mP k l with ⟨e,_⟩|⟨n,r,e,hn,_⟩
    · rw[e];simp
    · rw[e];simp only;omega
  unfold ey;split
  · exact key Mq
  · split
    · exact key lW
    · split
      · exact key Mp
      · simp
theorem dX (h:l≠[]) (m:Int):1<=bF l m/\bF l m<=l.length:=by
  have h1:=je m l;have h2:=dG h;unfold bF;split
  · exact h2
  · omega
theorem nP:∀(n k:Nat) (l:By) (a:Nat) (st:ew),l.length<=n->l.length<=k->dK n l a st=dK k l a st
  | 0,0,_,_,_,_,_=>rfl
  | 0,k+1,l,a,st,h,_=>by
    have:l=[]:=List.length_eq_zero_iff.1 (by omega);rw[dK,dK,if_pos this]
  |n+1,0,l,a,st,_,h=>by
    have:l=[]:=List.length_eq_zero_iff.1 (by omega);rw[dK,dK,if_pos this]
  |n+1,k+1,l,a,st,h1,h2=>by
    rw[dK,dK]
    by_cases hl:l=[]
    · rw[if_pos hl,if_pos hl]
    · have:=dX hl st.1;rw[if_neg hl,if_neg hl,nP n k _ _ _ (by rw[List.length_drop];omega) (by rw[List.length_drop];omega)]
theorem sN {d:bP}:∀(l x:By) (s k:Nat) (b:Int×Int),(aP d l s k b).2.2<((k+l.length:Nat):Int)->aP d (l++x) s k b=aP d l s k b
  | [],x,s,k,b,h=>by
    exfalso;rw[aP] at h;split at h
    · simp only[List.length_nil,Nat.add_zero] at h;omega
    · simp only[List.length_nil,Nat.add_zero] at h;omega
  |c::l,x,s,k,b,h=>by
    rw[List.cons_append,aP,aP];rw[aP] at h;split
    · rename_i hp;rw[if_pos hp] at h;exact sN l x _ _ _ (by rw[List.length_cons] at h;rw[show k+1+l.length=k+(l.length+1) by omega];exact h)
    · rfl
theorem iT {rules:List By}{ss:List bC}{st:Nat}(hm:eR rules= .inr (ss,st)){H:List (List Nat×Nat)}{tab reps:List UInt8}(hr:iP ss tab reps=true) (ha:pz ss H reps=true) (hs:AZ H (cg ss st)=some 0/\cg ss st≠[]/\¬0<=bn ss (cg ss st)) (hH:H.length<=2000) :
    ∃d,fX ss st= .inr d/\(∀l,(aP d l 0 0 (0,-1)).2.2<=(cV ss st l).1+2)/\∀l x:By,(cV ss st l).1+2<l.length->cV ss st (l++x)=cV ss st l:=by
  have hM:=fe hm;have hmem:=vV hs.1;obtain⟨d,hd⟩:=CZ (JH hr ha) (by simpa using hH) (fun e=>hs.2.1 (List.length_eq_zero_iff.1 e)) (List.mem_map.2 ⟨_,hmem,rfl⟩);obtain⟨_,L,h1,h2,_⟩:=iO hd;have hst:=hM.stl;have hmt:=fun l=>lK hd (by omega) l
  have h2s:∀l,(aP d l 0 0 (0,-1)).2.2<=(aP d l 0 0 (0,-1)).1+2:=fun l=>yV h1 h2 hr ha l 0 0 (0,-1) _ 0 h1.first hmem (by rw[if_neg hs.2.2];simp)
  have hmt1:∀l,(aP d l 0 0 (0,-1)).1=(cV ss st l).1:=fun l=>by have:=hmt l;rw[<-this]
  refine⟨d,hd,fun l=>by rw[<-hmt1];exact h2s l,fun l x hlt=>?_⟩;have:=h2s l;rw[hmt1] at this;rw[<-hmt (l++x),<-hmt l,sN l x 0 0 (0,-1) (by rw[Nat.zero_add];omega)]
theorem nM:Ov.length<=2000/\R5.length<=2000/\KX.length<=2000:=by decide
theorem rE (m:Int) (l x:By) (h:(ey m l).1+2<l.length):ey m (l++x)=ey m l:=by
  obtain⟨_,_,_,h0⟩:=iT Rb ML MO MH nM.1;obtain⟨_,_,_,h1⟩:=iT Kg MK MN MG nM.2.1;obtain⟨_,_,_,h2⟩:=iT Ra MJ MM MF nM.2.2;unfold ey at h ⊢;split
  · rename_i e;rw[if_pos e] at h;exact h0 l x h
  · rename_i e;rw[if_neg e] at h;split
    · rename_i e;rw[if_pos e] at h;exact h1 l x h
    · rename_i e;rw[if_neg e] at h;split
      · rename_i e;rw[if_pos e] at h;exact h2 l x h
      · rfl
theorem y9 {x:By}(h:4<=l.length):aZ (l++x)=aZ l:=by
  have hg:∀i,i<4->(l++x).getD i 0=l.getD i 0:=fun i hi=>by rw[List.getD_eq_getElem?_getD,List.getD_eq_getElem?_getD,List.getElem?_append_left (by omega)]
  unfold aZ;rw[hg 0 (by decide),hg 1 (by decide),hg 2 (by decide),hg 3 (by decide),List.length_append]
  have key:∀n k b0 b1 b2 b3:Nat,4<=n->Lib.decodeN (n+k) b0 b1 b2 b3=Lib.decodeN n b0 b1 b2 b3:=fun n k b0 b1 b2 b3 hn=>by
    have e1:(1<n+k)=(1<n):=propext ⟨fun _=>by omega,fun _=>by omega⟩;have e2:(2<n+k)=(2<n):=propext ⟨fun _=>by omega,fun _=>by omega⟩;have e3:(3<n+k)=(3<n):=propext ⟨fun _=>by omega,fun _=>by omega⟩;simp only[Lib.decodeN,e1,e2,e3]
  rw[key _ _ _ _ _ _ h]
theorem Ci (h0:l≠[]) (x:By) (st:ew) (h:bF l st.1+2<l.length):bF (l++x) st.1=bF l st.1/\mh (l++x) st.1=mh l st.1/\dH (l++x) st=dH l st:=by
  have hl:=je st.1 l;have hr:=dG h0
  have hm:ey st.1 (l++x)=ey st.1 l:=by
    refine rE st.1 l x ?_;unfold bF at h;split at h
    · omega
    · omega
  unfold bF mh dH;rw[hm];unfold bF at h;split at h
  · rename_i e;simp only[if_pos e];exact⟨y9 (by omega),trivial,trivial⟩
  · rename_i e;simp only[if_neg e];rw[List.take_append_of_le_length (by omega)];exact⟨trivial,rfl,trivial⟩
theorem nr (n a:Nat) (st:ew):dK n [] a st=([],st):=by cases n<;>simp[dK]
theorem gS (hl:l≠[]) (hn:l.length<=n) (a:Nat) (st:ew) :
    dK n l a st=((mh l st.1,(a:Int),((a+bF l st.1:Nat):Int))::(dK n (l.drop (bF l st.1)) (a+bF l st.1) (dH l st)).1,(dK n (l.drop (bF l st.1)) (a+bF l st.1) (dH l st)).2):=by
  have hp:=List.length_pos_iff.2 hl;have hk:=dX hl st.1;obtain⟨m,rfl⟩:∃m,n=m+1:=⟨n-1,by omega⟩
  rw[nP (m+1) (m+1) (l.drop (bF l st.1)) _ _ (by rw[List.length_drop];omega) (by rw[List.length_drop];omega),<-nP m (m+1) (l.drop (bF l st.1)) (a+bF l st.1) (dH l st) (by rw[List.length_drop];omega) (by rw[List.length_drop];omega)];rw[dK,if_neg hl]
def iI:Nat->By->ew->List ew
  | 0,_,st=>[st]
  |n+1,l,st=>if l=[] then [st] else st::iI n (l.drop (bF l st.1)) (dH l st)
def pV (s:By):List ew:=iI s.length s (0,0)
theorem ri:∀(n k:Nat) (l:By) (st:ew),l.length<=n->l.length<=k->iI n l st=iI k l st
  | 0,0,_,_,_,_=>rfl
  | 0,k+1,l,st,h,_=>by
    have:l=[]:=List.length_eq_zero_iff.1 (by omega);rw[iI,iI,if_pos this]
  |n+1,0,l,st,_,h=>by
    have:l=[]:=List.length_eq_zero_iff.1 (by omega);rw[iI,iI,if_pos this]
  |n+1,k+1,l,st,h1,h2=>by
    rw[iI,iI]
    by_cases hl:l=[]
    · rw[if_pos hl,if_pos hl]
    · have:=dX hl st.1;rw[if_neg hl,if_neg hl,ri n k _ _ (by rw[List.length_drop];omega) (by rw[List.length_drop];omega)]
theorem j6 (hl:l≠[]) (hn:l.length<=n) (st:ew):iI n l st=st::iI n (l.drop (bF l st.1)) (dH l st):=by
  have hp:=List.length_pos_iff.2 hl;have hk:=dX hl st.1;obtain⟨m,rfl⟩:∃m,n=m+1:=⟨n-1,by omega⟩
  rw[ri (m+1) m (l.drop (bF l st.1)) _ (by rw[List.length_drop];omega) (by rw[List.length_drop];omega),iI,if_neg hl]
theorem uJ:∀(n a:Nat) (l:By) (st:ew),(iI n l st).getLast? =some (dK n l a st).2/\(iI n l st).length=(dK n l a st).1.length+1
  | 0,a,l,st=>⟨rfl,rfl⟩
  |n+1,a,l,st=>by
    rw[iI,dK]
    by_cases hl:l=[]
    · rw[if_pos hl,if_pos hl];exact⟨rfl,rfl⟩
    · rw[if_neg hl,if_neg hl];obtain⟨h1,h2⟩:=uJ n (a+bF l st.1) (l.drop (bF l st.1)) (dH l st);refine⟨?_,by simp[h2]⟩;rw[List.getLast?_cons,h1];rfl
theorem Dd:∀(n:Nat) (l:By) (a:Nat) (st:ew),(dK n l a st).1.length<=l.length
  | 0,l,a,st=>by simp[dK]
  |n+1,l,a,st=>by
    rw[dK];split
    · simp
    · rename_i h;have h1:=dX h st.1;have h2:=Dd n (l.drop (bF l st.1)) (a+bF l st.1) (dH l st);rw[List.length_drop] at h2;simp only[List.length_cons];omega
theorem GS (m:Int) (l x:By):(ey m l).1<=(ey m (l++x)).1:=by
  have key:∀{rules:List By}{ss:List bC}{st:Nat},Made rules ss st->(cV ss st l).1<=(cV ss st (l++x)).1:=fun k=>by
    have h1:=mP k l;have h2:=mP k (l++x)
    rcases h1 with ⟨e,_⟩|⟨n,r,e,hn,hp,_⟩
    · rw[e]
      rcases h2 with ⟨e2,_⟩|⟨n2,r2,e2,_⟩<;>rw[e2]<;>simp
    · have hp':∃s,_:=hp;rw[show l.take n=(l++x).take n by rw[List.take_append_of_le_length hn]] at hp'
      rcases h2 with ⟨e2,h2⟩|⟨n2,r2,e2,hn2,hp2,h3,_⟩
      · exact absurd hp' (h2 n r (by rw[List.length_append];omega))
      · have:=h3 n r (by rw[List.length_append];omega) hp';rw[e,e2];simp only;omega
  unfold ey;split
  · exact key Mq
  · split
    · exact key lW
    · split
      · exact key Mp
      · simp
theorem IL (h0:l≠[]) (x:By) (st:ew) (h:bF (l++x) st.1+2<l.length):bF (l++x) st.1=bF l st.1/\mh (l++x) st.1=mh l st.1/\dH (l++x) st=dH l st:=by
  have hm:=GS st.1 l x;have hl:=je st.1 l;refine Ci h0 x st ?_;unfold bF at h ⊢;split at h
  · rename_i e;have hr:=dG (l:=l++x) (by simp[h0]);have e0:(ey st.1 l).1=0:=by omega
    rw[if_pos e0,<-y9 (l:=l) (x:=x) (by omega)];exact h
  · rename_i e;split
    · rename_i e0;have hr:=dG h0
      by_cases h4:4<=l.length
      · by_cases hx:aZ l+2<l.length
        · exact hx
        · exfalso;have hmo:=rE st.1 l x (by omega);rw[hmo] at e;exact e e0
      · exfalso;have hmo:=rE st.1 l x (by omega);rw[hmo] at e;exact e e0
    · omega
theorem GK (h0:l≠[]) (x y:By) (st:ew) (h:bF (l++x) st.1+2<l.length):bF (l++y) st.1=bF (l++x) st.1/\mh (l++y) st.1=mh (l++x) st.1/\dH (l++y) st=dH (l++x) st:=by
  have h1:=IL h0 x st h;have h2:=Ci h0 y st (by rw[<-h1.1];exact h);exact⟨h2.1.trans h1.1.symm,h2.2.1.trans h1.2.1.symm,h2.2.2.trans h1.2.2.symm⟩
def cN:Nat->By->Nat->ew->Nat×ew
  | 0,_,a,st=>(a,st)
  |j+1,l,a,st=>if l=[] then (a,st) else cN j (l.drop (bF l st.1)) (a+bF l st.1) (dH l st)
theorem oV:∀(j:Nat) (l:By) (a:Nat) (st:ew),a<=(cN j l a st).1/\(cN j l a st).1<=a+l.length
  | 0,l,a,st=>⟨Nat.le_refl _,by simp[cN]⟩
  |j+1,l,a,st=>by
    rw[cN];split
    · simp
    · rename_i h;have h1:=dX h st.1;have h2:=oV j (l.drop (bF l st.1)) (a+bF l st.1) (dH l st);rw[List.length_drop] at h2;omega
theorem Jo:∀(j n:Nat) (l:By) (a:Nat) (st:ew),l.length<=n->j<=(dK n l a st).1.length ->
    (dK n l a st)=((dK n l a st).1.take j++(dK n (l.drop ((cN j l a st).1-a)) (cN j l a st).1 (cN j l a st).2).1,(dK n (l.drop ((cN j l a st).1-a)) (cN j l a st).1 (cN j l a st).2).2) /\
    iI n l st=(iI n l st).take j++iI n (l.drop ((cN j l a st).1-a)) (cN j l a st).2
  | 0,n,l,a,st,hn,hj=>by simp[cN]
  |j+1,n,l,a,st,hn,hj=>by
    by_cases h0:l=[]
    · subst h0;rw[nr] at hj;simp at hj
    · have h1:=dX h0 st.1;rw[gS h0 hn] at hj ⊢;rw[j6 h0 hn,cN,if_neg h0];obtain⟨e1,e2⟩:=Jo j n (l.drop (bF l st.1)) (a+bF l st.1) (dH l st) (by rw[List.length_drop];omega) (by simpa using hj);have hg:=oV j (l.drop (bF l st.1)) (a+bF l st.1) (dH l st);generalize cN j (l.drop (bF l st.1)) (a+bF l st.1) (dH l st)=q at *;rw[List.drop_drop,show bF l st.1+(q.1-(a+bF l st.1))=q.1-a by omega] at e1 e2;refine⟨?_,?_⟩
      · rw[Prod.mk.injEq];refine⟨?_,?_⟩
        · rw[List.take_succ_cons,List.cons_append]
          congr 1
          have:=congrArg Prod.fst e1;exact this
        · have:=congrArg Prod.snd e1;exact this
      · rw[List.take_succ_cons,List.cons_append]
        congr 1
theorem HW:∀(j n:Nat) (l:By) (a:Nat) (st:ew),l.length<=n->j<(dK n l a st).1.length->(cN j l a st).1<a+l.length /\
    (dK n l a st).1[j]? =some (mh (l.drop ((cN j l a st).1-a)) (cN j l a st).2.1,((cN j l a st).1:Int),(((cN j l a st).1+bF (l.drop ((cN j l a st).1-a)) (cN j l a st).2.1:Nat):Int))/\(iI n l st)[j]? =some (cN j l a st).2 /\
    (cN (j+1) l a st).1=(cN j l a st).1+bF (l.drop ((cN j l a st).1-a)) (cN j l a st).2.1/\(cN (j+1) l a st).2=dH (l.drop ((cN j l a st).1-a)) (cN j l a st).2:=fun j n l a st hn hj=>by
  induction j generalizing l a st with
  |zero =>
    by_cases h0:l=[]
    · subst h0;rw[nr] at hj;simp at hj
    · have:=List.length_pos_iff.2 h0;rw[gS h0 hn,j6 h0 hn];simp[cN,h0];omega
  |succ j ih =>
    by_cases h0:l=[]
    · subst h0;rw[nr] at hj;simp at hj
    · have h1:=dX h0 st.1;rw[gS h0 hn] at hj ⊢;rw[j6 h0 hn];have hih:=ih (l.drop (bF l st.1)) (a+bF l st.1) (dH l st) (by rw[List.length_drop];omega) (by simpa using hj);have hg:=oV j (l.drop (bF l st.1)) (a+bF l st.1) (dH l st);have e1:cN (j+1) l a st=cN j (l.drop (bF l st.1)) (a+bF l st.1) (dH l st):=by rw[cN,if_neg h0]
      have e2:cN (j+1+1) l a st=cN (j+1) (l.drop (bF l st.1)) (a+bF l st.1) (dH l st):=by rw[cN,if_neg h0]
      rw[e2,e1];generalize cN (j+1) (l.drop (bF l st.1)) (a+bF l st.1) (dH l st)=q2 at *;generalize cN j (l.drop (bF l st.1)) (a+bF l st.1) (dH l st)=q at *;rw[List.drop_drop,List.length_drop,show bF l st.1+(q.1-(a+bF l st.1))=q.1-a by omega] at hih;refine⟨by omega,?_,?_,hih.2.2.2⟩
      · simpa using hih.2.1
      · simpa using hih.2.2.1
theorem zi:∀(j n n':Nat) (A x y:By) (a:Nat) (st:ew),(A++x).length<=n->(A++y).length<=n'->j<=(dK n (A++x) a st).1.length->(j=0\/(cN j (A++x) a st).1+2<a+A.length) ->
    cN j (A++y) a st=cN j (A++x) a st/\j<=(dK n' (A++y) a st).1.length/\(dK n' (A++y) a st).1.take j=(dK n (A++x) a st).1.take j/\(iI n' (A++y) st).take j=(iI n (A++x) st).take j
  | 0,n,n',A,x,y,a,st,_,_,_,_=>by simp[cN]
  |j+1,n,n',A,x,y,a,st,hn,hn',hj,hg=>by
    have hg:=hg.resolve_left (by omega)
    by_cases h0:A++x=[]
    · rw[h0,nr] at hj;simp at hj
    · have h1:=dX h0 st.1;have e1:cN (j+1) (A++x) a st=cN j ((A++x).drop (bF (A++x) st.1)) (a+bF (A++x) st.1) (dH (A++x) st):=by rw[cN,if_neg h0]
      have hgg:=oV j ((A++x).drop (bF (A++x) st.1)) (a+bF (A++x) st.1) (dH (A++x) st);rw[<-e1] at hgg;have hA:A≠[]:=fun e=>by subst e;simp only[List.length_nil] at hg;omega
      have hlt:bF (A++x) st.1+2<A.length:=by omega
      obtain⟨g1,g2,g3⟩:=GK hA x y st hlt;have h0y:A++y≠[]:=by simp[hA]
      have e2:cN (j+1) (A++y) a st=cN j ((A++y).drop (bF (A++y) st.1)) (a+bF (A++y) st.1) (dH (A++y) st):=by rw[cN,if_neg h0y]
      have dx:(A++x).drop (bF (A++x) st.1)=A.drop (bF (A++x) st.1)++x:=List.drop_append_of_le_length (by omega);have dy:(A++y).drop (bF (A++x) st.1)=A.drop (bF (A++x) st.1)++y:=List.drop_append_of_le_length (by omega);rw[gS h0 hn] at hj;rw[gS h0 hn,gS h0y hn',j6 h0 hn,j6 h0y hn',e1,e2,g1,g2,g3,dx,dy];rw[dx] at hj e1;have hle:=h1.2;generalize bF (A++x) st.1=L at *;generalize dH (A++x) st=nx at *;simp only[List.length_append] at hn hn' hle;obtain⟨k1,k2,k3,k4⟩:=zi j n n' (A.drop L) x y (a+L) nx (by simp;omega) (by simp;omega) (by simpa using hj) (.inr (by rw[e1] at hg;simp only[List.length_drop];omega));refine⟨k1,by simpa using k2,?_,?_⟩
      · simp only[List.take_succ_cons];rw[k3]
      · simp only[List.take_succ_cons];rw[k4]
def L0 (d:Int) (t:Tk):Tk:=(t.1,t.2.1+d,t.2.2+d)
theorem wV (d:Int):∀(n:Nat) (l:By) (a b:Nat) (st:ew),(b:Int)=a+d->dK n l b st=((dK n l a st).1.map (L0 d),(dK n l a st).2)
  | 0,l,a,b,st,h=>rfl
  |n+1,l,a,b,st,h=>by
    rw[dK,dK];split
    · rfl
    · rw[wV d n (l.drop (bF l st.1)) (a+bF l st.1) (b+bF l st.1) (dH l st) (by omega)];simp only[List.map_cons,L0,Prod.mk.injEq,List.cons.injEq,and_true,true_and];omega
theorem CO {a:Nat}{st:ew}(hn:l.length<=n) (hi:i<(dK n l a st).1.length) (h:j<i):(cN j l a st).1<(cN i l a st).1:=by
  induction i with
  |zero=>omega
  |succ i ih =>
    obtain⟨h1,h2,h3,h4,h5⟩:=HW i n l a st hn (by omega);have hg:=oV i l a st;have hne:l.drop ((cN i l a st).1-a)≠[]:=fun e=>by have:=congrArg List.length e;rw[List.length_drop] at this;simp at this;omega
    have hl:=dX hne (cN i l a st).2.1
    rcases Nat.lt_or_ge j i with h6|h6
    · have:=ih (by omega) h6;omega
    · obtain rfl:j=i:=by omega
      omega
abbrev Pt:=Int×ew
def ir:List Tk->List ew->Int->List Pt
  |t::ts,s::ss,a=>if a+64<=t.2.1 then (t.2.1,s)::ir ts ss t.2.1 else ir ts ss a
  |_,_,_=>[]
def fF (s:By):List ew:=(pV s).dropLast
def B7 (s:By):List Pt:=(0,(0,0))::ir (bh s).1 (fF s) 0
theorem mF (s:By):(pV s).length=(bh s).1.length+1:=(uJ s.length 0 s (0,0)).2
theorem mG (s:By):pV s=fF s++[(bh s).2]:=by
  have h1:=uJ s.length 0 s (0,0);have h2:(pV s).getLast? =some (bh s).2:=h1.1;have h0:pV s≠[]:=fun e=>by rw[e] at h2;cases h2
  rw[List.getLast?_eq_some_getLast h0] at h2;have:=List.dropLast_concat_getLast h0;rw[Option.some.inj h2] at this;exact this.symm
theorem iX (s:By):(fF s).length=(bh s).1.length:=by unfold fF;rw[List.length_dropLast,mF];omega
theorem Ai (hj:j<(bh s).1.length):(fF s)[j]? =(pV s)[j]? :=by
  rw[mG,List.getElem?_append_left (by rw[iX];exact hj)]
def QX (s:By) (a:Nat) (st:ew):Prop:=∃j,j<(bh s).1.length/\(cN j s 0 (0,0))=(a,st)
theorem DI (hj:j<(bh s).1.length):(cN j s 0 (0,0)).1<s.length /\
    (bh s).1[j]? =some (mh (s.drop (cN j s 0 (0,0)).1) (cN j s 0 (0,0)).2.1,((cN j s 0 (0,0)).1:Int),(((cN j s 0 (0,0)).1+bF (s.drop (cN j s 0 (0,0)).1) (cN j s 0 (0,0)).2.1:Nat):Int)) /\
    (pV s)[j]? =some (cN j s 0 (0,0)).2/\(cN (j+1) s 0 (0,0)).1=(cN j s 0 (0,0)).1+bF (s.drop (cN j s 0 (0,0)).1) (cN j s 0 (0,0)).2.1/\(cN (j+1) s 0 (0,0)).2=dH (s.drop (cN j s 0 (0,0)).1) (cN j s 0 (0,0)).2:=by
  have:=HW j s.length s 0 (0,0) (Nat.le_refl _) hj;rw[Nat.sub_zero,Nat.zero_add] at this;exact this
theorem jW {t:Tk}(ht:(bh s).1[j]? =some t):t.2.1=(cN j s 0 (0,0)).1:=by
  have hj:=(List.getElem?_eq_some_iff.1 ht).1;have:=(DI hj).2.1;rw[ht] at this;rw[Option.some.inj this]
theorem DH {t u:Tk}(ht:(bh s).1[i]? =some t) (hu:(bh s).1[j]? =some u) (h:i<j):t.2.1<u.2.1:=by
  rw[jW ht,jW hu];have hj:=(List.getElem?_eq_some_iff.1 hu).1;have:=CO (j:=i) (i:=j) (n:=s.length) (l:=s) (a:=0) (st:=(0,0)) (Nat.le_refl _) hj h;omega
theorem pR {t:Tk}(ht:(bh s).1[j]? =some t):0<=t.2.1/\t.2.1<s.length/\t.2.2<=s.length/\t.2.1<t.2.2:=by
  have hj:=(List.getElem?_eq_some_iff.1 ht).1;obtain⟨h1,h2,_⟩:=DI hj;have hne:s.drop (cN j s 0 (0,0)).1≠[]:=fun e=>by have:=congrArg List.length e;rw[List.length_drop] at this;simp at this;omega
  have h3:=dX hne (cN j s 0 (0,0)).2.1;rw[List.length_drop] at h3;rw[ht] at h2;obtain rfl:=Option.some.inj h2;exact⟨by simp,by simp only;omega,by simp only;omega,by simp only;omega⟩
theorem jy:∀(ts:List Tk) (ss:List ew) (a:Int),∀p∈ir ts ss a,a+64<=p.1
  | [],ss,a,p,h=>by simp[ir] at h
  |t::ts,[],a,p,h=>by simp[ir] at h
  |t::ts,s::ss,a,p,h=>by
    rw[ir] at h;split at h
    · rename_i ha
      rcases List.mem_cons.1 h with rfl|h
      · exact ha
      · have:=jy ts ss t.2.1 p h;omega
    · exact jy ts ss a p h
theorem AB:∀(ts:List Tk) (ss:List ew) (a:Int),(ir ts ss a).Pairwise fun p q=>p.1<q.1
  | [],ss,a=>by simp[ir]
  |t::ts,[],a=>by simp[ir]
  |t::ts,s::ss,a=>by
    rw[ir];split
    · refine List.pairwise_cons.2 ⟨fun q hq=>?_,AB ts ss t.2.1⟩;have:=jy ts ss t.2.1 q hq;simp only;omega
    · exact AB ts ss a
theorem KA (s:By):(B7 s).Pairwise fun p q=>p.1<q.1:=by
  unfold B7;refine List.pairwise_cons.2 ⟨fun q hq=>?_,AB _ _ _⟩;have:=jy _ _ _ q hq;simp only;omega
theorem B8:∀(ts:List Tk) (ss:List ew) (a:Int),∀p∈ir ts ss a,∃(j:Nat) (t:Tk),ts[j]? =some t/\ss[j]? =some p.2/\t.2.1=p.1
  | [],ss,a,p,h=>by simp[ir] at h
  |t::ts,[],a,p,h=>by simp[ir] at h
  |t::ts,s::ss,a,p,h=>by
    have key:∀b,p∈ir ts ss b->∃(j:Nat) (t':Tk),(t::ts)[j]? =some t'/\(s::ss)[j]? =some p.2/\t'.2.1=p.1:=fun b hb=>by
      obtain⟨j,t',h1,h2,h3⟩:=B8 ts ss b p hb;exact⟨j+1,t',by simpa using h1,by simpa using h2,h3⟩
    rw[ir] at h;split at h
    · rcases List.mem_cons.1 h with rfl|h
      · exact⟨0,t,rfl,rfl,rfl⟩
      · exact key _ h
    · exact key _ h
theorem vf:∀(ts:List Tk) (ss:List ew) (a:Int),(ir ts ss a).length<=ts.length
  | [],ss,a=>by simp[ir]
  |t::ts,[],a=>by simp[ir]
  |t::ts,s::ss,a=>by
    rw[ir];split
    · have:=vf ts ss t.2.1;simp;omega
    · have:=vf ts ss a;simp;omega
theorem IB {p:Pt}(h:p∈B7 s):p=(0,(0,0))\/∃j,j<(bh s).1.length/\((cN j s 0 (0,0)).1:Int)=p.1/\(cN j s 0 (0,0)).2=p.2:=by
  rcases List.mem_cons.1 h with h|h
  · exact .inl h
  · obtain⟨j,t,h1,h2,h3⟩:=B8 _ _ _ p h;have hj:=(List.getElem?_eq_some_iff.1 h1).1;refine .inr ⟨j,hj,by rw[<-h3,jW h1],?_⟩;rw[Ai hj,(DI hj).2.2.1] at h2;exact Option.some.inj h2
def J8 (pts:List Pt) (a:Int) (p:Pt):Prop:=p∈pts/\(p.1<=a-3\/p=(0,(0,0)))/\∀q∈pts,q.1<=a-3->q.1<=p.1
def Dk (s s':By) (d:Int) (x:Nat):Prop:=∃a st,QX s a st/\(a:Int)+d=x/\QX s' x st
def eU (s:By) (i j:Nat) (x:By):By:=s.take i++x++s.drop j
theorem La (x:By) (hij:i<=j) (hj:j<=s.length):(eU s i j x).length=i+x.length+(s.length-j):=by
  simp only[eU,List.length_append,List.length_take,List.length_drop];omega
end
end Go.Proofs.YtdihgdeciopfpaaGreatDoor
namespace Go.Proofs.YtdihgdeciopfpaaGreatDoor
open Go Go.Lw
section
variable {x:Nd}{h:aj}{O:Nat->Prop}{cs:List Value}
def Dw (s q:Nat):Nat:=(s >>> (64*q))%2 ^ 64
def eF (s q:Nat):Value:=.int .u64 (Dw s q:Nat)
def wz (s:Nat):List Value:=[eF s 0,eF s 1,eF s 2,eF s 3]
theorem Dv (s q:Nat):Dw s q<18446744073709551616:=Nat.mod_lt _ (by decide)
theorem kW (s q i:Nat):(Dw s q).testBit i=(decide (i<64) && s.testBit (64*q+i)):=by
  unfold Dw;rw[Nat.testBit_mod_two_pow,Nat.testBit_shiftRight]
theorem HQ (s b:Nat) (q:Nat) (h:q≠b / 64):Dw (s |||(1 <<< b)) q=Dw s q:=by
  apply Nat.eq_of_testBit_eq
  intro i;rw[kW,kW,Nat.testBit_or,Nat.one_shiftLeft,Nat.testBit_two_pow]
  by_cases hi:i<64
  · have:b≠64*q+i:=by omega
    simp[this]
  · simp[hi]
theorem HP (s b:Nat):Dw (s |||(1 <<< b)) (b / 64)=Dw s (b / 64) ||| 2 ^ (b%64):=by
  apply Nat.eq_of_testBit_eq
  intro i;rw[kW,Nat.testBit_or,Nat.testBit_or,kW,Nat.one_shiftLeft,Nat.testBit_two_pow,Nat.testBit_two_pow]
  by_cases hi:i<64
  · have:(b=64*(b / 64)+i)↔(b%64=i):=by omega
    simp[hi,this]
  · have:¬b%64=i:=by omega
    simp[hi,this]
theorem jU {i:Int}(h:0<=i/\i<=18446744073709551615):IntKind.u64.wrap i=i:=by
  have h64:(2:Int) ^ 64=18446744073709551616:=rfl;simp only[IntKind.wrap,IntKind.bits,IntKind.signed,h64,Bool.false_and,Bool.false_eq_true,if_false];omega
theorem Rz {x y:Nat}(hx:x<18446744073709551616) (hy:y<18446744073709551616):IntKind.u64.wrap ((BitVec.ofInt IntKind.u64.bits (x:Int) |||BitVec.ofInt IntKind.u64.bits (y:Int)).toNat:Int)=((x |||y:Nat):Int):=by
  have e:(BitVec.ofInt IntKind.u64.bits (x:Int) |||BitVec.ofInt IntKind.u64.bits (y:Int)).toNat=x |||y:=by
    rw[BitVec.toNat_or]
    have h1:(BitVec.ofInt IntKind.u64.bits (x:Int)).toNat=x:=by
      show (BitVec.ofInt 64 (x:Int)).toNat=x
      simp only[BitVec.toNat_ofInt];omega
    have h2:(BitVec.ofInt IntKind.u64.bits (y:Int)).toNat=y:=by
      show (BitVec.ofInt 64 (y:Int)).toNat=y
      simp only[BitVec.toNat_ofInt];omega
    rw[h1,h2]
  rw[e];have:x |||y<2 ^ 64:=Nat.or_lt_two_pow hx hy;exact jU ⟨by omega,by omega⟩
theorem O7 (b:Nat):IntKind.u64.wrap (1*2 ^ min ((b%64:Nat):Int).toNat IntKind.u64.bits)=((2 ^ (b%64):Nat):Int):=by
  have hb:b%64<64:=Nat.mod_lt _ (by decide);have h1:min ((b%64:Nat):Int).toNat IntKind.u64.bits=b%64:=by show min _ 64=_;simp;omega
  rw[h1,Int.one_mul];have h2:2 ^ (b%64)<2 ^ 64:=Nat.pow_lt_pow_right (by decide) hb;have h3:((2:Int) ^ (b%64))=((2 ^ (b%64):Nat):Int):=by push_cast;rfl
  rw[h3];generalize 2 ^ (b%64)=p at *;exact jU ⟨by omega,by omega⟩
theorem Sd {x:Nat}(hx:x<18446744073709551616):IntKind.u64.wrap ((BitVec.ofInt IntKind.u64.bits (x:Int) &&& BitVec.ofInt IntKind.u64.bits 1).toNat:Int)=((x%2:Nat):Int):=by
  have e:(BitVec.ofInt IntKind.u64.bits (x:Int) &&& BitVec.ofInt IntKind.u64.bits 1).toNat=x%2:=by
    rw[BitVec.toNat_and]
    have h1:(BitVec.ofInt IntKind.u64.bits (x:Int)).toNat=x:=by
      show (BitVec.ofInt 64 (x:Int)).toNat=x
      simp only[BitVec.toNat_ofInt];omega
    rw[h1]
    show x &&& 1=_
    exact Nat.and_one_is_mod x
  rw[e];exact jU ⟨by omega,by omega⟩
theorem O6 (x:Nat) (b:Nat) (hb:b<64):((x:Int)).fdiv (2 ^ min ((b:Nat):Int).toNat IntKind.u64.bits)=((x >>> b:Nat):Int):=by
  have h1:min ((b:Nat):Int).toNat IntKind.u64.bits=b:=by show min _ 64=_;simp;omega
  rw[h1,Nat.shiftRight_eq_div_pow];have h3:((2:Int) ^ b)=((2 ^ b:Nat):Int):=by push_cast;rfl
  rw[h3,Int.fdiv_eq_ediv_of_nonneg _ (Int.natCast_nonneg _)]
  push_cast;rfl
theorem Ko (s b:Nat):(Dw s (b / 64) >>> (b%64))%2=(s.testBit b).toNat:=by
  have h:=kW s (b / 64) (b%64);rw[show 64*(b / 64)+b%64=b from Nat.div_add_mod b 64] at h;have hb:b%64<64:=Nat.mod_lt _ (by decide);simp only[hb,decide_true,Bool.true_and] at h;rw[Nat.shiftRight_eq_div_pow,<-Nat.toNat_testBit,h]
def dI (k s:Nat) (v:Value):List Value:=[.int .i64 k,eF s 0,eF s 1,eF s 2,eF s 3,v]
inductive bO (h:aj) (O:Nat->Prop):List Value->Nd->Prop
  |mk (k s:Nat) (kids:List Nd) (oa:Option Addr) (n c:Nat) (css:Nat->List Value) (hl:kids.length=n) (hc:n<=c) (hm:c<=maxLen)
      (hr:∀i x,kids[i]? =some x->∃b o,oa=some ⟨b,o,none⟩/\¬O b/\Lw.rowAt h b (o+i*6) (css i)) (hk:∀i x,kids[i]? =some x->bO h O (css i) x):bO h O (dI k s (.slice oa n c)) (.mk k s kids)
theorem bO.len (k:bO h O cs x):cs.length=6:=by cases k;rfl
theorem bO.one (k:bO h O cs x):∀v∈cs,v.oneCell'=true:=by
  cases k;intro v hv;simp[dI,eF] at hv
  rcases hv with rfl|rfl|rfl|rfl|rfl|rfl<;>rfl
theorem bO.mv {h':aj}{O':Nat->Prop}(k:bO h O cs x) (m:Mv O O' h h'):bO h' O' cs x:=by
  induction k with
  |mk k s kids oa n c css hl hc hm hr hk ih =>
    refine .mk k s kids oa n c css hl hc hm (fun i x hx=>?_) ih;obtain⟨b,o,ha,ho,hrow⟩:=hr i x hx;have hne:css i≠[]:=by intro e;have:=(hk i x hx).len;rw[e] at this;cases this
    exact⟨b,o,ha,(m.block b (cX hrow hne) ho).2,m.rowAt ho hrow⟩
def sM:gH Nd:=⟨6,by decide,bO,bO.len,bO.one,bO.mv⟩
theorem bO.ak {h h':aj}{O:Nat->Prop}{cs:List Value}{x:Nd}(k:bO h O cs x) (e:aq h h'):bO h' O cs x:=k.mv (Mv.ak e)
theorem bO.of {v:Value}{kids:List Nd}(k s:Nat) (hv:bB sM h O v kids):bO h O (dI k s v) (.mk k s kids):=by
  obtain⟨oa,n,c,rfl,hl,hc,hm,hg⟩:=hv
  have hx:∀i,i<n->∃cs:List Value,∃x,kids[i]? =some x/\(∃b o,oa=some ⟨b,o,none⟩/\¬O b/\Lw.rowAt h b (o+i*6) cs)/\bO h O cs x:=by
    intro i hi;obtain⟨b,o,cs,h1,h2,h3,h4⟩:=hg i kids[i] (List.getElem?_eq_getElem (by omega));exact⟨cs,kids[i],List.getElem?_eq_getElem (by omega),⟨b,o,h1,h2,h3⟩,h4⟩
  refine .mk k s kids oa n c (fun i=>if hi:i<n then Classical.choose (hx i hi) else []) hl hc hm (fun i x hxi=>?_) (fun i x hxi=>?_)
  · have hi:i<n:=by rw[<-hl];exact(List.getElem?_eq_some_iff.1 hxi).1
    simp only[dif_pos hi];obtain⟨y,_,h2,_⟩:=Classical.choose_spec (hx i hi);exact h2
  · have hi:i<n:=by rw[<-hl];exact(List.getElem?_eq_some_iff.1 hxi).1
    simp only[dif_pos hi];obtain⟨y,h1,_,h3⟩:=Classical.choose_spec (hx i hi);rw[h1] at hxi;cases hxi;exact h3
theorem bO.open (k:bO h O cs x):∃v,cs=dI x.kind x.set v/\bB sM h O v x.kids:=by
  cases k with
  |mk k s kids oa n c css hl hc hm hr hk =>
    exact⟨_,rfl,oa,n,c,rfl,hl,hc,hm,fun i x hx=>by
      obtain⟨b,o,h1,h2,h3⟩:=hr i x hx;exact⟨b,o,css i,h1,h2,h3,hk i x hx⟩⟩
def bs (l:List UInt8):ByteArray:=⟨l.toArray⟩
theorem qF (l:List UInt8):(bs l).data.toList=l:=by simp[bs]
theorem aR (l:List UInt8):(bs l).size=l.length:=by simp[bs,ByteArray.size]
theorem eH (l m:List UInt8):bs l++bs m=bs (l++m):=by
  apply ByteArray.ext
  simp[bs]
theorem jj {l m:List UInt8}(h:bs l=bs m):l=m:=by have:=congrArg (fun x=>x.data.toList) h;simpa [bs] using this
theorem mc {l:List UInt8}{i:Nat}{c:UInt8}(h:l[i]? =some c):(bs l).data[i]? =some c:=by simpa [bs] using h
theorem lO (l:List UInt8) (i:Nat):(bs l).extract i (bs l).size=bs (l.drop i):=by
  apply ByteArray.ext
  apply Array.ext'
  rw[ByteArray.data_extract,Array.toList_extract,List.extract_eq_take_drop];rw[aR];simp only[bs];exact List.take_of_length_le (by simp)
theorem qE (l:List UInt8) (i j:Nat) (_h:i<=j):(bs l).extract i j=bs ((l.take j).drop i):=by
  apply ByteArray.ext
  apply Array.ext'
  rw[ByteArray.data_extract,Array.toList_extract,List.extract_eq_take_drop];simp only[bs];rw[List.drop_take]
theorem OP (c d:UInt8):decide (((c.toNat:Nat):Int)≠((d.toNat:Nat):Int))=decide (c≠d):=by
  rw[decide_eq_decide];exact⟨fun h e=>h (by rw[e]),fun h e=>h (UInt8.toNat_inj.1 (by omega))⟩
theorem cQ {c:UInt8}{k:Nat}{d:UInt8}(hd:d.toNat=k):(((c.toNat:Nat):Int)=(k:Int))↔c=d:=by
  subst hd;exact⟨fun e=>UInt8.toNat_inj.1 (by omega),fun e=>by rw[e]⟩
end
end Go.Proofs.YtdihgdeciopfpaaGreatDoor

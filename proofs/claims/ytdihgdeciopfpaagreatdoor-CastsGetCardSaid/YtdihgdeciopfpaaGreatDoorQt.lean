/- What the proof of the statement leans on (part 20). -/
import Derived.Lib.DecodeN
import Derived.Lib.IndexMore
import Derived.Test.YtdihgdeciopfpaaGreatDoorQs

namespace Go.Proofs.YtdihgdeciopfpaaGreatDoor
open Go
section
variable {l s:By}{n j i:Nat}
def gi (m:Int) (l:By):Int×Int:=if m=0 then cQ vZ 53 l else if m=1 then cQ vY 10 l else if m=2 then cQ vX 11 l else (0,-1)
def JH (m:Int):List (Int×Int):=if m=0 then [(1,0),(2,0),(3,0),(5,0),(11,0),(11,3),(9,1),(7,0),(8,0),(6,0)] else if m=1 then [(9,0),(10,0),(9,2),(9,0)] else if m=2 then [(11,3),(11,4),(11,0),(11,0)] else []
def JM (m n:Int):Option (Int×Int):=if n<0 then none else (JH m)[n.toNat]?
def JI (m n:Int):Int:=match JM m n with|some p=>p.1|none=>0
abbrev fE:=Int×Int
def K1 (s:fE) (n:Int):fE:=match JM s.1 n with
 |none=>s
 |some p=>if p.2=0 then s else if p.2=1 then (1,0) else if p.2=3 then (2,min (max s.2 0) 16383+1) else if p.2=4/\1<s.2 then (s.1,s.2-1) else (0,0)
def Kp:By:=[32,105,102,32,101,108,115,101,32,108,101,116,32,105,110,32,102,117,110,32,116,114,117,101,32,102,97,108,115,101,32,97,110,100,32,111,114,32,110,111,116,32]
def Lp (s:By):Bool:=decide (s≠[]) && (!Lib.contains s [32] && Lib.contains Kp (32::(s++[32])))
def cU (l:By):Nat:=(Lib.decodeN l.length (l.getD 0 0).toNat (l.getD 1 0).toNat (l.getD 2 0).toNat (l.getD 3 0).toNat).2
def bY (l:By) (m:Int):Nat:=if (gi m l).1=0 then cU l else (gi m l).1.toNat
def su (l:By) (m:Int):Int:=if (gi m l).1=0 then 0 else if JI m (gi m l).2=3/\Lp (l.take (gi m l).1.toNat)=true then 4 else JI m (gi m l).2
def ew (l:By) (st:fE):fE:=if (gi st.1 l).1=0 then st else K1 st (gi st.1 l).2
abbrev Tk:=Int×Int×Int
def dF:Nat->By->Nat->fE->List Tk×fE
 | 0,_,_,st=>([],st)
 |n+1,l,at_,st=>if l=[] then ([],st) else
  (((su l st.1,(at_:Int),((at_+bY l st.1:Nat):Int)):Tk)::(dF n (l.drop (bY l st.1)) (at_+bY l st.1) (ew l st)).1,(dF n (l.drop (bY l st.1)) (at_+bY l st.1) (ew l st)).2)
def cx (s:By):List Tk×fE:=dF s.length s 0 (0,0)
theorem B1 (n b0 b1 b2 b3:Nat):1<=(Lib.decodeN n b0 b1 b2 b3).2:=by
 unfold Lib.decodeN
 repeat' split
 all_goals simp
theorem B0 (n b0 b1 b2 b3:Nat) (hn:1<=n):(Lib.decodeN n b0 b1 b2 b3).2<=n:=by
 unfold Lib.decodeN
 repeat' split
 all_goals (simp only;omega)
theorem fu (h:l≠[]):1<=cU l/\cU l<=l.length:=⟨B1 _ _ _ _ _,B0 _ _ _ _ _ (List.length_pos_iff.2 h)⟩
theorem JE:Made Bp vZ 53:=ie NB
theorem jn:Made Bo vY 10:=ie Hr
theorem JD:Made Bn vX 11:=ie NA
theorem rX (m:Int) (l:By):0<=(gi m l).1/\(gi m l).1<=l.length:=by
 have key:∀{rules:List By}{ss:List bM}{st:Nat},Made rules ss st->0<=(cQ ss st l).1/\(cQ ss st l).1<=l.length:=fun k=>by
  rcases kU k l with ⟨e,_⟩|⟨n,r,e,hn,_⟩
  · rw[e];simp
  · rw[e];simp only;omega
 unfold gi;split
 · exact key JE
 · split
   · exact key jn
   · split
     · exact key JD
     · simp
theorem dW (h:l≠[]) (m:Int):1<=bY l m/\bY l m<=l.length:=by
 have h1:=rX m l;have h2:=fu h;unfold bY;split
 · exact h2
 · omega
theorem oH:∀(n k:Nat) (l:By) (a:Nat) (st:fE),l.length<=n->l.length<=k->dF n l a st=dF k l a st
 | 0,0,_,_,_,_,_=>rfl
 | 0,k+1,l,a,st,h,_=>by
  have:l=[]:=List.length_eq_zero_iff.1 (by omega);rw[dF,dF,if_pos this]
 |n+1,0,l,a,st,_,h=>by
  have:l=[]:=List.length_eq_zero_iff.1 (by omega);rw[dF,dF,if_pos this]
 |n+1,k+1,l,a,st,h1,h2=>by
  rw[dF,dF]
  by_cases hl:l=[]
  · rw[if_pos hl,if_pos hl]
  · have:=dW hl st.1;rw[if_neg hl,if_neg hl,oH n k _ _ _ (by rw[List.length_drop];omega) (by rw[List.length_drop];omega)]
theorem pN {d:cV}:∀(l x:By) (s k:Nat) (b:Int×Int),(cv d l s k b).2.2<((k+l.length:Nat):Int)->cv d (l++x) s k b=cv d l s k b
 | [],x,s,k,b,h=>by
  exfalso;rw[cv] at h;split at h
  · simp only[List.length_nil,Nat.add_zero] at h;omega
  · simp only[List.length_nil,Nat.add_zero] at h;omega
 |c::l,x,s,k,b,h=>by
  rw[List.cons_append,cv,cv];rw[cv] at h;split
  · rename_i hp;rw[if_pos hp] at h;exact pN l x _ _ _ (by rw[List.length_cons] at h;rw[show k+1+l.length=k+(l.length+1) by omega];exact h)
  · rfl
theorem gV {rules:List By}{ss:List bM}{st:Nat}(hm:dV rules= .inr (ss,st)){H:List (List Nat×Nat)}{tab reps:List UInt8}(hr:gR ss tab reps=true) (ha:mP ss H reps=true) (hs:wS H (cg ss st)=some 0/\cg ss st≠[]/\¬0<=bz ss (cg ss st)) (hH:H.length<=2000) :
 ∃d,eY ss st= .inr d/\(∀l,(cv d l 0 0 (0,-1)).2.2<=(cQ ss st l).1+2)/\∀l x:By,(cQ ss st l).1+2<l.length->cQ ss st (l++x)=cQ ss st l:=by
 have hM:=ie hm;have hmem:=sB hs.1;obtain⟨d,hd⟩:=Ae (GH hr ha) (by simpa using hH) (fun e=>hs.2.1 (List.length_eq_zero_iff.1 e)) (List.mem_map.2 ⟨_,hmem,rfl⟩);obtain⟨_,L,h1,h2,_⟩:=gQ hd;have hst:=hM.stl;have hmt:=fun l=>wZ hd (by omega) l
 have h2s:∀l,(cv d l 0 0 (0,-1)).2.2<=(cv d l 0 0 (0,-1)).1+2:=fun l=>uK h1 h2 hr ha l 0 0 (0,-1) _ 0 h1.first hmem (by rw[if_neg hs.2.2];simp)
 have hmt1:∀l,(cv d l 0 0 (0,-1)).1=(cQ ss st l).1:=fun l=>by have:=hmt l;rw[<-this]
 refine⟨d,hd,fun l=>by rw[<-hmt1];exact h2s l,fun l x hlt=>?_⟩;have:=h2s l;rw[hmt1] at this;rw[<-hmt (l++x),<-hmt l,pN l x 0 0 (0,-1) (by rw[Nat.zero_add];omega)]
theorem lK:Ld.length<=2000/\ND.length<=2000/\Hs.length<=2000:=by decide
theorem ow (m:Int) (l x:By) (h:(gi m l).1+2<l.length):gi m (l++x)=gi m l:=by
 obtain⟨_,_,_,h0⟩:=gV NB J0 J3 JX lK.1;obtain⟨_,_,_,h1⟩:=gV Hr JZ J2 JW lK.2.1;obtain⟨_,_,_,h2⟩:=gV NA JY J1 JV lK.2.2;unfold gi at h ⊢;split
 · rename_i e;rw[if_pos e] at h;exact h0 l x h
 · rename_i e;rw[if_neg e] at h;split
   · rename_i e;rw[if_pos e] at h;exact h1 l x h
   · rename_i e;rw[if_neg e] at h;split
     · rename_i e;rw[if_pos e] at h;exact h2 l x h
     · rfl
theorem uR {x:By}(h:4<=l.length):cU (l++x)=cU l:=by
 have hg:∀i,i<4->(l++x).getD i 0=l.getD i 0:=fun i hi=>by rw[List.getD_eq_getElem?_getD,List.getD_eq_getElem?_getD,List.getElem?_append_left (by omega)]
 unfold cU;rw[hg 0 (by decide),hg 1 (by decide),hg 2 (by decide),hg 3 (by decide),List.length_append]
 have key:∀n k b0 b1 b2 b3:Nat,4<=n->Lib.decodeN (n+k) b0 b1 b2 b3=Lib.decodeN n b0 b1 b2 b3:=fun n k b0 b1 b2 b3 hn=>by
  have e1:(1<n+k)=(1<n):=propext ⟨fun _=>by omega,fun _=>by omega⟩;have e2:(2<n+k)=(2<n):=propext ⟨fun _=>by omega,fun _=>by omega⟩;have e3:(3<n+k)=(3<n):=propext ⟨fun _=>by omega,fun _=>by omega⟩;simp only[Lib.decodeN,e1,e2,e3]
 rw[key _ _ _ _ _ _ h]
theorem ze (h0:l≠[]) (x:By) (st:fE) (h:bY l st.1+2<l.length):bY (l++x) st.1=bY l st.1/\su (l++x) st.1=su l st.1/\ew (l++x) st=ew l st:=by
 have hl:=rX st.1 l;have hr:=fu h0
 have hm:gi st.1 (l++x)=gi st.1 l:=by
  refine ow st.1 l x ?_;unfold bY at h;split at h
  · omega
  · omega
 unfold bY su ew;rw[hm];unfold bY at h;split at h
 · rename_i e;simp only[if_pos e];exact⟨uR (by omega),trivial,trivial⟩
 · rename_i e;simp only[if_neg e];rw[List.take_append_of_le_length (by omega)];exact⟨trivial,rfl,trivial⟩
theorem lC (n a:Nat) (st:fE):dF n [] a st=([],st):=by cases n<;>simp[dF]
theorem fR (hl:l≠[]) (hn:l.length<=n) (a:Nat) (st:fE) :
 dF n l a st=((su l st.1,(a:Int),((a+bY l st.1:Nat):Int))::(dF n (l.drop (bY l st.1)) (a+bY l st.1) (ew l st)).1,(dF n (l.drop (bY l st.1)) (a+bY l st.1) (ew l st)).2):=by
 have hp:=List.length_pos_iff.2 hl;have hk:=dW hl st.1;obtain⟨m,rfl⟩:∃m,n=m+1:=⟨n-1,by omega⟩
 rw[oH (m+1) (m+1) (l.drop (bY l st.1)) _ _ (by rw[List.length_drop];omega) (by rw[List.length_drop];omega),<-oH m (m+1) (l.drop (bY l st.1)) (a+bY l st.1) (ew l st) (by rw[List.length_drop];omega) (by rw[List.length_drop];omega)];rw[dF,if_neg hl]
def gK:Nat->By->fE->List fE
 | 0,_,st=>[st]
 |n+1,l,st=>if l=[] then [st] else st::gK n (l.drop (bY l st.1)) (ew l st)
def nZ (s:By):List fE:=gK s.length s (0,0)
theorem uJ:∀(n k:Nat) (l:By) (st:fE),l.length<=n->l.length<=k->gK n l st=gK k l st
 | 0,0,_,_,_,_=>rfl
 | 0,k+1,l,st,h,_=>by
  have:l=[]:=List.length_eq_zero_iff.1 (by omega);rw[gK,gK,if_pos this]
 |n+1,0,l,st,_,h=>by
  have:l=[]:=List.length_eq_zero_iff.1 (by omega);rw[gK,gK,if_pos this]
 |n+1,k+1,l,st,h1,h2=>by
  rw[gK,gK]
  by_cases hl:l=[]
  · rw[if_pos hl,if_pos hl]
  · have:=dW hl st.1;rw[if_neg hl,if_neg hl,uJ n k _ _ (by rw[List.length_drop];omega) (by rw[List.length_drop];omega)]
theorem jg (hl:l≠[]) (hn:l.length<=n) (st:fE):gK n l st=st::gK n (l.drop (bY l st.1)) (ew l st):=by
 have hp:=List.length_pos_iff.2 hl;have hk:=dW hl st.1;obtain⟨m,rfl⟩:∃m,n=m+1:=⟨n-1,by omega⟩
 rw[uJ (m+1) m (l.drop (bY l st.1)) _ (by rw[List.length_drop];omega) (by rw[List.length_drop];omega),gK,if_neg hl]
theorem qP:∀(n a:Nat) (l:By) (st:fE),(gK n l st).getLast? =some (dF n l a st).2/\(gK n l st).length=(dF n l a st).1.length+1
 | 0,a,l,st=>⟨rfl,rfl⟩
 |n+1,a,l,st=>by
  rw[gK,dF]
  by_cases hl:l=[]
  · rw[if_pos hl,if_pos hl];exact⟨rfl,rfl⟩
  · rw[if_neg hl,if_neg hl];obtain⟨h1,h2⟩:=qP n (a+bY l st.1) (l.drop (bY l st.1)) (ew l st);refine⟨?_,by simp[h2]⟩;rw[List.getLast?_cons,h1];rfl
theorem AM:∀(n:Nat) (l:By) (a:Nat) (st:fE),(dF n l a st).1.length<=l.length
 | 0,l,a,st=>by simp[dF]
 |n+1,l,a,st=>by
  rw[dF];split
  · simp
  · rename_i h;have h1:=dW h st.1;have h2:=AM n (l.drop (bY l st.1)) (a+bY l st.1) (ew l st);rw[List.length_drop] at h2;simp only[List.length_cons];omega
theorem D3 (m:Int) (l x:By):(gi m l).1<=(gi m (l++x)).1:=by
 have key:∀{rules:List By}{ss:List bM}{st:Nat},Made rules ss st->(cQ ss st l).1<=(cQ ss st (l++x)).1:=fun k=>by
  have h1:=kU k l;have h2:=kU k (l++x)
  rcases h1 with ⟨e,_⟩|⟨n,r,e,hn,hp,_⟩
  · rw[e]
    rcases h2 with ⟨e2,_⟩|⟨n2,r2,e2,_⟩<;>rw[e2]<;>simp
  · have hp':∃s,_:=hp;rw[show l.take n=(l++x).take n by rw[List.take_append_of_le_length hn]] at hp'
    rcases h2 with ⟨e2,h2⟩|⟨n2,r2,e2,hn2,hp2,h3,_⟩
    · exact absurd hp' (h2 n r (by rw[List.length_append];omega))
    · have:=h3 n r (by rw[List.length_append];omega) hp';rw[e,e2];simp only;omega
 unfold gi;split
 · exact key JE
 · split
   · exact key jn
   · split
     · exact key JD
     · simp
theorem FF (h0:l≠[]) (x:By) (st:fE) (h:bY (l++x) st.1+2<l.length):bY (l++x) st.1=bY l st.1/\su (l++x) st.1=su l st.1/\ew (l++x) st=ew l st:=by
 have hm:=D3 st.1 l x;have hl:=rX st.1 l;refine ze h0 x st ?_;unfold bY at h ⊢;split at h
 · rename_i e;have hr:=fu (l:=l++x) (by simp[h0]);have e0:(gi st.1 l).1=0:=by omega
   rw[if_pos e0,<-uR (l:=l) (x:=x) (by omega)];exact h
 · rename_i e;split
   · rename_i e0;have hr:=fu h0
     by_cases h4:4<=l.length
     · by_cases hx:cU l+2<l.length
       · exact hx
       · exfalso;have hmo:=ow st.1 l x (by omega);rw[hmo] at e;exact e e0
     · exfalso;have hmo:=ow st.1 l x (by omega);rw[hmo] at e;exact e e0
   · omega
theorem DV (h0:l≠[]) (x y:By) (st:fE) (h:bY (l++x) st.1+2<l.length):bY (l++y) st.1=bY (l++x) st.1/\su (l++y) st.1=su (l++x) st.1/\ew (l++y) st=ew (l++x) st:=by
 have h1:=FF h0 x st h;have h2:=ze h0 y st (by rw[<-h1.1];exact h);exact⟨h2.1.trans h1.1.symm,h2.2.1.trans h1.2.1.symm,h2.2.2.trans h1.2.2.symm⟩
def cM:Nat->By->Nat->fE->Nat×fE
 | 0,_,a,st=>(a,st)
 |j+1,l,a,st=>if l=[] then (a,st) else cM j (l.drop (bY l st.1)) (a+bY l st.1) (ew l st)
theorem mI:∀(j:Nat) (l:By) (a:Nat) (st:fE),a<=(cM j l a st).1/\(cM j l a st).1<=a+l.length
 | 0,l,a,st=>⟨Nat.le_refl _,by simp[cM]⟩
 |j+1,l,a,st=>by
  rw[cM];split
  · simp
  · rename_i h;have h1:=dW h st.1;have h2:=mI j (l.drop (bY l st.1)) (a+bY l st.1) (ew l st);rw[List.length_drop] at h2;omega
theorem Gi:∀(j n:Nat) (l:By) (a:Nat) (st:fE),l.length<=n->j<=(dF n l a st).1.length ->
 (dF n l a st)=((dF n l a st).1.take j++(dF n (l.drop ((cM j l a st).1-a)) (cM j l a st).1 (cM j l a st).2).1,(dF n (l.drop ((cM j l a st).1-a)) (cM j l a st).1 (cM j l a st).2).2) /\
 gK n l st=(gK n l st).take j++gK n (l.drop ((cM j l a st).1-a)) (cM j l a st).2
 | 0,n,l,a,st,hn,hj=>by simp[cM]
 |j+1,n,l,a,st,hn,hj=>by
  by_cases h0:l=[]
  · subst h0;rw[lC] at hj;simp at hj
  · have h1:=dW h0 st.1;rw[fR h0 hn] at hj ⊢;rw[jg h0 hn,cM,if_neg h0];obtain⟨e1,e2⟩:=Gi j n (l.drop (bY l st.1)) (a+bY l st.1) (ew l st) (by rw[List.length_drop];omega) (by simpa using hj);have hg:=mI j (l.drop (bY l st.1)) (a+bY l st.1) (ew l st);generalize cM j (l.drop (bY l st.1)) (a+bY l st.1) (ew l st)=q at *;rw[List.drop_drop,show bY l st.1+(q.1-(a+bY l st.1))=q.1-a by omega] at e1 e2;refine⟨?_,?_⟩
    · rw[Prod.mk.injEq];refine⟨?_,?_⟩
      · rw[List.take_succ_cons,List.cons_append]
        congr 1
        have:=congrArg Prod.fst e1;exact this
      · have:=congrArg Prod.snd e1;exact this
    · rw[List.take_succ_cons,List.cons_append]
      congr 1
theorem Fb:∀(j n:Nat) (l:By) (a:Nat) (st:fE),l.length<=n->j<(dF n l a st).1.length->(cM j l a st).1<a+l.length /\
 (dF n l a st).1[j]? =some (su (l.drop ((cM j l a st).1-a)) (cM j l a st).2.1,((cM j l a st).1:Int),(((cM j l a st).1+bY (l.drop ((cM j l a st).1-a)) (cM j l a st).2.1:Nat):Int))/\(gK n l st)[j]? =some (cM j l a st).2 /\
 (cM (j+1) l a st).1=(cM j l a st).1+bY (l.drop ((cM j l a st).1-a)) (cM j l a st).2.1/\(cM (j+1) l a st).2=ew (l.drop ((cM j l a st).1-a)) (cM j l a st).2:=fun j n l a st hn hj=>by
 induction j generalizing l a st with
 |zero =>
  by_cases h0:l=[]
  · subst h0;rw[lC] at hj;simp at hj
  · have:=List.length_pos_iff.2 h0;rw[fR h0 hn,jg h0 hn];simp[cM,h0];omega
 |succ j ih =>
  by_cases h0:l=[]
  · subst h0;rw[lC] at hj;simp at hj
  · have h1:=dW h0 st.1;rw[fR h0 hn] at hj ⊢;rw[jg h0 hn];have hih:=ih (l.drop (bY l st.1)) (a+bY l st.1) (ew l st) (by rw[List.length_drop];omega) (by simpa using hj);have hg:=mI j (l.drop (bY l st.1)) (a+bY l st.1) (ew l st);have e1:cM (j+1) l a st=cM j (l.drop (bY l st.1)) (a+bY l st.1) (ew l st):=by rw[cM,if_neg h0]
    have e2:cM (j+1+1) l a st=cM (j+1) (l.drop (bY l st.1)) (a+bY l st.1) (ew l st):=by rw[cM,if_neg h0]
    rw[e2,e1];generalize cM (j+1) (l.drop (bY l st.1)) (a+bY l st.1) (ew l st)=q2 at *;generalize cM j (l.drop (bY l st.1)) (a+bY l st.1) (ew l st)=q at *;rw[List.drop_drop,List.length_drop,show bY l st.1+(q.1-(a+bY l st.1))=q.1-a by omega] at hih;refine⟨by omega,?_,?_,hih.2.2.2⟩
    · simpa using hih.2.1
    · simpa using hih.2.2.1
theorem uV:∀(j n n':Nat) (A x y:By) (a:Nat) (st:fE),(A++x).length<=n->(A++y).length<=n'->j<=(dF n (A++x) a st).1.length->(j=0\/(cM j (A++x) a st).1+2<a+A.length) ->
 cM j (A++y) a st=cM j (A++x) a st/\j<=(dF n' (A++y) a st).1.length/\(dF n' (A++y) a st).1.take j=(dF n (A++x) a st).1.take j/\(gK n' (A++y) st).take j=(gK n (A++x) st).take j
 | 0,n,n',A,x,y,a,st,_,_,_,_=>by simp[cM]
 |j+1,n,n',A,x,y,a,st,hn,hn',hj,hg=>by
  have hg:=hg.resolve_left (by omega)
  by_cases h0:A++x=[]
  · rw[h0,lC] at hj;simp at hj
  · have h1:=dW h0 st.1;have e1:cM (j+1) (A++x) a st=cM j ((A++x).drop (bY (A++x) st.1)) (a+bY (A++x) st.1) (ew (A++x) st):=by rw[cM,if_neg h0]
    have hgg:=mI j ((A++x).drop (bY (A++x) st.1)) (a+bY (A++x) st.1) (ew (A++x) st);rw[<-e1] at hgg;have hA:A≠[]:=fun e=>by subst e;simp only[List.length_nil] at hg;omega
    have hlt:bY (A++x) st.1+2<A.length:=by omega
    obtain⟨g1,g2,g3⟩:=DV hA x y st hlt;have h0y:A++y≠[]:=by simp[hA]
    have e2:cM (j+1) (A++y) a st=cM j ((A++y).drop (bY (A++y) st.1)) (a+bY (A++y) st.1) (ew (A++y) st):=by rw[cM,if_neg h0y]
    have dx:(A++x).drop (bY (A++x) st.1)=A.drop (bY (A++x) st.1)++x:=List.drop_append_of_le_length (by omega);have dy:(A++y).drop (bY (A++x) st.1)=A.drop (bY (A++x) st.1)++y:=List.drop_append_of_le_length (by omega);rw[fR h0 hn] at hj;rw[fR h0 hn,fR h0y hn',jg h0 hn,jg h0y hn',e1,e2,g1,g2,g3,dx,dy];rw[dx] at hj e1;have hle:=h1.2;generalize bY (A++x) st.1=L at *;generalize ew (A++x) st=nx at *;simp only[List.length_append] at hn hn' hle;obtain⟨k1,k2,k3,k4⟩:=uV j n n' (A.drop L) x y (a+L) nx (by simp;omega) (by simp;omega) (by simpa using hj) (.inr (by rw[e1] at hg;simp only[List.length_drop];omega));refine⟨k1,by simpa using k2,?_,?_⟩
    · simp only[List.take_succ_cons];rw[k3]
    · simp only[List.take_succ_cons];rw[k4]
theorem MY {a:Nat}{st:fE}(hn:l.length<=n) (hi:i<(dF n l a st).1.length) (h:j<i):(cM j l a st).1<(cM i l a st).1:=by
 induction i with
 |zero=>omega
 |succ i ih =>
  obtain⟨h1,h2,h3,h4,h5⟩:=Fb i n l a st hn (by omega);have hg:=mI i l a st;have hne:l.drop ((cM i l a st).1-a)≠[]:=fun e=>by have:=congrArg List.length e;rw[List.length_drop] at this;simp at this;omega
  have hl:=dW hne (cM i l a st).2.1
  rcases Nat.lt_or_ge j i with h6|h6
  · have:=ih (by omega) h6;omega
  · obtain rfl:j=i:=by omega
    omega
abbrev Pt:=Int×fE
def gw:List Tk->List fE->Int->List Pt
 |t::ts,s::ss,a=>if a+64<=t.2.1 then (t.2.1,s)::gw ts ss t.2.1 else gw ts ss a
 |_,_,_=>[]
def kC (s:By):List fE:=(nZ s).dropLast
def yU (s:By):List Pt:=(0,(0,0))::gw (cx s).1 (kC s) 0
theorem ng (s:By):(nZ s).length=(cx s).1.length+1:=(qP s.length 0 s (0,0)).2
theorem qQ (s:By):nZ s=kC s++[(cx s).2]:=by
 have h1:=qP s.length 0 s (0,0);have h2:(nZ s).getLast? =some (cx s).2:=h1.1;have h0:nZ s≠[]:=fun e=>by rw[e] at h2;cases h2
 rw[List.getLast?_eq_some_getLast h0] at h2;have:=List.dropLast_concat_getLast h0;rw[Option.some.inj h2] at this;exact this.symm
theorem kJ (s:By):(kC s).length=(cx s).1.length:=by unfold kC;rw[List.length_dropLast,ng];omega
theorem HE (hj:j<(cx s).1.length):(kC s)[j]? =(nZ s)[j]? :=by
 rw[qQ,List.getElem?_append_left (by rw[kJ];exact hj)]
def Nq (s:By) (a:Nat) (st:fE):Prop:=∃j,j<(cx s).1.length/\(cM j s 0 (0,0))=(a,st)
theorem HC (hj:j<(cx s).1.length):(cM j s 0 (0,0)).1<s.length /\
 (cx s).1[j]? =some (su (s.drop (cM j s 0 (0,0)).1) (cM j s 0 (0,0)).2.1,((cM j s 0 (0,0)).1:Int),(((cM j s 0 (0,0)).1+bY (s.drop (cM j s 0 (0,0)).1) (cM j s 0 (0,0)).2.1:Nat):Int)) /\
 (nZ s)[j]? =some (cM j s 0 (0,0)).2/\(cM (j+1) s 0 (0,0)).1=(cM j s 0 (0,0)).1+bY (s.drop (cM j s 0 (0,0)).1) (cM j s 0 (0,0)).2.1/\(cM (j+1) s 0 (0,0)).2=ew (s.drop (cM j s 0 (0,0)).1) (cM j s 0 (0,0)).2:=by
 have:=Fb j s.length s 0 (0,0) (Nat.le_refl _) hj;rw[Nat.sub_zero,Nat.zero_add] at this;exact this
theorem mX {t:Tk}(ht:(cx s).1[j]? =some t):t.2.1=(cM j s 0 (0,0)).1:=by
 have hj:=(List.getElem?_eq_some_iff.1 ht).1;have:=(HC hj).2.1;rw[ht] at this;rw[Option.some.inj this]
theorem Fa {t u:Tk}(ht:(cx s).1[i]? =some t) (hu:(cx s).1[j]? =some u) (h:i<j):t.2.1<u.2.1:=by
 rw[mX ht,mX hu];have hj:=(List.getElem?_eq_some_iff.1 hu).1;have:=MY (j:=i) (i:=j) (n:=s.length) (l:=s) (a:=0) (st:=(0,0)) (Nat.le_refl _) hj h;omega
theorem CF {t:Tk}(ht:(cx s).1[j]? =some t):0<=t.2.1/\t.2.1<s.length/\t.2.2<=s.length/\t.2.1<t.2.2:=by
 have hj:=(List.getElem?_eq_some_iff.1 ht).1;obtain⟨h1,h2,_⟩:=HC hj;have hne:s.drop (cM j s 0 (0,0)).1≠[]:=fun e=>by have:=congrArg List.length e;rw[List.length_drop] at this;simp at this;omega
 have h3:=dW hne (cM j s 0 (0,0)).2.1;rw[List.length_drop] at h3;rw[ht] at h2;obtain rfl:=Option.some.inj h2;exact⟨by simp,by simp only;omega,by simp only;omega,by simp only;omega⟩
theorem iG:∀(ts:List Tk) (ss:List fE) (a:Int),∀p∈gw ts ss a,a+64<=p.1
 | [],ss,a,p,h=>by simp[gw] at h
 |t::ts,[],a,p,h=>by simp[gw] at h
 |t::ts,s::ss,a,p,h=>by
  rw[gw] at h;split at h
  · rename_i ha
    rcases List.mem_cons.1 h with rfl|h
    · exact ha
    · have:=iG ts ss t.2.1 p h;omega
  · exact iG ts ss a p h
theorem wz:∀(ts:List Tk) (ss:List fE) (a:Int),(gw ts ss a).Pairwise fun p q=>p.1<q.1
 | [],ss,a=>by simp[gw]
 |t::ts,[],a=>by simp[gw]
 |t::ts,s::ss,a=>by
  rw[gw];split
  · refine List.pairwise_cons.2 ⟨fun q hq=>?_,wz ts ss t.2.1⟩;have:=iG ts ss t.2.1 q hq;simp only;omega
  · exact wz ts ss a
theorem HO (s:By):(yU s).Pairwise fun p q=>p.1<q.1:=by
 unfold yU;refine List.pairwise_cons.2 ⟨fun q hq=>?_,wz _ _ _⟩;have:=iG _ _ _ q hq;simp only;omega
theorem yV:∀(ts:List Tk) (ss:List fE) (a:Int),∀p∈gw ts ss a,∃(j:Nat) (t:Tk),ts[j]? =some t/\ss[j]? =some p.2/\t.2.1=p.1
 | [],ss,a,p,h=>by simp[gw] at h
 |t::ts,[],a,p,h=>by simp[gw] at h
 |t::ts,s::ss,a,p,h=>by
  have key:∀b,p∈gw ts ss b->∃(j:Nat) (t':Tk),(t::ts)[j]? =some t'/\(s::ss)[j]? =some p.2/\t'.2.1=p.1:=fun b hb=>by
   obtain⟨j,t',h1,h2,h3⟩:=yV ts ss b p hb;exact⟨j+1,t',by simpa using h1,by simpa using h2,h3⟩
  rw[gw] at h;split at h
  · rcases List.mem_cons.1 h with rfl|h
    · exact⟨0,t,rfl,rfl,rfl⟩
    · exact key _ h
  · exact key _ h
theorem rE:∀(ts:List Tk) (ss:List fE) (a:Int),(gw ts ss a).length<=ts.length
 | [],ss,a=>by simp[gw]
 |t::ts,[],a=>by simp[gw]
 |t::ts,s::ss,a=>by
  rw[gw];split
  · have:=rE ts ss t.2.1;simp;omega
  · have:=rE ts ss a;simp;omega
theorem Fw {p:Pt}(h:p∈yU s):p=(0,(0,0))\/∃j,j<(cx s).1.length/\((cM j s 0 (0,0)).1:Int)=p.1/\(cM j s 0 (0,0)).2=p.2:=by
 rcases List.mem_cons.1 h with h|h
 · exact .inl h
 · obtain⟨j,t,h1,h2,h3⟩:=yV _ _ _ p h;have hj:=(List.getElem?_eq_some_iff.1 h1).1;refine .inr ⟨j,hj,by rw[<-h3,mX h1],?_⟩;rw[HE hj,(HC hj).2.2.1] at h2;exact Option.some.inj h2
def Hi (pts:List Pt) (a:Int) (p:Pt):Prop:=p∈pts/\(p.1<=a-3\/p=(0,(0,0)))/\∀q∈pts,q.1<=a-3->q.1<=p.1
def Kh (s s':By) (d:Int) (x:Nat):Prop:=∃a st,Nq s a st/\(a:Int)+d=x/\Nq s' x st
def iU (s:By) (i j:Nat) (x:By):By:=s.take i++x++s.drop j
theorem Ir (x:By) (hij:i<=j) (hj:j<=s.length):(iU s i j x).length=i+x.length+(s.length-j):=by
 simp only[iU,List.length_append,List.length_take,List.length_drop];omega
end
end Go.Proofs.YtdihgdeciopfpaaGreatDoor
namespace Go.Proofs.YtdihgdeciopfpaaGreatDoor
open Go Go.Lw
section
variable {x:Nd}{h:au}{O:Nat->Prop}{cs:List Value}
def A6 (s q:Nat):Nat:=(s >>> (64*q))%2 ^ 64
def dH (s q:Nat):Value:=.int .u64 (A6 s q:Nat)
def sS (s:Nat):List Value:=[dH s 0,dH s 1,dH s 2,dH s 3]
theorem A5 (s q:Nat):A6 s q<18446744073709551616:=Nat.mod_lt _ (by decide)
theorem jv (s q i:Nat):(A6 s q).testBit i=(decide (i<64) && s.testBit (64*q+i)):=by
 unfold A6;rw[Nat.testBit_mod_two_pow,Nat.testBit_shiftRight]
theorem E2 (s b:Nat) (q:Nat) (h:q≠b / 64):A6 (s |||(1 <<< b)) q=A6 s q:=by
 apply Nat.eq_of_testBit_eq
 intro i;rw[jv,jv,Nat.testBit_or,Nat.one_shiftLeft,Nat.testBit_two_pow]
 by_cases hi:i<64
 · have:b≠64*q+i:=by omega
   simp[this]
 · simp[hi]
theorem E1 (s b:Nat):A6 (s |||(1 <<< b)) (b / 64)=A6 s (b / 64) ||| 2 ^ (b%64):=by
 apply Nat.eq_of_testBit_eq
 intro i;rw[jv,Nat.testBit_or,Nat.testBit_or,jv,Nat.one_shiftLeft,Nat.testBit_two_pow,Nat.testBit_two_pow]
 by_cases hi:i<64
 · have:(b=64*(b / 64)+i)↔(b%64=i):=by omega
   simp[hi,this]
 · have:¬b%64=i:=by omega
   simp[hi,this]
theorem jb {i:Int}(h:0<=i/\i<=18446744073709551615):IntKind.u64.wrap i=i:=by
 have h64:(2:Int) ^ 64=18446744073709551616:=rfl;simp only[IntKind.wrap,IntKind.bits,IntKind.signed,h64,Bool.false_and,Bool.false_eq_true,if_false];omega
theorem NW {x y:Nat}(hx:x<18446744073709551616) (hy:y<18446744073709551616):IntKind.u64.wrap ((BitVec.ofInt IntKind.u64.bits (x:Int) |||BitVec.ofInt IntKind.u64.bits (y:Int)).toNat:Int)=((x |||y:Nat):Int):=by
 have e:(BitVec.ofInt IntKind.u64.bits (x:Int) |||BitVec.ofInt IntKind.u64.bits (y:Int)).toNat=x |||y:=by
  rw[BitVec.toNat_or]
  have h1:(BitVec.ofInt IntKind.u64.bits (x:Int)).toNat=x:=by
   show (BitVec.ofInt 64 (x:Int)).toNat=x
   simp only[BitVec.toNat_ofInt];omega
  have h2:(BitVec.ofInt IntKind.u64.bits (y:Int)).toNat=y:=by
   show (BitVec.ofInt 64 (y:Int)).toNat=y
   simp only[BitVec.toNat_ofInt];omega
  rw[h1,h2]
 rw[e];have:x |||y<2 ^ 64:=Nat.or_lt_two_pow hx hy;exact jb ⟨by omega,by omega⟩
theorem LA (b:Nat):IntKind.u64.wrap (1*2 ^ min ((b%64:Nat):Int).toNat IntKind.u64.bits)=((2 ^ (b%64):Nat):Int):=by
 have hb:b%64<64:=Nat.mod_lt _ (by decide);have h1:min ((b%64:Nat):Int).toNat IntKind.u64.bits=b%64:=by show min _ 64=_;simp;omega
 rw[h1,Int.one_mul];have h2:2 ^ (b%64)<2 ^ 64:=Nat.pow_lt_pow_right (by decide) hb;have h3:((2:Int) ^ (b%64))=((2 ^ (b%64):Nat):Int):=by push_cast;rfl
 rw[h3];generalize 2 ^ (b%64)=p at *;exact jb ⟨by omega,by omega⟩
theorem OM {x:Nat}(hx:x<18446744073709551616):IntKind.u64.wrap ((BitVec.ofInt IntKind.u64.bits (x:Int) &&& BitVec.ofInt IntKind.u64.bits 1).toNat:Int)=((x%2:Nat):Int):=by
 have e:(BitVec.ofInt IntKind.u64.bits (x:Int) &&& BitVec.ofInt IntKind.u64.bits 1).toNat=x%2:=by
  rw[BitVec.toNat_and]
  have h1:(BitVec.ofInt IntKind.u64.bits (x:Int)).toNat=x:=by
   show (BitVec.ofInt 64 (x:Int)).toNat=x
   simp only[BitVec.toNat_ofInt];omega
  rw[h1]
  show x &&& 1=_
  exact Nat.and_one_is_mod x
 rw[e];exact jb ⟨by omega,by omega⟩
theorem Lz (x:Nat) (b:Nat) (hb:b<64):((x:Int)).fdiv (2 ^ min ((b:Nat):Int).toNat IntKind.u64.bits)=((x >>> b:Nat):Int):=by
 have h1:min ((b:Nat):Int).toNat IntKind.u64.bits=b:=by show min _ 64=_;simp;omega
 rw[h1,Nat.shiftRight_eq_div_pow];have h3:((2:Int) ^ b)=((2 ^ b:Nat):Int):=by push_cast;rfl
 rw[h3,Int.fdiv_eq_ediv_of_nonneg _ (Int.natCast_nonneg _)]
 push_cast;rfl
theorem Hz (s b:Nat):(A6 s (b / 64) >>> (b%64))%2=(s.testBit b).toNat:=by
 have h:=jv s (b / 64) (b%64);rw[show 64*(b / 64)+b%64=b from Nat.div_add_mod b 64] at h;have hb:b%64<64:=Nat.mod_lt _ (by decide);simp only[hb,decide_true,Bool.true_and] at h;rw[Nat.shiftRight_eq_div_pow,<-Nat.toNat_testBit,h]
def cX (k s:Nat) (v:Value):List Value:=[.int .i64 k,dH s 0,dH s 1,dH s 2,dH s 3,v]
inductive bS (h:au) (O:Nat->Prop):List Value->Nd->Prop
 |mk (k s:Nat) (kids:List Nd) (oa:Option Addr) (n c:Nat) (css:Nat->List Value) (hl:kids.length=n) (hc:n<=c) (hm:c<=maxLen)
  (hr:∀i x,kids[i]? =some x->∃b o,oa=some ⟨b,o,none⟩/\¬O b/\Lw.rowAt h b (o+i*6) (css i)) (hk:∀i x,kids[i]? =some x->bS h O (css i) x):bS h O (cX k s (.slice oa n c)) (.mk k s kids)
theorem bS.len (k:bS h O cs x):cs.length=6:=by cases k;rfl
theorem bS.one (k:bS h O cs x):∀v∈cs,v.oneCell'=true:=by
 cases k;intro v hv;simp[cX,dH] at hv
 rcases hv with rfl|rfl|rfl|rfl|rfl|rfl<;>rfl
theorem bS.mv {h':au}{O':Nat->Prop}(k:bS h O cs x) (m:Mv O O' h h'):bS h' O' cs x:=by
 induction k with
 |mk k s kids oa n c css hl hc hm hr hk ih =>
  refine .mk k s kids oa n c css hl hc hm (fun i x hx=>?_) ih;obtain⟨b,o,ha,ho,hrow⟩:=hr i x hx;have hne:css i≠[]:=by intro e;have:=(hk i x hx).len;rw[e] at this;cases this
  exact⟨b,o,ha,(m.block b (dz hrow hne) ho).2,m.rowAt ho hrow⟩
def pM:fF Nd:=⟨6,by decide,bS,bS.len,bS.one,bS.mv⟩
theorem bS.aq {h h':au}{O:Nat->Prop}{cs:List Value}{x:Nd}(k:bS h O cs x) (e:av h h'):bS h' O cs x:=k.mv (Mv.aq e)
theorem bS.of {v:Value}{kids:List Nd}(k s:Nat) (hv:bF pM h O v kids):bS h O (cX k s v) (.mk k s kids):=by
 obtain⟨oa,n,c,rfl,hl,hc,hm,hg⟩:=hv
 have hx:∀i,i<n->∃cs:List Value,∃x,kids[i]? =some x/\(∃b o,oa=some ⟨b,o,none⟩/\¬O b/\Lw.rowAt h b (o+i*6) cs)/\bS h O cs x:=by
  intro i hi;obtain⟨b,o,cs,h1,h2,h3,h4⟩:=hg i kids[i] (List.getElem?_eq_getElem (by omega));exact⟨cs,kids[i],List.getElem?_eq_getElem (by omega),⟨b,o,h1,h2,h3⟩,h4⟩
 refine .mk k s kids oa n c (fun i=>if hi:i<n then Classical.choose (hx i hi) else []) hl hc hm (fun i x hxi=>?_) (fun i x hxi=>?_)
 · have hi:i<n:=by rw[<-hl];exact(List.getElem?_eq_some_iff.1 hxi).1
   simp only[dif_pos hi];obtain⟨y,_,h2,_⟩:=Classical.choose_spec (hx i hi);exact h2
 · have hi:i<n:=by rw[<-hl];exact(List.getElem?_eq_some_iff.1 hxi).1
   simp only[dif_pos hi];obtain⟨y,h1,_,h3⟩:=Classical.choose_spec (hx i hi);rw[h1] at hxi;cases hxi;exact h3
theorem bS.open (k:bS h O cs x):∃v,cs=cX x.kind x.set v/\bF pM h O v x.kids:=by
 cases k with
 |mk k s kids oa n c css hl hc hm hr hk =>
  exact⟨_,rfl,oa,n,c,rfl,hl,hc,hm,fun i x hx=>by
   obtain⟨b,o,h1,h2,h3⟩:=hr i x hx;exact⟨b,o,css i,h1,h2,h3,hk i x hx⟩⟩
def bs (l:List UInt8):ByteArray:=⟨l.toArray⟩
theorem xM (l:List UInt8):(bs l).data.toList=l:=by simp[bs]
theorem Ng (s:ByteArray):bs s.data.toList=s:=by simp[bs]
theorem aR (l:List UInt8):(bs l).size=l.length:=by simp[bs,ByteArray.size]
theorem bP (l m:List UInt8):bs l++bs m=bs (l++m):=by
 apply ByteArray.ext
 simp[bs]
theorem ef {l m:List UInt8}(h:bs l=bs m):l=m:=by have:=congrArg (fun x=>x.data.toList) h;simpa [bs] using this
theorem AD (l m:List UInt8):decide (bs l=bs m)=decide (l=m):=by
 rw[decide_eq_decide];exact⟨ef,fun h=>by rw[h]⟩
theorem gk {l:List UInt8}{i:Nat}{c:UInt8}(h:l[i]? =some c):(bs l).data[i]? =some c:=by simpa [bs] using h
theorem jM (l:List UInt8) (i:Nat):(bs l).extract i (bs l).size=bs (l.drop i):=by
 apply ByteArray.ext
 apply Array.ext'
 rw[ByteArray.data_extract,Array.toList_extract,List.extract_eq_take_drop];rw[aR];simp only[bs];exact List.take_of_length_le (by simp)
theorem nP (l:List UInt8) (i j:Nat) (_h:i<=j):(bs l).extract i j=bs ((l.take j).drop i):=by
 apply ByteArray.ext
 apply Array.ext'
 rw[ByteArray.data_extract,Array.toList_extract,List.extract_eq_take_drop];simp only[bs];rw[List.drop_take]
theorem Lq (c d:UInt8):decide (((c.toNat:Nat):Int)≠((d.toNat:Nat):Int))=decide (c≠d):=by
 rw[decide_eq_decide];exact⟨fun h e=>h (by rw[e]),fun h e=>h (UInt8.toNat_inj.1 (by omega))⟩
theorem cF {c:UInt8}{k:Nat}{d:UInt8}(hd:d.toNat=k):(((c.toNat:Nat):Int)=(k:Int))↔c=d:=by
 subst hd;exact⟨fun e=>UInt8.toNat_inj.1 (by omega),fun e=>by rw[e]⟩
end
end Go.Proofs.YtdihgdeciopfpaaGreatDoor

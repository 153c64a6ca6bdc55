/- What the proof of the statement leans on (part 21). -/
import Derived.Lib.DecodeN
import Derived.Lib.IndexMore
import Derived.Test.YtpjgdgdnbkjoiaaGreatDoorQt

namespace Go.Proofs.YtpjgdgdnbkjoiaaGreatDoor
open Go
section
variable {l:By}
def eG (m:Int) (l:By):Int×Int:=if m=0 then cX An 53 l else if m=1 then cX Am 10 l else if m=2 then cX Al 11 l else (0,-1)
def wL (m:Int):List (Int×Int):=if m=0 then [(1,0),(2,0),(3,0),(5,0),(11,0),(11,3),(9,1),(7,0),(8,0),(6,0)] else if m=1 then [(9,0),(10,0),(9,2),(9,0)] else if m=2 then [(11,3),(11,4),(11,0),(11,0)] else []
def jI (m n:Int):Option (Int×Int):=if n<0 then none else (wL m)[n.toNat]?
def rX (m n:Int):Int:=match jI m n with|some p=>p.1|none=>0
abbrev ew:=Int×Int
def jL (s:ew) (n:Int):ew:=match jI s.1 n with
  |none=>s
  |some p=>if p.2=0 then s else if p.2=1 then (1,0) else if p.2=3 then (2,min (max s.2 0) 16383+1) else if p.2=4/\1<s.2 then (s.1,s.2-1) else (0,0)
def HM:By:=[32,105,102,32,101,108,115,101,32,108,101,116,32,105,110,32,102,117,110,32,116,114,117,101,32,102,97,108,115,101,32,97,110,100,32,111,114,32,110,111,116,32]
def tK (s:By):Bool:=decide (s≠[]) && (!Lib.contains s [32] && Lib.contains HM (32::(s++[32])))
def aN (l:By):Nat:=(Lib.decodeN l.length (l.getD 0 0).toNat (l.getD 1 0).toNat (l.getD 2 0).toNat (l.getD 3 0).toNat).2
def bB (l:By) (m:Int):Nat:=if (eG m l).1=0 then aN l else (eG m l).1.toNat
def mh (l:By) (m:Int):Int:=if (eG m l).1=0 then 0 else if rX m (eG m l).2=3/\tK (l.take (eG m l).1.toNat)=true then 4 else rX m (eG m l).2
def dJ (l:By) (st:ew):ew:=if (eG st.1 l).1=0 then st else jL st (eG st.1 l).2
abbrev Tk:=Int×Int×Int
def cR:Nat->By->Nat->ew->List Tk×ew
  | 0,_,_,st=>([],st)
  |n+1,l,at_,st=>if l=[] then ([],st) else
    (((mh l st.1,(at_:Int),((at_+bB l st.1:Nat):Int)):Tk)::(cR n (l.drop (bB l st.1)) (at_+bB l st.1) (dJ l st)).1,(cR n (l.drop (bB l st.1)) (at_+bB l st.1) (dJ l st)).2)
def aQ (s:By):List Tk×ew:=cR s.length s 0 (0,0)
theorem qL (n b0 b1 b2 b3:Nat):1<=(Lib.decodeN n b0 b1 b2 b3).2:=by
  unfold Lib.decodeN
  repeat' split
  all_goals simp
theorem Et (n b0 b1 b2 b3:Nat) (hn:1<=n):(Lib.decodeN n b0 b1 b2 b3).2<=n:=by
  unfold Lib.decodeN
  repeat' split
  all_goals (simp only;omega)
theorem cv (h:l≠[]):1<=aN l/\aN l<=l.length:=⟨qL _ _ _ _ _,Et _ _ _ _ _ (List.length_pos_iff.2 h)⟩
theorem LI:Made DO An 53:=fC O0
theorem mT:Made DN Am 10:=fC Kb
theorem LH:Made DM Al 11:=fC OZ
theorem jG (m:Int) (l:By):0<=(eG m l).1/\(eG m l).1<=l.length:=by
  have key:∀{rules:List By}{ss:List bA}{st:Nat},Made rules ss st->0<=(cX ss st l).1/\(cX ss st l).1<=l.length:=fun k=>by
    rcases nV k l with ⟨e,_⟩|⟨n,r,e,hn,_⟩
    · rw[e];simp
    · rw[e];simp only;omega
  unfold eG;split
  · exact key LI
  · split
    · exact key mT
    · split
      · exact key LH
      · simp
theorem dH (h:l≠[]) (m:Int):1<=bB l m/\bB l m<=l.length:=by
  have h1:=jG m l;have h2:=cv h;unfold bB;split
  · exact h2
  · omega
theorem pE:∀(n k:Nat) (l:By) (a:Nat) (st:ew),l.length<=n->l.length<=k->cR n l a st=cR k l a st
  | 0,0,_,_,_,_,_=>rfl
  | 0,k+1,l,a,st,h,_=>by
    have:l=[]:=List.length_eq_zero_iff.1 (by omega);rw[cR,cR,if_pos this]
  |n+1,0,l,a,st,_,h=>by
    have:l=[]:=List.length_eq_zero_iff.1 (by omega);rw[cR,cR,if_pos this]
  |n+1,k+1,l,a,st,h1,h2=>by
    rw[cR,cR]
    by_cases hl:l=[]
    · rw[if_pos hl,if_pos hl]
    · have:=dH hl st.1;rw[if_neg hl,if_neg hl,pE n k _ _ _ (by rw[List.length_drop];omega) (by rw[List.length_drop];omega)]
theorem uo {d:bK}:∀(l x:By) (s k:Nat) (b:Int×Int),(aL d l s k b).2.2<((k+l.length:Nat):Int)->aL d (l++x) s k b=aL d l s k b
  | [],x,s,k,b,h=>by
    exfalso;rw[aL] at h;split at h
    · simp only[List.length_nil,Nat.add_zero] at h;omega
    · simp only[List.length_nil,Nat.add_zero] at h;omega
  |c::l,x,s,k,b,h=>by
    rw[List.cons_append,aL,aL];rw[aL] at h;split
    · rename_i hp;rw[if_pos hp] at h;exact uo l x _ _ _ (by rw[List.length_cons] at h;rw[show k+1+l.length=k+(l.length+1) by omega];exact h)
    · rfl
theorem jw {rules:List By}{ss:List bA}{st:Nat}(hm:fh rules= .inr (ss,st)){H:List (List Nat×Nat)}{tab reps:List UInt8}(hr:jo ss tab reps=true) (ha:qT ss H reps=true) (hs:A3 H (bX ss st)=some 0/\bX ss st≠[]/\¬0<=bh ss (bX ss st)) (hH:H.length<=2000) :
    ∃d,gI ss st= .inr d/\(∀l,(aL d l 0 0 (0,-1)).2.2<=(cX ss st l).1+2)/\∀l x:By,(cX ss st l).1+2<l.length->cX ss st (l++x)=cX ss st l:=by
  have hM:=fC hm;have hmem:=wS hs.1;obtain⟨d,hd⟩:=CT (Jy hr ha) (by simpa using hH) (fun e=>hs.2.1 (List.length_eq_zero_iff.1 e)) (List.mem_map.2 ⟨_,hmem,rfl⟩);obtain⟨_,L,h1,h2,_⟩:=jn hd;have hst:=hM.stl;have hmt:=fun l=>mE hd (by omega) l
  have h2s:∀l,(aL d l 0 0 (0,-1)).2.2<=(aL d l 0 0 (0,-1)).1+2:=fun l=>yW h1 h2 hr ha l 0 0 (0,-1) _ 0 h1.first hmem (by rw[if_neg hs.2.2];simp)
  have hmt1:∀l,(aL d l 0 0 (0,-1)).1=(cX ss st l).1:=fun l=>by have:=hmt l;rw[<-this]
  refine⟨d,hd,fun l=>by rw[<-hmt1];exact h2s l,fun l x hlt=>?_⟩;have:=h2s l;rw[hmt1] at this;rw[<-hmt (l++x),<-hmt l,uo l x 0 0 (0,-1) (by rw[Nat.zero_add];omega)]
theorem o9:Nn.length<=2000/\PX.length<=2000/\KM.length<=2000:=by decide
theorem tg (m:Int) (l x:By) (h:(eG m l).1+2<l.length):eG m (l++x)=eG m l:=by
  obtain⟨_,_,_,h0⟩:=jw O0 LV LY LR o9.1;obtain⟨_,_,_,h1⟩:=jw Kb LU LX LQ o9.2.1;obtain⟨_,_,_,h2⟩:=jw OZ LS LW LP o9.2.2;unfold eG at h ⊢;split
  · rename_i e;rw[if_pos e] at h;exact h0 l x h
  · rename_i e;rw[if_neg e] at h;split
    · rename_i e;rw[if_pos e] at h;exact h1 l x h
    · rename_i e;rw[if_neg e] at h;split
      · rename_i e;rw[if_pos e] at h;exact h2 l x h
      · rfl
theorem zb {x:By}(h:4<=l.length):aN (l++x)=aN l:=by
  have hg:∀i,i<4->(l++x).getD i 0=l.getD i 0:=fun i hi=>by rw[List.getD_eq_getElem?_getD,List.getD_eq_getElem?_getD,List.getElem?_append_left (by omega)]
  unfold aN;rw[hg 0 (by decide),hg 1 (by decide),hg 2 (by decide),hg 3 (by decide),List.length_append]
  have key:∀n k b0 b1 b2 b3:Nat,4<=n->Lib.decodeN (n+k) b0 b1 b2 b3=Lib.decodeN n b0 b1 b2 b3:=fun n k b0 b1 b2 b3 hn=>by
    have e1:(1<n+k)=(1<n):=propext ⟨fun _=>by omega,fun _=>by omega⟩;have e2:(2<n+k)=(2<n):=propext ⟨fun _=>by omega,fun _=>by omega⟩;have e3:(3<n+k)=(3<n):=propext ⟨fun _=>by omega,fun _=>by omega⟩;simp only[Lib.decodeN,e1,e2,e3]
  rw[key _ _ _ _ _ _ h]
theorem B9 (h0:l≠[]) (x:By) (st:ew) (h:bB l st.1+2<l.length):bB (l++x) st.1=bB l st.1/\mh (l++x) st.1=mh l st.1/\dJ (l++x) st=dJ l st:=by
  have hl:=jG st.1 l;have hr:=cv h0
  have hm:eG st.1 (l++x)=eG st.1 l:=by
    refine tg st.1 l x ?_;unfold bB at h;split at h
    · omega
    · omega
  unfold bB mh dJ;rw[hm];unfold bB at h;split at h
  · rename_i e;simp only[if_pos e];exact⟨zb (by omega),trivial,trivial⟩
  · rename_i e;simp only[if_neg e];rw[List.take_append_of_le_length (by omega)];exact⟨trivial,rfl,trivial⟩
end
end Go.Proofs.YtpjgdgdnbkjoiaaGreatDoor

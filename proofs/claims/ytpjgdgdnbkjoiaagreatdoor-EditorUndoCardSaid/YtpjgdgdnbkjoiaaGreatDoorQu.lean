/- What the proof of the statement leans on (part 21). -/
import Derived.Lib.DecodeN
import Derived.Lib.IndexMore
import Derived.Test.YtpjgdgdnbkjoiaaGreatDoorQt

namespace Go.Proofs.YtpjgdgdnbkjoiaaGreatDoor
open Go
section
variable {l:By}
def eI (m:Int) (l:By):Int×Int:=if m=0 then de AE 53 l else if m=1 then de AD 10 l else if m=2 then de AB 11 l else (0,-1)
def wZ (m:Int):List (Int×Int):=if m=0 then [(1,0),(2,0),(3,0),(5,0),(11,0),(11,3),(9,1),(7,0),(8,0),(6,0)] else if m=1 then [(9,0),(10,0),(9,2),(9,0)] else if m=2 then [(11,3),(11,4),(11,0),(11,0)] else []
def jV (m n:Int):Option (Int×Int):=if n<0 then none else (wZ m)[n.toNat]?
def sy (m n:Int):Int:=match jV m n with|some p=>p.1|none=>0
abbrev ey:=Int×Int
def jY (s:ey) (n:Int):ey:=match jV s.1 n with
  |none=>s
  |some p=>if p.2=0 then s else if p.2=1 then (1,0) else if p.2=3 then (2,min (max s.2 0) 16383+1) else if p.2=4/\1<s.2 then (s.1,s.2-1) else (0,0)
def HR:By:=[32,105,102,32,101,108,115,101,32,108,101,116,32,105,110,32,102,117,110,32,116,114,117,101,32,102,97,108,115,101,32,97,110,100,32,111,114,32,110,111,116,32]
def tZ (s:By):Bool:=decide (s≠[]) && (!Lib.contains s [32] && Lib.contains HR (32::(s++[32])))
def aN (l:By):Nat:=(Lib.decodeN l.length (l.getD 0 0).toNat (l.getD 1 0).toNat (l.getD 2 0).toNat (l.getD 3 0).toNat).2
def bB (l:By) (m:Int):Nat:=if (eI m l).1=0 then aN l else (eI m l).1.toNat
def mL (l:By) (m:Int):Int:=if (eI m l).1=0 then 0 else if sy m (eI m l).2=3/\tZ (l.take (eI m l).1.toNat)=true then 4 else sy m (eI m l).2
def dM (l:By) (st:ey):ey:=if (eI st.1 l).1=0 then st else jY st (eI st.1 l).2
abbrev Tk:=Int×Int×Int
def cV:Nat->By->Nat->ey->List Tk×ey
  | 0,_,_,st=>([],st)
  |n+1,l,at_,st=>if l=[] then ([],st) else
    (((mL l st.1,(at_:Int),((at_+bB l st.1:Nat):Int)):Tk)::(cV n (l.drop (bB l st.1)) (at_+bB l st.1) (dM l st)).1,(cV n (l.drop (bB l st.1)) (at_+bB l st.1) (dM l st)).2)
def aQ (s:By):List Tk×ey:=cV s.length s 0 (0,0)
theorem qT (n b0 b1 b2 b3:Nat):1<=(Lib.decodeN n b0 b1 b2 b3).2:=by
  unfold Lib.decodeN
  repeat' split
  all_goals simp
theorem EE (n b0 b1 b2 b3:Nat) (hn:1<=n):(Lib.decodeN n b0 b1 b2 b3).2<=n:=by
  unfold Lib.decodeN
  repeat' split
  all_goals (simp only;omega)
theorem ct (h:l≠[]):1<=aN l/\aN l<=l.length:=⟨qT _ _ _ _ _,EE _ _ _ _ _ (List.length_pos_iff.2 h)⟩
theorem LY:Made D2 AE 53:=fH Ph
theorem nD:Made D1 AD 10:=fH Kl
theorem LX:Made DZ AB 11:=fH Pg
theorem jS (m:Int) (l:By):0<=(eI m l).1/\(eI m l).1<=l.length:=by
  have key:∀{rules:List By}{ss:List bA}{st:Nat},Made rules ss st->0<=(de ss st l).1/\(de ss st l).1<=l.length:=fun k=>by
    rcases oz k l with ⟨e,_⟩|⟨n,r,e,hn,_⟩
    · rw[e];simp
    · rw[e];simp only;omega
  unfold eI;split
  · exact key LY
  · split
    · exact key nD
    · split
      · exact key LX
      · simp
theorem dJ (h:l≠[]) (m:Int):1<=bB l m/\bB l m<=l.length:=by
  have h1:=jS m l;have h2:=ct h;unfold bB;split
  · exact h2
  · omega
theorem pT:∀(n k:Nat) (l:By) (a:Nat) (st:ey),l.length<=n->l.length<=k->cV n l a st=cV k l a st
  | 0,0,_,_,_,_,_=>rfl
  | 0,k+1,l,a,st,h,_=>by
    have:l=[]:=List.length_eq_zero_iff.1 (by omega);rw[cV,cV,if_pos this]
  |n+1,0,l,a,st,_,h=>by
    have:l=[]:=List.length_eq_zero_iff.1 (by omega);rw[cV,cV,if_pos this]
  |n+1,k+1,l,a,st,h1,h2=>by
    rw[cV,cV]
    by_cases hl:l=[]
    · rw[if_pos hl,if_pos hl]
    · have:=dJ hl st.1;rw[if_neg hl,if_neg hl,pT n k _ _ _ (by rw[List.length_drop];omega) (by rw[List.length_drop];omega)]
theorem uJ {d:bJ}:∀(l x:By) (s k:Nat) (b:Int×Int),(aK d l s k b).2.2<((k+l.length:Nat):Int)->aK d (l++x) s k b=aK d l s k b
  | [],x,s,k,b,h=>by
    exfalso;rw[aK] at h;split at h
    · simp only[List.length_nil,Nat.add_zero] at h;omega
    · simp only[List.length_nil,Nat.add_zero] at h;omega
  |c::l,x,s,k,b,h=>by
    rw[List.cons_append,aK,aK];rw[aK] at h;split
    · rename_i hp;rw[if_pos hp] at h;exact uJ l x _ _ _ (by rw[List.length_cons] at h;rw[show k+1+l.length=k+(l.length+1) by omega];exact h)
    · rfl
theorem jI {rules:List By}{ss:List bA}{st:Nat}(hm:fk rules= .inr (ss,st)){H:List (List Nat×Nat)}{tab reps:List UInt8}(hr:jA ss tab reps=true) (ha:rf ss H reps=true) (hs:Bi H (bW ss st)=some 0/\bW ss st≠[]/\¬0<=bf ss (bW ss st)) (hH:H.length<=2000) :
    ∃d,gP ss st= .inr d/\(∀l,(aK d l 0 0 (0,-1)).2.2<=(de ss st l).1+2)/\∀l x:By,(de ss st l).1+2<l.length->de ss st (l++x)=de ss st l:=by
  have hM:=fH hm;have hmem:=xq hs.1;obtain⟨d,hd⟩:=C4 (JG hr ha) (by simpa using hH) (fun e=>hs.2.1 (List.length_eq_zero_iff.1 e)) (List.mem_map.2 ⟨_,hmem,rfl⟩);obtain⟨_,L,h1,h2,_⟩:=jz hd;have hst:=hM.stl;have hmt:=fun l=>mX hd (by omega) l
  have h2s:∀l,(aK d l 0 0 (0,-1)).2.2<=(aK d l 0 0 (0,-1)).1+2:=fun l=>zo h1 h2 hr ha l 0 0 (0,-1) _ 0 h1.first hmem (by rw[if_neg hs.2.2];simp)
  have hmt1:∀l,(aK d l 0 0 (0,-1)).1=(de ss st l).1:=fun l=>by have:=hmt l;rw[<-this]
  refine⟨d,hd,fun l=>by rw[<-hmt1];exact h2s l,fun l x hlt=>?_⟩;have:=h2s l;rw[hmt1] at this;rw[<-hmt (l++x),<-hmt l,uJ l x 0 0 (0,-1) (by rw[Nat.zero_add];omega)]
theorem pL:NC.length<=2000/\Qc.length<=2000/\KV.length<=2000:=by decide
theorem tH (m:Int) (l x:By) (h:(eI m l).1+2<l.length):eI m (l++x)=eI m l:=by
  obtain⟨_,_,_,h0⟩:=jI Ph L9 Mc L6 pL.1;obtain⟨_,_,_,h1⟩:=jI Kl L8 Mb L5 pL.2.1;obtain⟨_,_,_,h2⟩:=jI Pg L7 Ma L4 pL.2.2;unfold eI at h ⊢;split
  · rename_i e;rw[if_pos e] at h;exact h0 l x h
  · rename_i e;rw[if_neg e] at h;split
    · rename_i e;rw[if_pos e] at h;exact h1 l x h
    · rename_i e;rw[if_neg e] at h;split
      · rename_i e;rw[if_pos e] at h;exact h2 l x h
      · rfl
theorem zy {x:By}(h:4<=l.length):aN (l++x)=aN l:=by
  have hg:∀i,i<4->(l++x).getD i 0=l.getD i 0:=fun i hi=>by rw[List.getD_eq_getElem?_getD,List.getD_eq_getElem?_getD,List.getElem?_append_left (by omega)]
  unfold aN;rw[hg 0 (by decide),hg 1 (by decide),hg 2 (by decide),hg 3 (by decide),List.length_append]
  have key:∀n k b0 b1 b2 b3:Nat,4<=n->Lib.decodeN (n+k) b0 b1 b2 b3=Lib.decodeN n b0 b1 b2 b3:=fun n k b0 b1 b2 b3 hn=>by
    have e1:(1<n+k)=(1<n):=propext ⟨fun _=>by omega,fun _=>by omega⟩;have e2:(2<n+k)=(2<n):=propext ⟨fun _=>by omega,fun _=>by omega⟩;have e3:(3<n+k)=(3<n):=propext ⟨fun _=>by omega,fun _=>by omega⟩;simp only[Lib.decodeN,e1,e2,e3]
  rw[key _ _ _ _ _ _ h]
theorem Ch (h0:l≠[]) (x:By) (st:ey) (h:bB l st.1+2<l.length):bB (l++x) st.1=bB l st.1/\mL (l++x) st.1=mL l st.1/\dM (l++x) st=dM l st:=by
  have hl:=jS st.1 l;have hr:=ct h0
  have hm:eI st.1 (l++x)=eI st.1 l:=by
    refine tH st.1 l x ?_;unfold bB at h;split at h
    · omega
    · omega
  unfold bB mL dM;rw[hm];unfold bB at h;split at h
  · rename_i e;simp only[if_pos e];exact⟨zy (by omega),trivial,trivial⟩
  · rename_i e;simp only[if_neg e];rw[List.take_append_of_le_length (by omega)];exact⟨trivial,rfl,trivial⟩
end
end Go.Proofs.YtpjgdgdnbkjoiaaGreatDoor

/- Part 23. -/
import Derived.Lib.DecodeN
import Derived.Lib.IndexMore
import Derived.Test.YtnjahnbpnpkmhaaGreatDoorQv

namespace Go.Proofs.YtnjahnbpnpkmhaaGreatDoor
open Go
def gI (m:Int) (l:By):Int×Int:=if m=0 then dN AY 53 l else if m=1 then dN AX 10 l else if m=2 then dN AW 11 l else (0,-1)
def qE (m:Int):List (Int×Int):=if m=0 then [(1,0),(2,0),(3,0),(5,0),(11,0),(11,3),(9,1),(7,0),(8,0),(6,0)] else if m=1 then [(9,0),(10,0),(9,2),(9,0)] else if m=2 then [(11,3),(11,4),(11,0),(11,0)] else []
def iJ (m n:Int):Option (Int×Int):=if n<0 then none else (qE m)[n.toNat]?
def kI (m n:Int):Int:=match iJ m n with|some p=>p.1|none=>0
abbrev kY:=Int×Int
def eF (s:kY) (n:Int):kY:=match iJ s.1 n with
  |none=>s
  |some p=>if p.2=0 then s else if p.2=1 then (1,0) else if p.2=3 then (2,min (max s.2 0) 16383+1) else if p.2=4/\1<s.2 then (s.1,s.2-1) else (0,0)
def lO:By:=[32,105,102,32,101,108,115,101,32,108,101,116,32,105,110,32,102,117,110,32,116,114,117,101,32,102,97,108,115,101,32,97,110,100,32,111,114,32,110,111,116,32]
def cY (s:By):Bool:=decide (s≠[]) && (!Lib.contains s [32] && Lib.contains lO (32::(s++[32])))
def mC (l:By):Nat:=(Lib.decodeN l.length (l.getD 0 0).toNat (l.getD 1 0).toNat (l.getD 2 0).toNat (l.getD 3 0).toNat).2
def fJ (l:By) (m:Int):Nat:=if (gI m l).1=0 then mC l else (gI m l).1.toNat
def rq (l:By) (m:Int):Int:=if (gI m l).1=0 then 0 else if kI m (gI m l).2=3/\cY (l.take (gI m l).1.toNat)=true then 4 else kI m (gI m l).2
def jN (l:By) (st:kY):kY:=if (gI st.1 l).1=0 then st else eF st (gI st.1 l).2
abbrev Tk:=Int×Int×Int
def jm:Nat->By->Nat->kY->List Tk×kY
  | 0,_,_,st=>([],st)
  |n+1,l,at_,st=>if l=[] then ([],st) else
    (((rq l st.1,(at_:Int),((at_+fJ l st.1:Nat):Int)):Tk)::(jm n (l.drop (fJ l st.1)) (at_+fJ l st.1) (jN l st)).1,(jm n (l.drop (fJ l st.1)) (at_+fJ l st.1) (jN l st)).2)
def fD (s:By):List Tk×kY:=jm s.length s 0 (0,0)
theorem E0 (n U J I b3:Nat):1<=(Lib.decodeN n U J I b3).2:=by
  unfold Lib.decodeN
  repeat' split
  all_goals simp
theorem EZ (n U J I b3:Nat) (hn:1<=n):(Lib.decodeN n U J I b3).2<=n:=by
  unfold Lib.decodeN
  repeat' split
  all_goals (simp only;omega)
theorem wF {l:By}(h:l≠[]):1<=mC l/\mC l<=l.length:=⟨E0 _ _ _ _ _,EZ _ _ _ _ _ (List.length_pos_iff.2 h)⟩
theorem Od:Made wK AY 53:=eZ N9
theorem kC:Made wJ AX 10:=eZ Jh
theorem Oc:Made wI AW 11:=eZ N8
theorem xD (m:Int) (l:By):0<=(gI m l).1/\(gI m l).1<=l.length:=by
  have key:∀{rules:List By}{ss:List bL}{st:Nat},Made rules ss st->0<=(dN ss st l).1/\(dN ss st l).1<=l.length:=λk=>by
    rcases uK k l with ⟨e,_⟩|⟨n,r,e,hn,_⟩
    · rw[e];simp
    · rw[e];simp only;omega
  unfold gI;split
  · exact key Od
  · split
    · exact key kC
    · split
      · exact key Oc
      · simp
theorem kG {l:By}(h:l≠[]) (m:Int):1<=fJ l m/\fJ l m<=l.length:=by
  have h1:=xD m l;have I:=wF h;unfold fJ;split
  · exact I
  · omega
theorem um:∀(n k:Nat) (l:By) (a:Nat) (st:kY),l.length<=n->l.length<=k->jm n l a st=jm k l a st
  | 0,0,_,_,_,_,_=>rfl
  | 0,k+1,l,a,st,h,_=>by
    have:l=[]:=List.length_eq_zero_iff.1 (by omega);rw[jm,jm,if_pos this]
  |n+1,0,l,a,st,_,h=>by
    have:l=[]:=List.length_eq_zero_iff.1 (by omega);rw[jm,jm,if_pos this]
  |n+1,k+1,l,a,st,h1,h2=>by
    rw[jm,jm]
    by_cases hl:l=[]
    · rw[if_pos hl,if_pos hl]
    · have:=kG hl st.1;rw[if_neg hl,if_neg hl,um n k _ _ _ (by rw[List.length_drop];omega) (by rw[List.length_drop];omega)]
theorem uX {d:bW}:∀(l x:By) (s k:Nat) (b:Int×Int),(aT d l s k b).2.2<((k+l.length:Nat):Int)->aT d (l++x) s k b=aT d l s k b
  | [],x,s,k,b,h=>by
    exfalso;rw[aT] at h;split at h
    · simp only[List.length_nil,Nat.add_zero] at h;omega
    · simp only[List.length_nil,Nat.add_zero] at h;omega
  |c::l,x,s,k,b,h=>by
    rw[List.cons_append,aT,aT];rw[aT] at h;split
    · rename_i I;rw[if_pos I] at h;exact uX l x _ _ _ (by rw[List.length_cons] at h;rw[show k+1+l.length=k+(l.length+1) by omega];exact h)
    · rfl
theorem tO {rules:List By}{ss:List bL}{st:Nat}(hm:eo rules= .inr (ss,st)){H:List (List Nat×Nat)}{tab reps:List UInt8}(hr:jQ ss tab reps=true) (ha:rG ss H reps=true) (hs:BH H (cB ss st)=some 0/\cB ss st≠[]/\¬0<=bu ss (cB ss st)) (hH:H.length<=2000) :
    ∃d,gM ss st= .inr d/\(∀l,(aT d l 0 0 (0,-1)).2.2<=(dN ss st l).1+2)/\∀l x:By,(dN ss st l).1+2<l.length->dN ss st (l++x)=dN ss st l:=by
  have hM:=eZ hm;have J:=xR hs.1;obtain⟨d,Z⟩:=DK (JW hr ha) (by simpa using hH) (λe=>hs.2.1 (List.length_eq_zero_iff.1 e)) (List.mem_map.2 ⟨_,J,rfl⟩);obtain⟨_,L,h1,h2,_⟩:=jO Z;have hst:=hM.stl;have U:=λl=>sS Z (by omega) l
  have Y:∀l,(aT d l 0 0 (0,-1)).2.2<=(aT d l 0 0 (0,-1)).1+2:=λl=>zM h1 h2 hr ha l 0 0 (0,-1) _ 0 h1.first J (by rw[if_neg hs.2.2];simp)
  have I:∀l,(aT d l 0 0 (0,-1)).1=(dN ss st l).1:=λl=>by have:=U l;rw[<-this]
  refine⟨d,Z,λl=>by rw[<-I];exact Y l,λl x hlt=>?_⟩;have:=Y l;rw[I] at this;rw[<-U (l++x),<-U l,uX l x 0 0 (0,-1) (by rw[Nat.zero_add];omega)]
theorem BG:Nj.length<=2000/\Oh.length<=2000/\qu.length<=2000:=by decide
end Go.Proofs.YtnjahnbpnpkmhaaGreatDoor

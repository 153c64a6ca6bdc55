/- What the proof of the statement leans on (part 18). -/
import Derived.Lib.DecodeN
import Derived.Lib.IndexMore
import Derived.Test.YtiigijehmmcfgaaGreatDoorQq

namespace Go.Proofs.YtiigijehmmcfgaaGreatDoor
open Go
def ie (m:Int) (l:By):Int×Int:=if m=0 then dN xE 53 l else if m=1 then dN xD 10 l else if m=2 then dN xC 11 l else (0,-1)
def uk (m:Int):List (Int×Int):=if m=0 then [(1,0),(2,0),(3,0),(5,0),(11,0),(11,3),(9,1),(7,0),(8,0),(6,0)] else if m=1 then [(9,0),(10,0),(9,2),(9,0)] else if m=2 then [(11,3),(11,4),(11,0),(11,0)] else []
def jt (m n:Int):Option (Int×Int):=if n<0 then none else (uk m)[n.toNat]?
def p6 (m n:Int):Int:=match jt m n with|some p=>p.1|none=>0
abbrev vj:=Int×Int
def jy (s:vj) (n:Int):vj:=match jt s.1 n with
 |none=>s
 |some p=>if p.2=0 then s else if p.2=1 then (1,0) else if p.2=3 then (2,min (max s.2 0) 16383+1) else if p.2=4/\1<s.2 then (s.1,s.2-1) else (0,0)
def Ez:By:=[32,105,102,32,101,108,115,101,32,108,101,116,32,105,110,32,102,117,110,32,116,114,117,101,32,102,97,108,115,101,32,97,110,100,32,111,114,32,110,111,116,32]
def rf (s:By):Bool:=decide (s≠[]) && (!Lib.contains s [32] && Lib.contains Ez (32::(s++[32])))
def aZ (l:By):Nat:=(Lib.decodeN l.length (l.getD 0 0).toNat (l.getD 1 0).toNat (l.getD 2 0).toNat (l.getD 3 0).toNat).2
def ja (l:By) (m:Int):Nat:=if (ie m l).1=0 then aZ l else (ie m l).1.toNat
def Ag (l:By) (m:Int):Int:=if (ie m l).1=0 then 0 else if p6 m (ie m l).2=3/\rf (l.take (ie m l).1.toNat)=true then 4 else p6 m (ie m l).2
def pP (l:By) (st:vj):vj:=if (ie st.1 l).1=0 then st else jy st (ie st.1 l).2
abbrev Tk:=Int×Int×Int
def iR:Nat->By->Nat->vj->List Tk×vj
 | 0,_,_,st=>([],st)
 |n+1,l,at_,st=>if l=[] then ([],st) else
  (((Ag l st.1,(at_:Int),((at_+ja l st.1:Nat):Int)):Tk)::(iR n (l.drop (ja l st.1)) (at_+ja l st.1) (pP l st)).1,(iR n (l.drop (ja l st.1)) (at_+ja l st.1) (pP l st)).2)
def jD (s:By):List Tk×vj:=iR s.length s 0 (0,0)
theorem oM (n b0 b1 b2 b3:Nat):1<=(Lib.decodeN n b0 b1 b2 b3).2:=by
 unfold Lib.decodeN
 repeat' split
 all_goals simp
theorem BU (n b0 b1 b2 b3:Nat) (hn:1<=n):(Lib.decodeN n b0 b1 b2 b3).2<=n:=by
 unfold Lib.decodeN
 repeat' split
 all_goals (simp only;omega)
theorem cS {l:By}(h:l≠[]):1<=aZ l/\aZ l<=l.length:=⟨oM _ _ _ _ _,BU _ _ _ _ _ (List.length_pos_iff.2 h)⟩
theorem Kf:Made Bg xE 53:=gj Lt
theorem rG:Made Bf xD 10:=gj GH
theorem Ke:Made Be xC 11:=gj Ls
theorem zU (m:Int) (l:By):0<=(ie m l).1/\(ie m l).1<=l.length:=by
 have key:∀{rules:List By}{ss:List bQ}{st:Nat},Made rules ss st->0<=(dN ss st l).1/\(dN ss st l).1<=l.length:=fun k=>by
  rcases zN k l with ⟨e,_⟩|⟨n,r,e,hn,_⟩
  · rw[e];simp
  · rw[e];simp only;omega
 unfold ie;split
 · exact key Kf
 · split
   · exact key rG
   · split
     · exact key Ke
     · simp
theorem pW {l:By}(h:l≠[]) (m:Int):1<=ja l m/\ja l m<=l.length:=by
 have h1:=zU m l;have h2:=cS h;unfold ja;split
 · exact h2
 · omega
theorem qW:∀(n k:Nat) (l:By) (a:Nat) (st:vj),l.length<=n->l.length<=k->iR n l a st=iR k l a st
 | 0,0,_,_,_,_,_=>rfl
 | 0,k+1,l,a,st,h,_=>by
  have:l=[]:=List.length_eq_zero_iff.1 (by omega);rw[iR,iR,if_pos this]
 |n+1,0,l,a,st,_,h=>by
  have:l=[]:=List.length_eq_zero_iff.1 (by omega);rw[iR,iR,if_pos this]
 |n+1,k+1,l,a,st,h1,h2=>by
  rw[iR,iR]
  by_cases hl:l=[]
  · rw[if_pos hl,if_pos hl]
  · have:=pW hl st.1;rw[if_neg hl,if_neg hl,qW n k _ _ _ (by rw[List.length_drop];omega) (by rw[List.length_drop];omega)]
theorem rT {d:b9}:∀(l x:By) (s k:Nat) (b:Int×Int),(bw d l s k b).2.2<((k+l.length:Nat):Int)->bw d (l++x) s k b=bw d l s k b
 | [],x,s,k,b,h=>by
  exfalso;rw[bw] at h;split at h
  · simp only[List.length_nil,Nat.add_zero] at h;omega
  · simp only[List.length_nil,Nat.add_zero] at h;omega
 |c::l,x,s,k,b,h=>by
  rw[List.cons_append,bw,bw];rw[bw] at h;split
  · rename_i hp;rw[if_pos hp] at h;exact rT l x _ _ _ (by rw[List.length_cons] at h;rw[show k+1+l.length=k+(l.length+1) by omega];exact h)
  · rfl
theorem qH {rules:List By}{ss:List bQ}{st:Nat}(hm:eX rules= .inr (ss,st)){H:List (List Nat×Nat)}{tab reps:List UInt8}(hr:jc ss tab reps=true) (ha:oU ss H reps=true) (hs:yh H (cI ss st)=some 0/\cI ss st≠[]/\¬0<=bJ ss (cI ss st)) (hH:H.length<=2000) :
 ∃d,gu ss st= .inr d/\(∀l,(bw d l 0 0 (0,-1)).2.2<=(dN ss st l).1+2)/\∀l x:By,(dN ss st l).1+2<l.length->dN ss st (l++x)=dN ss st l:=by
 have hM:=gj hm;have hmem:=ur hs.1;obtain⟨d,hd⟩:=Ax (FV hr ha) (by simpa using hH) (fun e=>hs.2.1 (List.length_eq_zero_iff.1 e)) (List.mem_map.2 ⟨_,hmem,rfl⟩);obtain⟨_,L,h1,h2,_⟩:=jb hd;have hst:=hM.stl;have hmt:=fun l=>qi hd (by omega) l
 have h2s:∀l,(bw d l 0 0 (0,-1)).2.2<=(bw d l 0 0 (0,-1)).1+2:=fun l=>vW h1 h2 hr ha l 0 0 (0,-1) _ 0 h1.first hmem (by rw[if_neg hs.2.2];simp)
 have hmt1:∀l,(bw d l 0 0 (0,-1)).1=(dN ss st l).1:=fun l=>by have:=hmt l;rw[<-this]
 refine⟨d,hd,fun l=>by rw[<-hmt1];exact h2s l,fun l x hlt=>?_⟩;have:=h2s l;rw[hmt1] at this;rw[<-hmt (l++x),<-hmt l,rT l x 0 0 (0,-1) (by rw[Nat.zero_add];omega)]
theorem yg:HY.length<=2000/\Lu.length<=2000/\GX.length<=2000:=by decide
end Go.Proofs.YtiigijehmmcfgaaGreatDoor

/- What the proof of the statement leans on (part 18). -/
import Derived.Lib.DecodeN
import Derived.Lib.IndexMore
import Derived.Test.YtiigijehmmcfgaaGreatDoorQq

namespace Go.Proofs.YtiigijehmmcfgaaGreatDoor
open Go
def gW (m:Int) (l:By):Int×Int:=if m=0 then dM wY 53 l else if m=1 then dM wX 10 l else if m=2 then dM wW 11 l else (0,-1)
def tM (m:Int):List (Int×Int):=if m=0 then [(1,0),(2,0),(3,0),(5,0),(11,0),(11,3),(9,1),(7,0),(8,0),(6,0)] else if m=1 then [(9,0),(10,0),(9,2),(9,0)] else if m=2 then [(11,3),(11,4),(11,0),(11,0)] else []
def jm (m n:Int):Option (Int×Int):=if n<0 then none else (tM m)[n.toNat]?
def pV (m n:Int):Int:=match jm m n with|some p=>p.1|none=>0
abbrev uW:=Int×Int
def jr (s:uW) (n:Int):uW:=match jm s.1 n with
 |none=>s
 |some p=>if p.2=0 then s else if p.2=1 then (1,0) else if p.2=3 then (2,min (max s.2 0) 16383+1) else if p.2=4/\1<s.2 then (s.1,s.2-1) else (0,0)
def Ee:By:=[32,105,102,32,101,108,115,101,32,108,101,116,32,105,110,32,102,117,110,32,116,114,117,101,32,102,97,108,115,101,32,97,110,100,32,111,114,32,110,111,116,32]
def qP (s:By):Bool:=decide (s≠[]) && (!Lib.contains s [32] && Lib.contains Ee (32::(s++[32])))
def bw (l:By):Nat:=(Lib.decodeN l.length (l.getD 0 0).toNat (l.getD 1 0).toNat (l.getD 2 0).toNat (l.getD 3 0).toNat).2
def iU (l:By) (m:Int):Nat:=if (gW m l).1=0 then bw l else (gW m l).1.toNat
def zP (l:By) (m:Int):Int:=if (gW m l).1=0 then 0 else if pV m (gW m l).2=3/\qP (l.take (gW m l).1.toNat)=true then 4 else pV m (gW m l).2
def pL (l:By) (st:uW):uW:=if (gW st.1 l).1=0 then st else jr st (gW st.1 l).2
abbrev Tk:=Int×Int×Int
def iJ:Nat->By->Nat->uW->List Tk×uW
 | 0,_,_,st=>([],st)
 |n+1,l,at_,st=>if l=[] then ([],st) else
  (((zP l st.1,(at_:Int),((at_+iU l st.1:Nat):Int)):Tk)::(iJ n (l.drop (iU l st.1)) (at_+iU l st.1) (pL l st)).1,(iJ n (l.drop (iU l st.1)) (at_+iU l st.1) (pL l st)).2)
def jw (s:By):List Tk×uW:=iJ s.length s 0 (0,0)
theorem oI (n b0 b1 b2 b3:Nat):1<=(Lib.decodeN n b0 b1 b2 b3).2:=by
 unfold Lib.decodeN
 repeat' split
 all_goals simp
theorem BB (n b0 b1 b2 b3:Nat) (hn:1<=n):(Lib.decodeN n b0 b1 b2 b3).2<=n:=by
 unfold Lib.decodeN
 repeat' split
 all_goals (simp only;omega)
theorem dm {l:By}(h:l≠[]):1<=bw l/\bw l<=l.length:=⟨oI _ _ _ _ _,BB _ _ _ _ _ (List.length_pos_iff.2 h)⟩
theorem JR:Made AU wY 53:=fX K4
theorem pO:Made AT wX 10:=fX Gj
theorem JQ:Made AS wW 11:=fX K3
theorem zE (m:Int) (l:By):0<=(gW m l).1/\(gW m l).1<=l.length:=by
 have key:∀{rules:List By}{ss:List bR}{st:Nat},Made rules ss st->0<=(dM ss st l).1/\(dM ss st l).1<=l.length:=fun k=>by
  rcases zu k l with ⟨e,_⟩|⟨n,r,e,hn,_⟩
  · rw[e];simp
  · rw[e];simp only;omega
 unfold gW;split
 · exact key JR
 · split
   · exact key pO
   · split
     · exact key JQ
     · simp
theorem pS {l:By}(h:l≠[]) (m:Int):1<=iU l m/\iU l m<=l.length:=by
 have h1:=zE m l;have h2:=dm h;unfold iU;split
 · exact h2
 · omega
theorem qL:∀(n k:Nat) (l:By) (a:Nat) (st:uW),l.length<=n->l.length<=k->iJ n l a st=iJ k l a st
 | 0,0,_,_,_,_,_=>rfl
 | 0,k+1,l,a,st,h,_=>by
  have:l=[]:=List.length_eq_zero_iff.1 (by omega);rw[iJ,iJ,if_pos this]
 |n+1,0,l,a,st,_,h=>by
  have:l=[]:=List.length_eq_zero_iff.1 (by omega);rw[iJ,iJ,if_pos this]
 |n+1,k+1,l,a,st,h1,h2=>by
  rw[iJ,iJ]
  by_cases hl:l=[]
  · rw[if_pos hl,if_pos hl]
  · have:=pS hl st.1;rw[if_neg hl,if_neg hl,qL n k _ _ _ (by rw[List.length_drop];omega) (by rw[List.length_drop];omega)]
theorem rG {d:cg}:∀(l x:By) (s k:Nat) (b:Int×Int),(bz d l s k b).2.2<((k+l.length:Nat):Int)->bz d (l++x) s k b=bz d l s k b
 | [],x,s,k,b,h=>by
  exfalso;rw[bz] at h;split at h
  · simp only[List.length_nil,Nat.add_zero] at h;omega
  · simp only[List.length_nil,Nat.add_zero] at h;omega
 |c::l,x,s,k,b,h=>by
  rw[List.cons_append,bz,bz];rw[bz] at h;split
  · rename_i hp;rw[if_pos hp] at h;exact rG l x _ _ _ (by rw[List.length_cons] at h;rw[show k+1+l.length=k+(l.length+1) by omega];exact h)
  · rfl
theorem qx {rules:List By}{ss:List bR}{st:Nat}(hm:eU rules= .inr (ss,st)){H:List (List Nat×Nat)}{tab reps:List UInt8}(hr:iW ss tab reps=true) (ha:oO ss H reps=true) (hs:xQ H (cG ss st)=some 0/\cG ss st≠[]/\¬0<=bJ ss (cG ss st)) (hH:H.length<=2000) :
 ∃d,gf ss st= .inr d/\(∀l,(bz d l 0 0 (0,-1)).2.2<=(dM ss st l).1+2)/\∀l x:By,(dM ss st l).1+2<l.length->dM ss st (l++x)=dM ss st l:=by
 have hM:=fX hm;have hmem:=tR hs.1;obtain⟨d,hd⟩:=Ae (FA hr ha) (by simpa using hH) (fun e=>hs.2.1 (List.length_eq_zero_iff.1 e)) (List.mem_map.2 ⟨_,hmem,rfl⟩);obtain⟨_,L,h1,h2,_⟩:=iV hd;have hst:=hM.stl;have hmt:=fun l=>qc hd (by omega) l
 have h2s:∀l,(bz d l 0 0 (0,-1)).2.2<=(bz d l 0 0 (0,-1)).1+2:=fun l=>vH h1 h2 hr ha l 0 0 (0,-1) _ 0 h1.first hmem (by rw[if_neg hs.2.2];simp)
 have hmt1:∀l,(bz d l 0 0 (0,-1)).1=(dM ss st l).1:=fun l=>by have:=hmt l;rw[<-this]
 refine⟨d,hd,fun l=>by rw[<-hmt1];exact h2s l,fun l x hlt=>?_⟩;have:=h2s l;rw[hmt1] at this;rw[<-hmt (l++x),<-hmt l,rG l x 0 0 (0,-1) (by rw[Nat.zero_add];omega)]
theorem xP:Ip.length<=2000/\K5.length<=2000/\Gw.length<=2000:=by decide
end Go.Proofs.YtiigijehmmcfgaaGreatDoor

/- What the proof of the statement leans on (part 22). -/
import Derived.Lib.DecodeN
import Derived.Lib.IndexMore
import Derived.Test.YtedocgkapmeceaaGreatDoorQu

namespace Go.Proofs.YtedocgkapmeceaaGreatDoor
open Go
def gO (m:Int) (l:By):Int×Int:=if m=0 then dR ye 53 l else if m=1 then dR yd 10 l else if m=2 then dR yb 11 l else (0,-1)
def uL (m:Int):List (Int×Int):=if m=0 then [(1,0),(2,0),(3,0),(5,0),(11,0),(11,3),(9,1),(7,0),(8,0),(6,0)] else if m=1 then [(9,0),(10,0),(9,2),(9,0)] else if m=2 then [(11,3),(11,4),(11,0),(11,0)] else []
def jh (m n:Int):Option (Int×Int):=if n<0 then none else (uL m)[n.toNat]?
def qg (m n:Int):Int:=match jh m n with|some p=>p.1|none=>0
abbrev vV:=Int×Int
def jm (s:vV) (n:Int):vV:=match jh s.1 n with
 |none=>s
 |some p=>if p.2=0 then s else if p.2=1 then (1,0) else if p.2=3 then (2,min (max s.2 0) 16383+1) else if p.2=4∧1<s.2 then (s.1,s.2-1) else (0,0)
def jK:By:=[32,105,102,32,101,108,115,101,32,108,101,116,32,105,110,32,102,117,110,32,116,114,117,101,32,102,97,108,115,101,32,97,110,100,32,111,114,32,110,111,116,32]
def bX (s:By):Bool:=decide (s≠[]) && (!Lib.contains s [32] && Lib.contains jK (32::(s++[32])))
def pS (l:By):Nat:=(Lib.decodeN l.length (l.getD 0 0).toNat (l.getD 1 0).toNat (l.getD 2 0).toNat (l.getD 3 0).toNat).2
def iL (l:By) (m:Int):Nat:=if (gO m l).1=0 then pS l else (gO m l).1.toNat
def AV (l:By) (m:Int):Int:=if (gO m l).1=0 then 0 else if qg m (gO m l).2=3∧bX (l.take (gO m l).1.toNat)=true then 4 else qg m (gO m l).2
def pY (l:By) (st:vV):vV:=if (gO st.1 l).1=0 then st else jm st (gO st.1 l).2
abbrev Tk:=Int×Int×Int
def jw:Nat→By→Nat→vV→List Tk×vV
 | 0,_,_,st=>([],st)
 |n+1,l,at_,st=>if l=[] then ([],st) else
  (((AV l st.1,(at_:Int),((at_+iL l st.1:Nat):Int)):Tk)::(jw n (l.drop (iL l st.1)) (at_+iL l st.1) (pY l st)).1,(jw n (l.drop (iL l st.1)) (at_+iL l st.1) (pY l st)).2)
def lN (s:By):List Tk×vV:=jw s.length s 0 (0,0)
theorem Cn (n b0 b1 b2 b3:Nat):1≤(Lib.decodeN n b0 b1 b2 b3).2:=by
 unfold Lib.decodeN
 repeat' split
 all_goals simp
theorem Cm (n b0 b1 b2 b3:Nat) (hn:1≤n):(Lib.decodeN n b0 b1 b2 b3).2≤n:=by
 unfold Lib.decodeN
 repeat' split
 all_goals (simp only;omega)
theorem Ag {l:By}(h:l≠[]):1≤pS l∧pS l≤l.length:=⟨Cn _ _ _ _ _,Cm _ _ _ _ _ (List.length_pos_iff.2 h)⟩
theorem KA:Made BU ye 53:=fY L7
theorem n8:Made BT yd 10:=fY Hi
theorem Kz:Made BS yb 11:=fY L6
theorem AP (m:Int) (l:By):0≤(gO m l).1∧(gO m l).1≤l.length:=by
 have key:∀{rules:List By}{ss:List b6}{st:Nat},Made rules ss st→0≤(dR ss st l).1∧(dR ss st l).1≤l.length:=fun k=>by
  rcases AI k l with ⟨e,_⟩|⟨n,r,e,hn,_⟩
  · rw[e];simp
  · rw[e];simp only;omega
 unfold gO;split
 · exact key KA
 · split
   · exact key n8
   · split
     · exact key Kz
     · simp
theorem qe {l:By}(h:l≠[]) (m:Int):1≤iL l m∧iL l m≤l.length:=by
 have h1:=AP m l;have h2:=Ag h;unfold iL;split
 · exact h2
 · omega
theorem rK:∀(n k:Nat) (l:By) (a:Nat) (st:vV),l.length≤n→l.length≤k→jw n l a st=jw k l a st
 | 0,0,_,_,_,_,_=>rfl
 | 0,k+1,l,a,st,h,_=>by
  have:l=[]:=List.length_eq_zero_iff.1 (by omega);rw[jw,jw,if_pos this]
 |n+1,0,l,a,st,_,h=>by
  have:l=[]:=List.length_eq_zero_iff.1 (by omega);rw[jw,jw,if_pos this]
 |n+1,k+1,l,a,st,h1,h2=>by
  rw[jw,jw]
  by_cases hl:l=[]
  · rw[if_pos hl,if_pos hl]
  · have:=qe hl st.1;rw[if_neg hl,if_neg hl,rK n k _ _ _ (by rw[List.length_drop];omega) (by rw[List.length_drop];omega)]
theorem sv {d:ct}:∀(l x:By) (s k:Nat) (b:Int×Int),(bC d l s k b).2.2<((k+l.length:Nat):Int)→bC d (l++x) s k b=bC d l s k b
 | [],x,s,k,b,h=>by
  exfalso;rw[bC] at h;split at h
  · simp only[List.length_nil,Nat.add_zero] at h;omega
  · simp only[List.length_nil,Nat.add_zero] at h;omega
 |c::l,x,s,k,b,h=>by
  rw[List.cons_append,bC,bC];rw[bC] at h;split
  · rename_i hp;rw[if_pos hp] at h;exact sv l x _ _ _ (by rw[List.length_cons] at h;rw[show k+1+l.length=k+(l.length+1) by omega];exact h)
  · rfl
theorem qY {rules:List By}{ss:List b6}{st:Nat}(hm:fj rules= .inr (ss,st)){H:List (List Nat×Nat)}{tab reps:List UInt8}(hr:iO ss tab reps=true) (ha:oZ ss H reps=true) (hs:yO H (cH ss st)=some 0∧cH ss st≠[]∧¬0≤bK ss (cH ss st)) (hH:H.length≤2000) :
 ∃d,gj ss st= .inr d∧(∀l,(bC d l 0 0 (0,-1)).2.2≤(dR ss st l).1+2)∧∀l x:By,(dR ss st l).1+2<l.length→dR ss st (l++x)=dR ss st l:=by
 have hM:=fY hm;have hmem:=uQ hs.1;obtain⟨d,hd⟩:=A8 (Gp hr ha) (by simpa using hH) (fun e=>hs.2.1 (List.length_eq_zero_iff.1 e)) (List.mem_map.2 ⟨_,hmem,rfl⟩);obtain⟨_,L,h1,h2,_⟩:=iM hd;have hst:=hM.stl;have hmt:=fun l=>qA hd (by omega) l
 have h2s:∀l,(bC d l 0 0 (0,-1)).2.2≤(bC d l 0 0 (0,-1)).1+2:=fun l=>wL h1 h2 hr ha l 0 0 (0,-1) _ 0 h1.first hmem (by rw[if_neg hs.2.2];simp)
 have hmt1:∀l,(bC d l 0 0 (0,-1)).1=(dR ss st l).1:=fun l=>by have:=hmt l;rw[←this]
 refine⟨d,hd,fun l=>by rw[←hmt1];exact h2s l,fun l x hlt=>?_⟩;have:=h2s l;rw[hmt1] at this;rw[←hmt (l++x),←hmt l,sv l x 0 0 (0,-1) (by rw[Nat.zero_add];omega)]
theorem yN:Jx.length≤2000∧IA.length≤2000∧uR.length≤2000:=by decide
end Go.Proofs.YtedocgkapmeceaaGreatDoor

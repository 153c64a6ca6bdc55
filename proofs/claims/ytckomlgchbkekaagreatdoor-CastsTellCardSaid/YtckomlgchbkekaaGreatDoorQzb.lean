/- What the proof of the statement leans on (part 28). -/
import Derived.Lib.SpaceU
import Derived.Test.YtckomlgchbkekaaGreatDoorQza

namespace Go.Proofs.YtckomlgchbkekaaGreatDoor
open Go
def ij (l:By):Nat:=(Lib.decodeN l.length (l.getD 0 0).toNat (l.getD 1 0).toNat (l.getD 2 0).toNat (l.getD 3 0).toNat).1
def cj:Nat->By->Nat->List Nat
 | 0,_,_=>[]
 |n+1,l,a=>if l=[] then [] else a::cj n (l.drop (cA l)) (a+cA l)
def dU (s:By):List Nat:=cj s.length s 0
def A4 (s:By) (a:Int):Nat:=if (s.length:Int)<=a then s.length else (dU s).foldl (fun(o k:Nat)=>if (k:Int)<=a then k else o) 0
def Of (s:By) (a:Nat):Prop:=a∈dU s\/a=s.length
theorem vM {l:By}{n:Nat}(h:cA l=n) (i:Nat) (h1:1<=i) (h2:i<n):(l.getD i 0).toNat / 64=2:=by
 unfold cA Lib.decodeN at h;have q:i=1\/i=2\/i=3\/4<=i:=by omega
 repeat' split at h
 all_goals first
  |(exfalso;simp only at h;omega)
  |(simp only at h;rename_i c _;rcases q with rfl|rfl|rfl|q<;>first|exact c.2.2|exact c.2.1.2|exact c.2.2.2|exact c.2.2.1.2|exact c.2.2.2.2|(exfalso;omega))
theorem lA:∀(n:Nat) (l:By) (a c:Nat),c∈cj n l a->a<=c/\c<a+l.length
 | 0,_,_,_,h=>by simp[cj] at h
 |n+1,l,a,c,h=>by
  rw[cj] at h;split at h
  · simp at h
  · rename_i hl;have hp:=List.length_pos_iff.2 hl;have hr:=lD hl
    rcases List.mem_cons.1 h with rfl|h
    · omega
    · have:=lA n _ _ c h;rw[List.length_drop] at this;omega
theorem B7 {s:By}{c:Nat}(h:c∈dU s):c<s.length:=by have:=lA _ _ _ _ h;omega
theorem mE:∀(n:Nat) (l:By) (a c:Nat),l.length<=n->a<=c->c<a+l.length->¬(l.getD (c-a) 0).toNat / 64=2->c∈cj n l a
 | 0,l,a,c,hn,h1,h2,_=>by omega
 |n+1,l,a,c,hn,h1,h2,h=>by
  have hl:l≠[]:=by rintro rfl;simp only[List.length_nil] at h2;omega
  have hr:=lD hl;have hd:(l.drop (cA l)).length=l.length-cA l:=List.length_drop;rw[cj,if_neg hl]
  by_cases e:c=a
  · rw[e];exact List.mem_cons_self
  · refine List.mem_cons_of_mem _ (mE n _ _ c (by omega) ?_ (by omega) ?_)
    · rcases Nat.lt_or_ge c (a+cA l) with q|q
      · exact absurd (vM rfl (c-a) (by omega) (by omega)) h
      · exact q
    · have q:a+cA l<=c:=by
       rcases Nat.lt_or_ge c (a+cA l) with q|q
       · exact absurd (vM rfl (c-a) (by omega) (by omega)) h
       · exact q
      rw[List.getD_eq_getElem?_getD,List.getElem?_drop,show cA l+(c-(a+cA l))=c-a by omega,<-List.getD_eq_getElem?_getD];exact h
theorem w8 {s:By}{c:Nat}(hc:c<s.length) (h:¬(s.getD c 0).toNat / 64=2):c∈dU s :=
 mE s.length s 0 c (Nat.le_refl _) (Nat.zero_le _) (by omega) (by rw[Nat.sub_zero];exact h)
theorem mj (s:By) (q i:Nat):(s.drop q).getD i 0=s.getD (q+i) 0:=by rw[List.getD_eq_getElem?_getD,List.getD_eq_getElem?_getD,List.getElem?_drop]
end Go.Proofs.YtckomlgchbkekaaGreatDoor

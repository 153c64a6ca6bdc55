/- What the proof of the statement leans on (part 27). -/
import Derived.Lib.SpaceU
import Derived.Test.YtdihgdeciopfpaaGreatDoorQz

namespace Go.Proofs.YtdihgdeciopfpaaGreatDoor
open Go
section
variable {s:By}
def Bm (l:By):Nat:=(Lib.decodeN l.length (l.getD 0 0).toNat (l.getD 1 0).toNat (l.getD 2 0).toNat (l.getD 3 0).toNat).1
def Na (r:Nat):Int:=if r=32\/r=9\/r=10\/r=13 then 0 else if (48<=r/\r<=57)\/(65<=r/\r<=90)\/(97<=r/\r<=122)\/r=95\/128<=r then 1 else 2
def cD:Nat->By->Nat->List Nat
 | 0,_,_=>[]
 |n+1,l,a=>if l=[] then [] else a::cD n (l.drop (cU l)) (a+cU l)
def cR (s:By):List Nat:=cD s.length s 0
def uj (s:By) (a:Int):Nat:=if (s.length:Int)<=a then s.length else (cR s).foldl (fun(o k:Nat)=>if (k:Int)<=a then k else o) 0
def FY (s:By) (a:Nat):Nat:=if a=0\/s.length<a then a else a-(Lib.decodeLastL (s.take a)).2
def Bq (s:By) (a:Nat):Nat:=if s.length<=a then a else a+cU (s.drop a)
def C5 (s:By) (a:Nat):Int:=if s.length<=a then -1 else Na (Bm (s.drop a))
def Cs (s:By) (a:Nat):Int:=if a=0\/s.length<a then -1 else Na (Lib.decodeLastL (s.take a)).1
def IU (s:By) (a:Nat):Prop:=a∈cR s\/a=s.length
theorem uS {l:By}{n:Nat}(h:cU l=n) (i:Nat) (h1:1<=i) (h2:i<n):(l.getD i 0).toNat / 64=2:=by
 unfold cU Lib.decodeN at h;have q:i=1\/i=2\/i=3\/4<=i:=by omega
 repeat' split at h
 all_goals first
  |(exfalso;simp only at h;omega)
  |(simp only at h;rename_i c _;rcases q with rfl|rfl|rfl|q<;>first|exact c.2.2|exact c.2.1.2|exact c.2.2.2|exact c.2.2.1.2|exact c.2.2.2.2|(exfalso;omega))
theorem kK:∀(n:Nat) (l:By) (a c:Nat),c∈cD n l a->a<=c/\c<a+l.length
 | 0,_,_,_,h=>by simp[cD] at h
 |n+1,l,a,c,h=>by
  rw[cD] at h;split at h
  · simp at h
  · rename_i hl;have hp:=List.length_pos_iff.2 hl;have hr:=fu hl
    rcases List.mem_cons.1 h with rfl|h
    · omega
    · have:=kK n _ _ c h;rw[List.length_drop] at this;omega
theorem qU {c:Nat}(h:c∈cR s):c<s.length:=by have:=kK _ _ _ _ h;omega
theorem lY:∀(n:Nat) (l:By) (a c:Nat),l.length<=n->a<=c->c<a+l.length->¬(l.getD (c-a) 0).toNat / 64=2->c∈cD n l a
 | 0,l,a,c,hn,h1,h2,_=>by omega
 |n+1,l,a,c,hn,h1,h2,h=>by
  have hl:l≠[]:=by rintro rfl;simp only[List.length_nil] at h2;omega
  have hr:=fu hl;have hd:(l.drop (cU l)).length=l.length-cU l:=List.length_drop;rw[cD,if_neg hl]
  by_cases e:c=a
  · rw[e];exact List.mem_cons_self
  · refine List.mem_cons_of_mem _ (lY n _ _ c (by omega) ?_ (by omega) ?_)
    · rcases Nat.lt_or_ge c (a+cU l) with q|q
      · exact absurd (uS rfl (c-a) (by omega) (by omega)) h
      · exact q
    · have q:a+cU l<=c:=by
       rcases Nat.lt_or_ge c (a+cU l) with q|q
       · exact absurd (uS rfl (c-a) (by omega) (by omega)) h
       · exact q
      rw[List.getD_eq_getElem?_getD,List.getElem?_drop,show cU l+(c-(a+cU l))=c-a by omega,<-List.getD_eq_getElem?_getD];exact h
theorem we {c:Nat}(hc:c<s.length) (h:¬(s.getD c 0).toNat / 64=2):c∈cR s :=
 lY s.length s 0 c (Nat.le_refl _) (Nat.zero_le _) (by omega) (by rw[Nat.sub_zero];exact h)
theorem lN (s:By) (q i:Nat):(s.drop q).getD i 0=s.getD (q+i) 0:=by rw[List.getD_eq_getElem?_getD,List.getD_eq_getElem?_getD,List.getElem?_drop]
def Fm:By->Nat->Nat->Nat
 | [],_,o=>o
 |c::l,k,o=>Fm l (k+1) (if c=10 then k+1 else o)
def jx (s:By) (a:Nat):Nat:=Fm (s.take a) 0 0
def BX (s:By) (a:Nat):Nat:=a+((s.drop a).takeWhile (fun c=>decide (c≠10))).length
def om (s:By) (a:Nat):Nat:=((cR s).takeWhile (fun k=>decide (k<a))).length
def FA (s:By) (n:Int):Nat:=if n<1 then 0 else (cR s).getD n.toNat s.length
def Bz (c:Int) (d:Int):Bool:=decide (d=c) && decide (0<d)
def I9 (so:Int->Bool) (s:By):Nat->Nat->Nat
 | 0,a=>a
 |n+1,a=>if 0<=C5 s a/\so (C5 s a)=true then I9 so s n (Bq s a) else a
def qX (so:Int->Bool) (s:By) (a:Nat):Nat:=I9 so s (s.length-a) a
def J6 (so:Int->Bool) (s:By):Nat->Nat->Nat
 | 0,a=>a
 |n+1,a=>if 0<=Cs s a/\so (Cs s a)=true then J6 so s n (FY s a) else a
def Dl (so:Int->Bool) (s:By) (a:Nat):Nat:=J6 so s a a
def JG (s:By) (a:Nat) (up:Bool):Nat :=
 if up=true then (if jx s a=0 then a else let t:=jx s (jx s a-1);min (FA s ((om s t:Int)+((om s a:Int)-(om s (jx s a):Nat)))) (BX s t))
 else (if s.length<BX s a+1 then a else let t:=jx s (BX s a+1);min (FA s ((om s t:Int)+((om s a:Int)-(om s (jx s a):Nat)))) (BX s t))
def xO (c:Int):Bool:=decide (c=0)
def Lm (c:Int):Bool:=decide (c=1)
def J5 (c:Int):Bool:=decide (c≠1)
def Lr (s:By) (a:Nat):Nat :=
 let b:=qX xO s (Bq s a)
 let t:=qX (Bz (C5 s b)) s b
 if b<t then FY s t else b
def Jf (s:By) (a:Nat) (w:Int):Nat :=
 if w=0 then FY s a else if w=1 then Bq s a else if w=2 then jx s a else if w=3 then BX s a
 else if w=4 then JG s a true else if w=5 then JG s a false
 else if w=6 then qX Lm s (qX J5 s a) else if w=7 then Dl Lm s (Dl J5 s a)
 else if w=8 then qX xO s (qX (Bz (C5 s a)) s a)
 else if w=9 then (let b:=Dl xO s a;Dl (Bz (Cs s b)) s b)
 else if w=10 then Lr s a
 else if w=11 then min (qX xO s (jx s a)) (BX s a)
 else if w=12 then 0 else if w=13 then s.length else a
def OR (s:By) (w:Int):Nat->Nat->Nat
 | 0,a=>a
 |n+1,a=>if Jf s a w=a then a else OR s w n (Jf s a w)
def OX (s:By) (a:Int) (w n:Int):Nat:=OR s w (min (max n 0) 1000).toNat (uj s a)
theorem LF {a:Nat}(h:IU s a):a<=s.length:=by
 rcases h with h|h
 · have:=qU h;omega
 · omega
end
end Go.Proofs.YtdihgdeciopfpaaGreatDoor

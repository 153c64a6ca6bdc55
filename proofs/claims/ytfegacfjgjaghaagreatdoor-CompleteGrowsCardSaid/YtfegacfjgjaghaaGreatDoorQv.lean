/- What the proof of the statement leans on (part 22). -/
import Derived.Lib.DecodeN
import Derived.Lib.IndexMore
import Derived.Test.YtfegacfjgjaghaaGreatDoorQu

namespace Go.Proofs.YtfegacfjgjaghaaGreatDoor
open Go
section
variable {l:By}
def lexM (m:Int) (l:By):Int×Int:=if m=0 then matchP ste0 53 l else if m=1 then matchP ste1 10 l else if m=2 then matchP ste2 11 l else (0,-1)
def kindT (m:Int):List (Int×Int):=if m=0 then [(1,0),(2,0),(3,0),(5,0),(11,0),(11,3),(9,1),(7,0),(8,0),(6,0)] else if m=1 then [(9,0),(10,0),(9,2),(9,0)] else if m=2 then [(11,3),(11,4),(11,0),(11,0)] else []
def findT (m n:Int):Option (Int×Int):=if n<0 then none else (kindT m)[n.toNat]?
def kindP (m n:Int):Int:=match findT m n with|some p=>p.1|none=>0
abbrev LSt:=Int×Int
def afterP (s:LSt) (n:Int):LSt:=match findT s.1 n with
 |none=>s
 |some p=>if p.2=0 then s else if p.2=1 then (1,0) else if p.2=3 then (2,min (max s.2 0) 16383+1) else if p.2=4∧1<s.2 then (s.1,s.2-1) else (0,0)
def wordsB:By:=[32,105,102,32,101,108,115,101,32,108,101,116,32,105,110,32,102,117,110,32,116,114,117,101,32,102,97,108,115,101,32,97,110,100,32,111,114,32,110,111,116,32]
def wordP (s:By):Bool:=decide (s≠[]) && (!Lib.contains s [32] && Lib.contains wordsB (32::(s++[32])))
def runeN (l:By):Nat:=(Lib.decodeN l.length (l.getD 0 0).toNat (l.getD 1 0).toNat (l.getD 2 0).toNat (l.getD 3 0).toNat).2
def lenP (l:By) (m:Int):Nat:=if (lexM m l).1=0 then runeN l else (lexM m l).1.toNat
def kndP (l:By) (m:Int):Int:=if (lexM m l).1=0 then 0 else if kindP m (lexM m l).2=3∧wordP (l.take (lexM m l).1.toNat)=true then 4 else kindP m (lexM m l).2
def nxtP (l:By) (st:LSt):LSt:=if (lexM st.1 l).1=0 then st else afterP st (lexM st.1 l).2
abbrev Tk:=Int×Int×Int
def allG:Nat→By→Nat→LSt→List Tk×LSt
 | 0,_,_,st=>([],st)
 |n+1,l,at_,st=>if l=[] then ([],st) else
  (((kndP l st.1,(at_:Int),((at_+lenP l st.1:Nat):Int)):Tk)::(allG n (l.drop (lenP l st.1)) (at_+lenP l st.1) (nxtP l st)).1,(allG n (l.drop (lenP l st.1)) (at_+lenP l st.1) (nxtP l st)).2)
def allP (s:By):List Tk×LSt:=allG s.length s 0 (0,0)
theorem decodeN_ge (n b0 b1 b2 b3:Nat):1≤(Lib.decodeN n b0 b1 b2 b3).2:=by
 unfold Lib.decodeN
 repeat' split
 all_goals simp
theorem decodeN_le (n b0 b1 b2 b3:Nat) (hn:1≤n):(Lib.decodeN n b0 b1 b2 b3).2≤n:=by
 unfold Lib.decodeN
 repeat' split
 all_goals (simp only;omega)
theorem rune_len (h:l≠[]):1≤runeN l∧runeN l≤l.length:=⟨decodeN_ge _ _ _ _ _,decodeN_le _ _ _ _ _ (List.length_pos_iff.2 h)⟩
theorem made0:Made rules0 ste0 53:=makeP_made mk0
theorem made1:Made rules1 ste1 10:=makeP_made mk1
theorem made2:Made rules2 ste2 11:=makeP_made mk2
theorem lexM_len (m:Int) (l:By):0≤(lexM m l).1∧(lexM m l).1≤l.length:=by
 have key:∀{rules:List By}{ss:List Ste}{st:Nat},Made rules ss st→0≤(matchP ss st l).1∧(matchP ss st l).1≤l.length:=fun k=>by
  rcases matchP_spec k l with ⟨e,_⟩|⟨n,r,e,hn,_⟩
  · rw[e];simp
  · rw[e];simp only;omega
 unfold lexM;split
 · exact key made0
 · split
   · exact key made1
   · split
     · exact key made2
     · simp
theorem lenP_len (h:l≠[]) (m:Int):1≤lenP l m∧lenP l m≤l.length:=by
 have h1:=lexM_len m l;have h2:=rune_len h;unfold lenP;split
 · exact h2
 · omega
theorem allG_more:∀(n k:Nat) (l:By) (a:Nat) (st:LSt),l.length≤n→l.length≤k→allG n l a st=allG k l a st
 | 0,0,_,_,_,_,_=>rfl
 | 0,k+1,l,a,st,h,_=>by
  have:l=[]:=List.length_eq_zero_iff.1 (by omega);rw[allG,allG,if_pos this]
 |n+1,0,l,a,st,_,h=>by
  have:l=[]:=List.length_eq_zero_iff.1 (by omega);rw[allG,allG,if_pos this]
 |n+1,k+1,l,a,st,h1,h2=>by
  rw[allG,allG]
  by_cases hl:l=[]
  · rw[if_pos hl,if_pos hl]
  · have:=lenP_len hl st.1;rw[if_neg hl,if_neg hl,allG_more n k _ _ _ (by rw[List.length_drop];omega) (by rw[List.length_drop];omega)]
theorem dmatch_more {d:Tab}:∀(l x:By) (s k:Nat) (b:Int×Int),(dmatchG d l s k b).2.2<((k+l.length:Nat):Int)→dmatchG d (l++x) s k b=dmatchG d l s k b
 | [],x,s,k,b,h=>by
  exfalso;rw[dmatchG] at h;split at h
  · simp only[List.length_nil,Nat.add_zero] at h;omega
  · simp only[List.length_nil,Nat.add_zero] at h;omega
 |c::l,x,s,k,b,h=>by
  rw[List.cons_append,dmatchG,dmatchG];rw[dmatchG] at h;split
  · rename_i hp;rw[if_pos hp] at h;exact dmatch_more l x _ _ _ (by rw[List.length_cons] at h;rw[show k+1+l.length=k+(l.length+1) by omega];exact h)
  · rfl
theorem mode_more {rules:List By}{ss:List Ste}{st:Nat}(hm:makeP rules= .inr (ss,st)){H:List (List Nat×Nat)}{tab reps:List UInt8}(hr:chkReps ss tab reps=true) (ha:chkAll ss H reps=true) (hs:htOf H (startP ss st)=some 0∧startP ss st≠[]∧¬0≤acceptsP ss (startP ss st)) (hH:H.length≤2000) :
 ∃d,dmakeP ss st= .inr d∧(∀l,(dmatchG d l 0 0 (0,-1)).2.2≤(matchP ss st l).1+2)∧∀l x:By,(matchP ss st l).1+2<l.length→matchP ss st (l++x)=matchP ss st l:=by
 have hM:=makeP_made hm;have hmem:=htOf_mem hs.1;obtain⟨d,hd⟩:=dmakeP_some (chk_shut hr ha) (by simpa using hH) (fun e=>hs.2.1 (List.length_eq_zero_iff.1 e)) (List.mem_map.2 ⟨_,hmem,rfl⟩);obtain⟨_,L,h1,h2,_⟩:=dmakeP_lists hd;have hst:=hM.stl;have hmt:=fun l=>dmakeP_match hd (by omega) l
 have h2s:∀l,(dmatchG d l 0 0 (0,-1)).2.2≤(dmatchG d l 0 0 (0,-1)).1+2:=fun l=>steps_two h1 h2 hr ha l 0 0 (0,-1) _ 0 h1.first hmem (by rw[if_neg hs.2.2];simp)
 have hmt1:∀l,(dmatchG d l 0 0 (0,-1)).1=(matchP ss st l).1:=fun l=>by have:=hmt l;rw[←this]
 refine⟨d,hd,fun l=>by rw[←hmt1];exact h2s l,fun l x hlt=>?_⟩;have:=h2s l;rw[hmt1] at this;rw[←hmt (l++x),←hmt l,dmatch_more l x 0 0 (0,-1) (by rw[Nat.zero_add];omega)]
theorem ht_size:ht0.length≤2000∧ht1.length≤2000∧ht2.length≤2000:=by decide
theorem rune_more {x:By}(h:4≤l.length):runeN (l++x)=runeN l:=by
 have hg:∀i,i<4→(l++x).getD i 0=l.getD i 0:=fun i hi=>by rw[List.getD_eq_getElem?_getD,List.getD_eq_getElem?_getD,List.getElem?_append_left (by omega)]
 unfold runeN;rw[hg 0 (by decide),hg 1 (by decide),hg 2 (by decide),hg 3 (by decide),List.length_append]
 have key:∀n k b0 b1 b2 b3:Nat,4≤n→Lib.decodeN (n+k) b0 b1 b2 b3=Lib.decodeN n b0 b1 b2 b3:=fun n k b0 b1 b2 b3 hn=>by
  have e1:(1<n+k)=(1<n):=propext ⟨fun _=>by omega,fun _=>by omega⟩;have e2:(2<n+k)=(2<n):=propext ⟨fun _=>by omega,fun _=>by omega⟩;have e3:(3<n+k)=(3<n):=propext ⟨fun _=>by omega,fun _=>by omega⟩;simp only[Lib.decodeN,e1,e2,e3]
 rw[key _ _ _ _ _ _ h]
end
end Go.Proofs.YtfegacfjgjaghaaGreatDoor

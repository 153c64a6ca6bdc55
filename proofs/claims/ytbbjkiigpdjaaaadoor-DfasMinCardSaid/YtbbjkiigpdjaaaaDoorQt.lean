/- What the proof of the statement leans on (part 20). -/
import Derived.Lib.ItoaLen
import Derived.Test.YtbbjkiigpdjaaaaDoorQs

namespace Go.Proofs.YtbbjkiigpdjaaaaDoor
open Go
section
variable {s st k:Nat}{live:List Bool}{cls:List Int}{of o p:List Nat}{t:Int}{L:List (List Nat)}{ss:List aH}
def eG (l:List Int):By:=l.flatMap fun n=>Lib.itoa n++[32]
theorem oI (u:Nat):∀c∈Lib.decDigits u,48<=c.toNat/\c.toNat<=57:=by
  induction u using Nat.strongRecOn with
  |_ u ih =>
    intro c hc;rw[Lib.decDigits] at hc;split at hc
    · rename_i h;simp at hc;subst hc;simp;omega
    · rename_i h
      rcases List.mem_append.1 hc with k|k
      · exact ih (u / 10) (by omega) c k
      · simp at k;subst k;have:u%10<10:=Nat.mod_lt _ (by decide);simp;omega
def Bl (l:By):Nat:=l.foldl (fun a c=>a*10+(c.toNat-48)) 0
theorem qn (u:Nat):Bl (Lib.decDigits u)=u:=by
  induction u using Nat.strongRecOn with
  |_ u ih =>
    rw[Lib.decDigits];split
    · rename_i h;simp[Bl];omega
    · rename_i h;have h1:=ih (u / 10) (by omega);unfold Bl at h1 ⊢;rw[List.foldl_append,h1];have:u%10<10:=Nat.mod_lt _ (by decide);simp;omega
theorem rH (n:Int):∀c∈Lib.itoa n,c≠32:=by
  intro c hc e;subst e;unfold Lib.itoa at hc;split at hc
  · rcases List.mem_cons.1 hc with k|k
    · cases k
    · have:=(oI _ _ k).1;simp at this
  · have:=(oI _ _ hc).1;simp at this
theorem Ba {m n:Int}(h:Lib.itoa m=Lib.itoa n):m=n:=by
  have neg:∀a b:Nat,45::Lib.decDigits a≠Lib.decDigits b:=fun a b e=>by
    have:(45:UInt8)∈Lib.decDigits b:=by rw[<-e];exact List.mem_cons_self
    have:=(oI _ _ this).1;simp at this
  unfold Lib.itoa at h;split at h<;>split at h
  · have h:=congrArg Bl (List.cons.inj h).2;rw[qn,qn] at h;omega
  · exact absurd h (neg _ _)
  · exact absurd h.symm (neg _ _)
  · have h:=congrArg Bl h;rw[qn,qn] at h;omega
theorem pT:∀(a b r s:By),(∀c∈a,c≠32)->(∀c∈b,c≠32)->a++32::r=b++32::s->a=b/\r=s
  | [],[],r,s,_,_,h=>by simpa using h
  | [],d::b,r,s,_,hb,h=>by
    simp only[List.nil_append,List.cons_append,List.cons.injEq] at h;exact absurd h.1.symm (hb d List.mem_cons_self)
  |c::a,[],r,s,ha,_,h=>by
    simp only[List.nil_append,List.cons_append,List.cons.injEq] at h;exact absurd h.1 (ha c List.mem_cons_self)
  |c::a,d::b,r,s,ha,hb,h=>by
    simp only[List.cons_append,List.cons.injEq] at h;have:=pT a b r s (fun x hx=>ha x (List.mem_cons_of_mem _ hx)) (fun x hx=>hb x (List.mem_cons_of_mem _ hx)) h.2;exact⟨by rw[h.1,this.1],this.2⟩
theorem key_inj:∀{l m:List Int},eG l=eG m->l=m
  | [],[],_=>rfl
  | [],n::m,h=>by
    have:=congrArg List.length h;simp[eG] at this
  |n::l,[],h=>by
    have:=congrArg List.length h;simp[eG] at this
  |n::l,k::m,h=>by
    have h':Lib.itoa n++32::eG l=Lib.itoa k++32::eG m:=by simpa [eG] using h
    obtain⟨h1,h2⟩:=pT _ _ _ _ (rH n) (rH k) h';rw[Ba h1,key_inj h2]
theorem uK:∀(l:List Int),(∀n∈l,-9223372036854775808<=n/\n<=9223372036854775807)->(eG l).length<=22*l.length
  | [],_=>by simp[eG]
  |n::l,h=>by
    have h1:=uK l (fun x hx=>h x (List.mem_cons_of_mem _ hx));have hn:=h n List.mem_cons_self;have h2:=Lib.itoa_length_le n hn.1 hn.2;have e:eG (n::l)=Lib.itoa n++[32]++eG l:=rfl;have h3:(eG (n::l)).length=(Lib.itoa n).length+1+(eG l).length:=by rw[e,List.length_append,List.length_append];rfl
    rw[h3,List.length_cons];omega
theorem A8 (l:List Int) (n:Int):eG (l++[n])=eG l++Lib.itoa n++[32]:=by simp[eG]
structure Row where
  v:List Int
  len:v.length=256
structure aJ where
  next:List Row
  rule:List Int
def aJ.to (d:aJ) (s:Nat) (c:UInt8):Int:=match d.next[s]? with|some r=>r.v.getD c.toNat (-1)|none=> -1
def aJ.ru (d:aJ) (s:Nat):Int:=d.rule.getD s (-1)
structure aJ.Ok (d:aJ):Prop where
  len:d.rule.length=d.next.length
  size:d.next.length<=2000
  to:∀r∈d.next,∀x∈r.v,-1<=x/\x<d.next.length
  ru:∀x∈d.rule,-1<=x/\x<=1000000
theorem Row.at {r:Row}(c:UInt8):∃x,r.v[c.toNat]? =some x/\r.v.getD c.toNat (-1)=x/\x∈r.v:=by
  have h:=r.len;have hc:=c.toNat_lt;have hx:r.v[c.toNat]? =some (r.v[c.toNat]'(by omega)):=List.getElem?_eq_getElem (by omega);exact⟨_,hx,by rw[List.getD_eq_getElem?_getD,hx];rfl,List.getElem_mem _⟩
theorem aJ.jL {d:aJ}(k:d.Ok) (c:UInt8) : -1<=d.to s c/\d.to s c<d.next.length:=by
  unfold aJ.to;cases h:d.next[s]? with
  |none=>simp only;omega
  |some r =>
    obtain⟨x,hx,he,hm⟩:=r.at c;simp only;rw[he];exact k.to r (List.mem_of_getElem? h) x hm
def gD (d:aJ):By->Nat->Nat->Int×Int->Int×Int×Int
  | [],st,k,b=>if 0<=d.ru st then (k,d.ru st,k) else (b.1,b.2,k)
  |c::l,st,k,b =>
    if 0<=d.to st c then gD d l (d.to st c).toNat (k+1) (if 0<=d.ru st then (k,d.ru st) else b)
    else if 0<=d.ru st then (k,d.ru st,k) else (b.1,b.2,k)
def eR (d:aJ) (s:By) (a:Int):Int×Int×Int:=if d.next.length=0\/a<0\/(s.length:Int)<a then (0,-1,0) else gD d (s.drop a.toNat) 0 0 (0,-1)
def kK (d:aJ) (s:Int) (c:UInt8):Int:=if s<0\/(d.next.length:Int)<=s then -1 else d.to s.toNat c
def pO (d:aJ) (s:Int):Int:=if s<0\/(d.next.length:Int)<=s then -1 else d.ru s.toNat
def uL (l:List Nat):By:=eG (l.map Int.ofNat)
theorem A9 {l m:List Nat}(h:uL l=uL m):l=m:=by
  have:=key_inj h
  have hi:∀a b:List Nat,a.map Int.ofNat=b.map Int.ofNat->a=b:=by
    intro a
    induction a with
    |nil=>intro b h;cases b with
      |nil=>rfl
      |cons y b=>simp at h
    |cons x a ih=>intro b h;cases b with
      |nil=>simp at h
      |cons y b =>
        simp only[List.map_cons,List.cons.injEq] at h;rw[ih b h.2];have:=h.1;simp only[Int.ofNat_eq_natCast] at this;rw[show x=y by omega]
  exact hi _ _ this
def lX:Nat->List (List Nat)->List Nat->Option Nat
  |_,[],_=>none
  |i,x::r,l=>if l=x then some i else lX (i+1) r l
theorem mH:∀(ls:List (List Nat)) (i j:Nat) (l:List Nat),lX i ls l=some j->i<=j/\ls[j-i]? =some l
  | [],i,j,l,h=>by cases h
  |x::r,i,j,l,h=>by
    rw[lX] at h;split at h
    · rename_i e;cases h;subst e;exact⟨Nat.le_refl _,by simp⟩
    · have:=mH r (i+1) j l h;refine⟨by omega,?_⟩;rw[show j-i=(j-(i+1))+1 by omega,List.getElem?_cons_succ];exact this.2
theorem rQ:∀(ls:List (List Nat)) (i:Nat) (l:List Nat),lX i ls l=none->l∉ls
  | [],i,l,_=>List.not_mem_nil
  |x::r,i,l,h=>by
    rw[lX] at h;split at h
    · cases h
    · rename_i e;have:=rQ r (i+1) l h;simp only[List.mem_cons,not_or];exact⟨e,this⟩
def cv (ss:List aH) (cur:List Nat) (lists:List (List Nat)) (b:Nat):List (List Nat)×Int :=
  if (cH ss (UInt8.ofNat b) cur).length=0 then (lists,-1)
  else match lX 0 lists (cH ss (UInt8.ofNat b) cur) with
    |some i=>(lists,(i:Int))
    |none=>(lists++[cH ss (UInt8.ofNat b) cur],(lists.length:Int))
def iQ (ss:List aH) (cur:List Nat):Nat->Nat->List (List Nat)->List Int->List (List Nat)×List Int
  | 0,_,lists,row=>(lists,row)
  |n+1,b,lists,row=>iQ ss cur n (b+1) (cv ss cur lists b).1 (row++[(cv ss cur lists b).2])
def dO (l:List Int):Row:=⟨(l++List.replicate 256 (-1)).take 256,by rw[List.length_take,List.length_append,List.length_replicate];omega⟩
theorem js {l:List Int}(h:l.length=256):(dO l).v=l:=by
  unfold dO;simp only;rw[List.take_append_of_le_length (by omega),List.take_of_length_le (by omega)]
def iG (ss:List aH):Nat->Nat->List (List Nat)->List Row->List Int->Option aJ
  | 0,_,_,_,_=>none
  |n+1,k,lists,next,rule =>
    match lists[k]? with
    |none=>some ⟨next,rule⟩
    |some cur =>
      if 2000<(iQ ss cur 256 0 lists []).1.length then none
      else iG ss n (k+1) (iQ ss cur 256 0 lists []).1 (next++[dO (iQ ss cur 256 0 lists []).2]) (rule++[cm ss cur])
def eS (ss:List aH) (st:Nat):Int ⊕ aJ :=
  if (b9 ss st).length=0 then .inl 1
  else match iG ss 2002 0 [b9 ss st] [] [] with
    |none=>.inl 70
    |some d=>.inr d
def aJ.row (d:aJ) (k:Nat):List Int:=match d.next[k]? with|some r=>r.v|none=>[]
def eo (out:List Bool) (t:Int):Bool:=decide (0<=t) && out.getD t.toNat false
def ct (d:aJ) (out:List Bool) (k:Nat):Bool:=decide (0<=d.ru k) ||(d.row k).any (eo out)
def bD (d:aJ):Nat->Nat->List Bool->Bool->List Bool×Bool
  | 0,_,out,ag=>(out,ag)
  |n+1,k,out,ag=>if out.getD k false=true then bD d n (k+1) out ag else bD d n (k+1) (out.set k (ct d out k)) (ag ||ct d out k)
def dL (out:List Bool):Nat:=(out.filter fun b=> !b).length
def nE (d:aJ):Nat->List Bool->List Bool
  | 0,out=>out
  |n+1,out=>if (bD d d.next.length 0 out false).2=true then nE d n (bD d d.next.length 0 out false).1 else (bD d d.next.length 0 out false).1
def ax (d:aJ):List Bool:=nE d (d.next.length+1) (List.replicate d.next.length false)
theorem mK:∀(out:List Bool) (k:Nat) (b:Bool),out[k]? =some false->dL (out.set k b)+(if b then 1 else 0)=dL out
  | [],k,b,h=>by simp at h
  |x::r,0,b,h=>by simp at h;subst h;cases b<;>simp[dL]
  |x::r,k+1,b,h=>by
    have:=mK r k b (by simpa using h);unfold dL at this ⊢;rw[List.set_cons_succ];cases x<;>simp at this ⊢ <;>omega
theorem eN (d:aJ):∀(n k:Nat) (out:List Bool) (ag:Bool),(bD d n k out ag).1.length=out.length
  | 0,_,_,_=>rfl
  |n+1,k,out,ag=>by
    rw[bD];split
    · exact eN d n _ _ _
    · rw[eN d n];simp
theorem fI (d:aJ):∀(n k:Nat) (out:List Bool) (ag:Bool),k+n<=out.length->dL (bD d n k out ag).1<=dL out/\((bD d n k out ag).2=true->ag=true\/dL (bD d n k out ag).1<dL out)
  | 0,_,out,ag,_=>⟨Nat.le_refl _,fun h=>.inl h⟩
  |n+1,k,out,ag,hk=>by
    rw[bD];split
    · exact fI d n (k+1) out ag (by omega)
    · rename_i h
      have hf:out[k]? =some false:=by
        rw[List.getD_eq_getElem?_getD,List.getElem?_eq_getElem (by omega)] at h;rw[List.getElem?_eq_getElem (by omega)];simpa using h
      have h1:=mK out k (ct d out k) hf;have h2:=fI d n (k+1) (out.set k (ct d out k)) (ag ||ct d out k) (by simp;omega);refine⟨by omega,fun ht=>?_⟩
      rcases h2.2 ht with h3|h3
      · cases hb:ct d out k with
        |true=>rw[hb,if_pos rfl] at h1;right;rw[hb] at h2;omega
        |false=>rw[hb,Bool.or_false] at h3;exact .inl h3
      · right;omega
def iy:Nat->List (List Int)->List Int->Option Nat
  |_,[],_=>none
  |i,x::r,l=>if l=x then some i else iy (i+1) r l
theorem mI:∀(ls:List (List Int)) (i j:Nat) (l:List Int),iy i ls l=some j->i<=j/\ls[j-i]? =some l
  | [],i,j,l,h=>by cases h
  |x::r,i,j,l,h=>by
    rw[iy] at h;split at h
    · rename_i e;cases h;subst e;exact⟨Nat.le_refl _,by simp⟩
    · have:=mI r (i+1) j l h;refine⟨by omega,?_⟩;rw[show j-i=(j-(i+1))+1 by omega,List.getElem?_cons_succ];exact this.2
def bG (live:List Bool) (cls:List Int) (t:Int):Int:=if t<0\/live.getD t.toNat false=false then -2 else cls.getD t.toNat 0
def dz (d:aJ) (live:List Bool) (cls:List Int) (k:Nat):List Int:=cls.getD k 0::(d.row k).map (bG live cls)
def aK (d:aJ) (live:List Bool) (cls:List Int):Nat->Nat->List (List Int)->List Int->List (List Int)×List Int
  | 0,_,seen,after=>(seen,after)
  |n+1,k,seen,after =>
    match iy 0 seen (dz d live cls k) with
    |some i=>aK d live cls n (k+1) seen (after++[(i:Int)])
    |none=>aK d live cls n (k+1) (seen++[dz d live cls k]) (after++[(seen.length:Int)])
def iJ (d:aJ) (live:List Bool):Nat->Nat->List Int->List Int
  | 0,_,cls=>cls
  |n+1,many,cls =>
    if (aK d live cls d.next.length 0 [] []).1.length=many then (aK d live cls d.next.length 0 [] []).2
    else iJ d live n (aK d live cls d.next.length 0 [] []).1.length (aK d live cls d.next.length 0 [] []).2
def aN (d:aJ) (live:List Bool):List Int:=iJ d live (d.next.length+1) 0 d.rule
def ia (m:Nat) (l:List Int):Prop:=∀i,i<m->(i:Int)∈l
theorem mO:∀(m:Nat) (l:List Int),ia m l->m<=l.length
  | 0,_,_=>Nat.zero_le _
  |m+1,l,h=>by
    have hm:=h m (Nat.lt_succ_self m);have h1:ia m (l.erase (m:Int)):=fun i hi=>(List.mem_erase_of_ne (by omega)).2 (h i (by omega))
    have h2:=mO m _ h1;have h3:=List.length_erase_of_mem hm;have h4:0<l.length:=List.length_pos_of_mem hm;omega
structure yu (d:aJ) (live:List Bool) (cls:List Int) (k:Nat) (seen:List (List Int)) (after:List Int):Prop where
  len:after.length=k
  size:seen.length<=k
  nums:ia seen.length after
  bound:∀x∈after,0<=x/\x<seen.length
  all:∀j,j<k->dz d live cls j∈seen
theorem jD {d:aJ}{live:List Bool}{cls:List Int}:∀(n k:Nat) (seen:List (List Int)) (after:List Int),yu d live cls k seen after->yu d live cls (k+n) (aK d live cls n k seen after).1 (aK d live cls n k seen after).2
  | 0,k,seen,after,h=>h
  |n+1,k,seen,after,h=>by
    rw[aK,show k+(n+1)=(k+1)+n by omega];split
    · rename_i i hi;have hi':=mI seen 0 i _ hi;have hil:=(List.getElem?_eq_some_iff.1 hi'.2).1
      exact jD n (k+1) _ _ ⟨by simp[h.len],by have:=h.size;omega,fun j hj=>List.mem_append_left _ (h.nums j hj),fun x hx=>by
        rcases List.mem_append.1 hx with e|e
        · exact h.bound x e
        · have:x=(i:Int):=by simpa using e
          rw[this];omega,fun j hj=>by
        by_cases e:j=k
        · subst e;exact List.mem_of_getElem? hi'.2
        · exact h.all j (by omega)⟩
    · exact jD n (k+1) _ _ ⟨by simp[h.len],by have:=h.size;simp;omega,fun j hj=>by
        simp only[List.length_append,List.length_singleton] at hj
        by_cases e:j=seen.length
        · subst e;simp
        · exact List.mem_append_left _ (h.nums j (by omega)),fun x hx=>by
        simp only[List.length_append,List.length_singleton]
        rcases List.mem_append.1 hx with e|e
        · have:=h.bound x e;omega
        · have:x=(seen.length:Int):=by simpa using e
          omega,fun j hj=>by
        by_cases e:j=k
        · subst e;simp
        · exact List.mem_append_left _ (h.all j (by omega))⟩
theorem dc (d:aJ) (live:List Bool) (cls:List Int):yu d live cls d.next.length (aK d live cls d.next.length 0 [] []).1 (aK d live cls d.next.length 0 [] []).2:=by
  have:=jD (d:=d) (live:=live) (cls:=cls) d.next.length 0 [] [] ⟨rfl,Nat.le_refl _,fun i hi=>absurd hi (Nat.not_lt_zero _),fun x hx=>(by cases hx),fun j hj=>absurd hj (Nat.not_lt_zero _)⟩
  rwa [Nat.zero_add] at this
theorem kP {d:aJ}{many:Nat}(hc:ia many cls) (hl:cls.length=d.next.length):many<=(aK d live cls d.next.length 0 [] []).1.length:=by
  have h:=dc d live cls
  have:ia many ((aK d live cls d.next.length 0 [] []).1.map fun s=>s.getD 0 0):=fun i hi=>by
    obtain⟨k,hk⟩:=List.getElem?_of_mem (hc i hi);have hkl:=(List.getElem?_eq_some_iff.1 hk).1;have:=h.all k (by omega);refine List.mem_map.2 ⟨_,this,?_⟩;simp[dz,List.getD_eq_getElem?_getD,hk]
  have:=mO _ _ this;simpa using this
def eP (cls:List Int):Nat->List Nat->Int->Option Nat
  |_,[],_=>none
  |i,x::r,c=>if c=cls.getD x 0 then some i else eP cls (i+1) r c
theorem rT {cls:List Int}:∀(of:List Nat) (i j:Nat) (c:Int),eP cls i of c=some j->i<=j/\∃x,of[j-i]? =some x/\c=cls.getD x 0
  | [],i,j,c,h=>by cases h
  |x::r,i,j,c,h=>by
    rw[eP] at h;split at h
    · rename_i e;cases h;exact⟨Nat.le_refl _,x,by simp,e⟩
    · obtain⟨h1,y,h2,h3⟩:=rT r (i+1) j c h;refine⟨by omega,y,?_,h3⟩;rw[show j-i=(j-(i+1))+1 by omega,List.getElem?_cons_succ];exact h2
theorem mJ {cls:List Int}:∀(of:List Nat) (i:Nat) (c:Int),eP cls i of c=none->∀x∈of,c≠cls.getD x 0
  | [],i,c,h,x,hx=>by cases hx
  |y::r,i,c,h,x,hx=>by
    rw[eP] at h;split at h
    · cases h
    · rename_i hn
      rcases List.mem_cons.1 hx with e|e
      · subst e;exact hn
      · exact mJ r (i+1) c h x e
def aV (live:List Bool) (cls:List Int) (of:List Nat) (t:Int):List Nat×Int :=
  if t<0\/live.getD t.toNat false=false then (of,-1) else
    match eP cls 0 of (cls.getD t.toNat 0) with
    |some i=>(of,(i:Int))
    |none=>(of++[t.toNat],(of.length:Int))
def bQ (live:List Bool) (cls:List Int):List Int->List Nat->List Int->List Nat×List Int
  | [],of,row=>(of,row)
  |t::r,of,row=>bQ live cls r (aV live cls of t).1 (row++[(aV live cls of t).2])
def mu (d:aJ) (live:List Bool) (cls:List Int):Nat->Nat->List Nat->List Row->List Int->aJ
  | 0,_,_,next,rule=>⟨next,rule⟩
  |n+1,i,of,next,rule =>
    match of[i]? with
    |none=>⟨next,rule⟩
    |some k=>mu d live cls n (i+1) (bQ live cls (d.row k) of []).1 (next++[dO (bQ live cls (d.row k) of []).2]) (rule++[d.ru k])
def fP (d:aJ):aJ:=if d.next.length=0 then ⟨[],[]⟩ else mu d (ax d) (aN d (ax d)) (d.next.length+1) 0 [0] [] []
structure lK (n:Nat) (of:List Nat):Prop where
  once:of.Nodup
  lt:∀x∈of,x<n
theorem vP:∀(n:Nat) (l:List Nat),l.Nodup->(∀x∈l,x<n)->l.length<=n
  | 0,[],_,_=>Nat.le_refl _
  | 0,x::l,_,h=>absurd (h x (by simp)) (Nat.not_lt_zero _)
  |n+1,l,hl,h=>by
    have h1:=vP n (l.erase n) (hl.erase n) (fun x hx=>by
      have:=(hl.mem_erase_iff).1 hx;have:=h x this.2;omega)
    by_cases hn:n∈l
    · have:=List.length_erase_of_mem hn;omega
    · rw[List.erase_of_not_mem hn] at h1;omega
theorem lK.len {n:Nat}(k:lK n of):of.length<=n:=vP n of k.once k.lt
theorem jt {n:Nat}(k:lK n of) (ht:t<n):lK n (aV live cls of t).1:=by
  unfold aV;split
  · exact k
  · rename_i hn;split
    · exact k
    · rename_i hf;have hne:=mJ of 0 _ hf;refine⟨List.nodup_append.2 ⟨k.once,by simp,fun a ha b hb e=>?_⟩,fun x hx=>?_⟩
      · have:b=t.toNat:=by simpa using hb
        subst e;subst this;exact hne _ ha rfl
      · rcases List.mem_append.1 hx with e|e
        · exact k.lt x e
        · have:x=t.toNat:=by simpa using e
          omega
theorem qU:of.length<=(aV live cls of t).1.length/\∀(i x:Nat),of[i]? =some x->(aV live cls of t).1[i]? =some x:=by
  unfold aV;split
  · exact⟨Nat.le_refl _,fun _ _ h=>h⟩
  · split
    · exact⟨Nat.le_refl _,fun _ _ h=>h⟩
    · exact⟨by simp,fun i x h=>by rw[List.getElem?_append_left (List.getElem?_eq_some_iff.1 h).1];exact h⟩
def sL (L:List (List Nat)) (l:List Nat) (to:Int):Prop:=(l.length=0/\to= -1)\/(l.length≠0/\∃i:Nat,to=(i:Int)/\L[i]? =some l)
theorem sL.mono {L':List (List Nat)}{l:List Nat}{to:Int}(k:sL L l to) (h:L <+: L'):sL L' l to:=by
  rcases k with k|⟨k,i,e,hi⟩
  · exact .inl k
  · obtain⟨t,rfl⟩:=h;exact .inr ⟨k,i,e,by rw[List.getElem?_append_left (List.getElem?_eq_some_iff.1 hi).1];exact hi⟩
theorem nq (ss:List aH) (cur:List Nat) (lists:List (List Nat)) (b:Nat) (hn:lists.Nodup) :
    lists <+: (cv ss cur lists b).1/\(cv ss cur lists b).1.Nodup/\sL (cv ss cur lists b).1 (cH ss (UInt8.ofNat b) cur) (cv ss cur lists b).2:=by
  unfold cv;split
  · rename_i h;exact⟨List.prefix_refl _,hn,.inl ⟨h,rfl⟩⟩
  · rename_i h;split
    · rename_i i hi;exact⟨List.prefix_refl _,hn,.inr ⟨h,i,rfl,(mH lists 0 i _ hi).2⟩⟩
    · rename_i hi;refine⟨List.prefix_append _ _,List.nodup_append.2 ⟨hn,by simp,fun x hx y hy e=>?_⟩,.inr ⟨h,lists.length,rfl,by simp⟩⟩;have:y=cH ss (UInt8.ofNat b) cur:=by simpa using hy
      exact rQ lists 0 _ hi (by rw[<-this,<-e];exact hx)
theorem oz (ss:List aH) (cur:List Nat):∀(n b:Nat) (lists:List (List Nat)) (row:List Int),lists.Nodup ->
    lists <+: (iQ ss cur n b lists row).1/\(iQ ss cur n b lists row).1.Nodup/\∃ys,(iQ ss cur n b lists row).2=row++ys/\ys.length=n/\∀(j:Nat) (y:Int),ys[j]? =some y->sL (iQ ss cur n b lists row).1 (cH ss (UInt8.ofNat (b+j)) cur) y
  | 0,b,lists,row,hn=>⟨List.prefix_refl _,hn,[],by simp[iQ],rfl,fun j y h=>by simp at h⟩
  |n+1,b,lists,row,hn=>by
    obtain⟨h1,h2,h3⟩:=nq ss cur lists b hn;obtain⟨k1,k2,ys,k3,k4,k5⟩:=oz ss cur n (b+1) (cv ss cur lists b).1 (row++[(cv ss cur lists b).2]) h2;rw[iQ];refine⟨h1.trans k1,k2,(cv ss cur lists b).2::ys,by rw[k3];simp,by simp[k4],fun j y hy=>?_⟩;cases j with
    |zero =>
      simp only[List.getElem?_cons_zero,Option.some.injEq] at hy;subst hy;exact h3.mono k1
    |succ j =>
      rw[List.getElem?_cons_succ] at hy;have:=k5 j y hy
      rwa [show b+(j+1)=b+1+j by omega]
structure jd (ss:List aH) (st:Nat) (lists:List (List Nat)) (d:aJ):Prop where
  first:lists[0]? =some (b9 ss st)
  once:lists.Nodup
  size:lists.length<=2000
  rlen:d.rule.length=d.next.length
  row:∀(k:Nat) (r:Row) (l:List Nat),d.next[k]? =some r->lists[k]? =some l->∀(b:Nat) (y:Int),r.v[b]? =some y->sL lists (cH ss (UInt8.ofNat b) l) y
  rule:∀(k:Nat) (x:Int) (l:List Nat),d.rule[k]? =some x->lists[k]? =some l->x=cm ss l
theorem pM {ss:List aH}{st:Nat}:∀(n k:Nat) (lists:List (List Nat)) (next:List Row) (rule:List Int) (d:aJ),jd ss st lists ⟨next,rule⟩->next.length=k->k<=lists.length->iG ss n k lists next rule=some d->∃L,lists <+: L/\jd ss st L d/\L.length=d.next.length
  | 0,k,lists,next,rule,d,h,hk,hkl,hd=>by cases hd
  |n+1,k,lists,next,rule,d,h,hk,hkl,hd=>by
    rw[iG] at hd;split at hd
    · rename_i hn;cases hd;have:=List.getElem?_eq_none_iff.1 hn;exact⟨lists,List.prefix_refl _,h,by show lists.length=next.length;omega⟩
    · rename_i cur hcur;obtain⟨h1,h2,ys,h3,h4,h5⟩:=oz ss cur 256 0 lists [] h.once;split at hd
      · cases hd
      · rename_i hsz;have hkl2:=(List.getElem?_eq_some_iff.1 hcur).1
        have hpre:∀(i:Nat) (l:List Nat),i<lists.length->(iQ ss cur 256 0 lists []).1[i]? =some l->lists[i]? =some l:=fun i l hi hl=>by
          obtain⟨t,ht⟩:=h1;rw[<-ht,List.getElem?_append_left hi] at hl;exact hl
        have hpre2:∀(i:Nat) (l:List Nat),lists[i]? =some l->(iQ ss cur 256 0 lists []).1[i]? =some l:=fun i l hl=>by
          obtain⟨t,ht⟩:=h1;rw[<-ht,List.getElem?_append_left (List.getElem?_eq_some_iff.1 hl).1];exact hl
        have hlen:=h1.length_le;have hrl:rule.length=next.length:=h.rlen
        obtain⟨L,g1,g2,g3⟩:=pM (st:=st) n (k+1) _ _ _ d ⟨hpre2 _ _ h.first,h2,by omega,by simp[hrl],fun i r l hr hl b y hy=>by
          rcases Nat.lt_or_ge i next.length with hi|hi
          · rw[List.getElem?_append_left hi] at hr;exact(h.row i r l hr (hpre i l (by omega) hl) b y hy).mono h1
          · have hik:i=next.length:=by
              have:=(List.getElem?_eq_some_iff.1 hr).1;simp at this;omega
            subst hik;simp only[List.getElem?_concat_length,Option.some.injEq] at hr;subst hr;have hlc:=hpre _ l (by omega) hl;rw[hk] at hlc;rw[hcur] at hlc;cases hlc;rw[h3,List.nil_append,js h4] at hy;have:=h5 b y hy
            rwa [Nat.zero_add] at this,fun i x l hx hl=>by
          rcases Nat.lt_or_ge i rule.length with hi|hi
          · rw[List.getElem?_append_left hi] at hx;exact h.rule i x l hx (hpre i l (by omega) hl)
          · have hik:i=rule.length:=by
              have:=(List.getElem?_eq_some_iff.1 hx).1;simp at this;omega
            subst hik;simp only[List.getElem?_concat_length,Option.some.injEq] at hx;subst hx;have hlc:=hpre _ l (by omega) hl;rw[hrl,hk,hcur] at hlc;cases hlc;rfl⟩ (by simp[hk]) (by omega) hd
        exact⟨L,h1.trans g1,g2,g3⟩
theorem sA {ss:List aH}(hr:∀x∈ss,x.rule<=1000000):∀(l:List Nat) (b:Int),-1<=b/\b<=1000000-> -1<=nV ss l b/\nV ss l b<=1000000
  | [],b,h=>h
  |j::r,b,h=>by
    rw[nV];refine sA hr r _ ?_;split
    · rename_i x hx;split
      · have:=hr x (List.mem_of_getElem? hx);omega
      · exact h
    · exact h
theorem sx (hr:∀x∈ss,x.rule<=1000000) (l:List Nat) : -1<=cm ss l/\cm ss l<=1000000:=by
  unfold cm;split
  · omega
  · exact sA hr l (-1) (by omega)
theorem jd.ok {d:aJ}(k:jd ss st L d) (hL:L.length=d.next.length) (hr:∀x∈ss,x.rule<=1000000):d.Ok:=by
  refine⟨k.rlen,by rw[<-hL];exact k.size,fun r hrm x hx=>?_,fun x hx=>?_⟩
  · obtain⟨i,hi⟩:=List.getElem?_of_mem hrm;obtain⟨j,hj⟩:=List.getElem?_of_mem hx;have hil:=(List.getElem?_eq_some_iff.1 hi).1;have hl:L[i]? =some (L[i]'(by omega)):=List.getElem?_eq_getElem _
    rcases k.row i r _ hi hl j x hj with ⟨_,rfl⟩|⟨_,i2,rfl,h2⟩
    · omega
    · have:=(List.getElem?_eq_some_iff.1 h2).1;omega
  · obtain⟨i,hi⟩:=List.getElem?_of_mem hx;have hil:=(List.getElem?_eq_some_iff.1 hi).1;have hl:L[i]? =some (L[i]'(by rw[hL,<-k.rlen];exact hil)):=List.getElem?_eq_getElem _;rw[k.rule i x _ hi hl];exact sx hr _
theorem gE {d:aJ}(h:eS ss st= .inr d):(b9 ss st).length≠0/\∃L,jd ss st L d/\L.length=d.next.length/\0<L.length:=by
  unfold eS at h;split at h
  · cases h
  · rename_i hs;refine⟨hs,?_⟩;split at h
    · cases h
    · rename_i d' hd;cases h;obtain⟨L,h1,h2,h3⟩:=pM (st:=st) 2002 0 [b9 ss st] [] [] d ⟨rfl,by simp,by simp,rfl,fun k r l hr=>by simp at hr,fun k x l hx=>by simp at hx⟩ rfl (by simp) hd;exact⟨L,h2,h3,by have:=(List.getElem?_eq_some_iff.1 h2.first).1;omega⟩
theorem tR {d:aJ}(h:eS ss st= .inr d) (hr:∀x∈ss,x.rule<=1000000):d.Ok:=by
  obtain⟨_,L,h1,h2,_⟩:=gE h;exact h1.ok h2 hr
def aJ.go (d:aJ):By->Int->Int
  | [],s=>s
  |c::l,s=>aJ.go d l (if s<0 then -1 else d.to s.toNat c)
def aJ.bW (d:aJ) (s:Int) (w:By):Int:=if d.go w s<0 then -1 else d.ru (d.go w s).toNat
theorem go_neg (d:aJ):∀(w:By) (s:Int),s<0->d.go w s<0
  | [],s,h=>h
  |c::l,s,h=>by
    rw[aJ.go,if_pos h];exact go_neg d l (-1) (by decide)
theorem cW (d:aJ) (w:By){s:Int}(h:s<0):d.bW s w= -1:=by rw[aJ.bW,if_pos (go_neg d w s h)]
theorem cJ (d:aJ) (k:Nat):d.bW (k:Int) []=d.ru k:=by
  rw[aJ.bW,aJ.go,if_neg (by omega),Int.toNat_natCast]
theorem cn (d:aJ) (k:Nat) (c:UInt8) (w:By):d.bW (k:Int) (c::w)=d.bW (d.to k c) w:=by
  have h:¬((k:Int)<0):=by omega
  rw[aJ.bW,aJ.bW,aJ.go,if_neg h,Int.toNat_natCast]
def BK (d:aJ) (k:Nat):Prop:=∃w,0<=d.bW (k:Int) w
def fF (d:aJ) (out:List Bool):Prop:=∀k:Nat,out.getD k false=true->BK d k
theorem AI {d:aJ}(h:t∈d.row k):∃c:UInt8,d.to k c=t:=by
  unfold aJ.row at h;split at h
  · rename_i r hr;obtain⟨i,hi⟩:=List.getElem?_of_mem h;have hl:=(List.getElem?_eq_some_iff.1 hi).1;rw[r.len] at hl;refine⟨UInt8.ofNat i,?_⟩;have hc:(UInt8.ofNat i).toNat=i:=by simp;omega
    unfold aJ.to;rw[hr];simp only;rw[hc,List.getD_eq_getElem?_getD,hi];rfl
  · cases h
theorem C5 {d:aJ}(c:UInt8) (h:k<d.next.length):d.to k c∈d.row k:=by
  have hr:d.next[k]? =some (d.next[k]'h):=List.getElem?_eq_getElem _
  obtain⟨x,hx,he,hm⟩:=(d.next[k]'h).at c;unfold aJ.to aJ.row;rw[hr];simp only;rw[he];exact hm
theorem uG {d:aJ}{out:List Bool}(h:fF d out) (k:Nat) (ha:ct d out k=true):BK d k:=by
  unfold ct at ha
  rcases Bool.or_eq_true _ _▸ha with e|e
  · exact⟨[],by rw[cJ];exact of_decide_eq_true e⟩
  · obtain⟨t,ht,hl⟩:=List.any_eq_true.1 e;unfold eo at hl;rw[Bool.and_eq_true] at hl;have h0:=of_decide_eq_true hl.1;obtain⟨c,hc⟩:=AI ht;obtain⟨w,hw⟩:=h t.toNat hl.2;refine⟨c::w,?_⟩;rw[cn,hc]
    rwa [Int.toNat_of_nonneg h0] at hw
theorem zc {d:aJ}{out:List Bool}(h:fF d out) (k:Nat):fF d (out.set k (ct d out k)):=by
  intro j hj
  by_cases e:k=j
  · subst e;rw[List.getD_eq_getElem?_getD] at hj
    by_cases hk:k<out.length
    · rw[List.getElem?_set_self hk] at hj;exact uG h k hj
    · rw[List.getElem?_eq_none (by simp;omega)] at hj;cases hj
  · rw[List.getD_eq_getElem?_getD,List.getElem?_set_ne e,<-List.getD_eq_getElem?_getD] at hj;exact h j hj
theorem gQ {d:aJ}:∀(n k:Nat) (out:List Bool) (ag:Bool),fF d out->fF d (bD d n k out ag).1
  | 0,_,_,_,h=>h
  |n+1,k,out,ag,h=>by
    rw[bD];split
    · exact gQ n (k+1) out ag h
    · exact gQ n (k+1) _ _ (zc h k)
theorem gP {d:aJ}:∀(n k:Nat) (out:List Bool) (ag:Bool),k+n<=out.length->(bD d n k out ag).2=false->(bD d n k out ag).1=out/\∀j,k<=j->j<k+n->out.getD j false=false->ct d out j=false
  | 0,_,_,_,_,_=>⟨rfl,fun j h1 h2=>by omega⟩
  |n+1,k,out,ag,hk,h=>by
    rw[bD] at h ⊢;split at h
    · rename_i hg;rw[if_pos hg];obtain⟨h1,h2⟩:=gP n (k+1) out ag (by omega) h
      exact⟨h1,fun j hj1 hj2 hj3=>by
        by_cases e:j=k
        · subst e;rw[hg] at hj3;cases hj3
        · exact h2 j (by omega) (by omega) hj3⟩
    · rename_i hg;rw[if_neg hg]
      have hf:out[k]? =some false:=by
        rw[List.getD_eq_getElem?_getD,List.getElem?_eq_getElem (by omega)] at hg;rw[List.getElem?_eq_getElem (by omega)];simpa using hg
      obtain⟨h1,h2⟩:=gP n (k+1) _ _ (by simp;omega) h
      have hb:ct d out k=false:=by
        cases hb:ct d out k with
        |false=>rfl
        |true =>
          exfalso;rw[hb,Bool.or_true] at h
          have hmono:∀(n k:Nat) (out:List Bool),(bD d n k out true).2=true:=fun n=>by
            induction n with
            |zero=>intro k out;rfl
            |succ n ih=>intro k out;rw[bD];split<;>simp[ih]
          rw[hmono] at h;cases h
      have hset:out.set k (ct d out k)=out:=by
        rw[hb]
        apply List.ext_getElem?
        intro j
        by_cases e:k=j
        · subst e;rw[List.getElem?_set_self (by omega),hf]
        · rw[List.getElem?_set_ne e]
      rw[hset] at h1 h2;rw[hset]
      exact⟨h1,fun j hj1 hj2 hj3=>by
        by_cases e:j=k
        · subst e;exact hb
        · exact h2 j (by omega) (by omega) hj3⟩
def sK (d:aJ) (out:List Bool):Prop:=∀k,k<d.next.length->out.getD k false=false->ct d out k=false
theorem qZ {d:aJ}:∀(n:Nat) (out:List Bool),out.length=d.next.length->dL out<n->fF d out->fF d (nE d n out)/\sK d (nE d n out)
  | 0,_,_,h,_=>absurd h (Nat.not_lt_zero _)
  |n+1,out,hl,hf,hs=>by
    have hless:=fI d d.next.length 0 out false (by omega)
    have hsp:=gQ d.next.length 0 out false hs
    rw[nE];split
    · rename_i ht
      rcases hless.2 ht with e|e
      · cases e
      · exact qZ n _ (by rw[eN];exact hl) (by omega) hsp
    · rename_i ht;have hst:=gP d.next.length 0 out false (by omega) (by simpa using ht)
      rw[hst.1];exact⟨hs,fun k hk hko=>hst.2 k (Nat.zero_le _) (by omega) hko⟩
theorem nO {d:aJ}{out:List Bool}(hok:d.Ok) (h:sK d out):∀(w:By) (k:Nat),k<d.next.length->0<=d.bW (k:Int) w->out.getD k false=true
  | [],k,hk,hw=>by
    rw[cJ] at hw;cases ho:out.getD k false with
    |true=>rfl
    |false =>
      have:=h k hk ho;unfold ct at this;rw[decide_eq_true hw] at this;cases this
  |c::w,k,hk,hw=>by
    rw[cn] at hw;have ht:=aJ.jL hok (s:=k) c
    have h0:0<=d.to k c:=by
      by_cases e:d.to k c<0
      · rw[cW d w e] at hw;omega
      · omega
    obtain⟨t,htt⟩:=Int.eq_ofNat_of_zero_le h0;rw[htt] at hw;have ih:=nO hok h w t (by omega) hw;cases ho:out.getD k false with
    |true=>rfl
    |false =>
      have:=h k hk ho;unfold ct at this;rw[Bool.or_eq_false_iff] at this;have h2:=List.any_eq_false.1 this.2 _ (C5 c hk);unfold eo at h2;rw[htt,Int.toNat_natCast,ih] at h2;simp at h2
theorem qY {d:aJ}(hok:d.Ok) (hk:k<d.next.length):(ax d).getD k false=true↔BK d k:=by
  have h:=qZ (d:=d) (d.next.length+1) (List.replicate d.next.length false) (by simp) (by
    have:dL (List.replicate d.next.length false)<=d.next.length:=by unfold dL;exact Nat.le_trans (List.length_filter_le _ _) (by simp)
    omega) (fun k hk=>by
      rw[List.getD_eq_getElem?_getD,List.getElem?_replicate] at hk;split at hk<;>cases hk)
  exact⟨h.1 k,fun⟨w,hw⟩=>nO hok h.2 w k hk hw⟩
structure yY (d:aJ) (live:List Bool) (cls:List Int) (k:Nat) (seen:List (List Int)) (after:List Int):Prop where
  len:after.length=k
  once:seen.Nodup
  at_:∀j,j<k->∃i:Nat,after[j]? =some (i:Int)/\seen[i]? =some (dz d live cls j)
theorem rS:∀(ls:List (List Int)) (i:Nat) (l:List Int),iy i ls l=none->l∉ls
  | [],i,l,_=>List.not_mem_nil
  |x::r,i,l,h=>by
    rw[iy] at h;split at h
    · cases h
    · rename_i e;have:=rS r (i+1) l h;simp only[List.mem_cons,not_or];exact⟨e,this⟩
theorem iH {d:aJ}{live:List Bool}{cls:List Int}:∀(n k:Nat) (seen:List (List Int)) (after:List Int),yY d live cls k seen after->yY d live cls (k+n) (aK d live cls n k seen after).1 (aK d live cls n k seen after).2
  | 0,k,seen,after,h=>h
  |n+1,k,seen,after,h=>by
    rw[aK,show k+(n+1)=(k+1)+n by omega];split
    · rename_i i hi;have hi':=mI seen 0 i _ hi;refine iH n (k+1) _ _ ⟨by simp[h.len],h.once,fun j hj=>?_⟩
      by_cases e:j=k
      · subst e;refine⟨i,?_,hi'.2⟩;rw[<-h.len,List.getElem?_concat_length]
      · obtain⟨i',h1,h2⟩:=h.at_ j (by omega);exact⟨i',by rw[List.getElem?_append_left (by rw[h.len];omega)];exact h1,h2⟩
    · rename_i hi;have hno:=rS seen 0 _ hi;refine iH n (k+1) _ _ ⟨by simp[h.len],List.nodup_append.2 ⟨h.once,by simp,fun a ha b hb e=>?_⟩,fun j hj=>?_⟩
      · have:b=dz d live cls k:=by simpa using hb
        rw[e,this] at ha;exact hno ha
      · by_cases e:j=k
        · subst e;refine⟨seen.length,?_,by rw[List.getElem?_concat_length]⟩;rw[<-h.len,List.getElem?_concat_length]
        · obtain⟨i',h1,h2⟩:=h.at_ j (by omega);exact⟨i',by rw[List.getElem?_append_left (by rw[h.len];omega)];exact h1,by rw[List.getElem?_append_left (List.getElem?_eq_some_iff.1 h2).1];exact h2⟩
theorem iI {d:aJ}{t:Nat}(hs:s<d.next.length) (ht:t<d.next.length) :
    (aK d live cls d.next.length 0 [] []).2.getD s 0=(aK d live cls d.next.length 0 [] []).2.getD t 0↔dz d live cls s=dz d live cls t:=by
  have h:=iH (d:=d) (live:=live) (cls:=cls) d.next.length 0 [] [] ⟨rfl,by simp,fun j hj=>absurd hj (Nat.not_lt_zero _)⟩
  rw[Nat.zero_add] at h;obtain⟨i,h1,h2⟩:=h.at_ s hs;obtain⟨j,h3,h4⟩:=h.at_ t ht;rw[List.getD_eq_getElem?_getD,List.getD_eq_getElem?_getD,h1,h3];constructor
  · intro e
    have:i=j:=by
      have e':(i:Int)=(j:Int):=e;omega
    subst this;rw[h2] at h4;exact Option.some.inj h4
  · intro e;rw[<-e] at h4;have hi:=(List.getElem?_eq_some_iff.1 h2)
    have hj:=(List.getElem?_eq_some_iff.1 h4)
    obtain⟨hi1,hi2⟩:=hi;obtain⟨hj1,hj2⟩:=hj
    have:i=j:=by
      rcases Nat.lt_trichotomy i j with e|e|e
      · exact absurd (hi2.trans hj2.symm) (List.pairwise_iff_getElem.1 h.once i j hi1 hj1 e)
      · exact e
      · exact absurd (hj2.trans hi2.symm) (List.pairwise_iff_getElem.1 h.once j i hj1 hi1 e)
    subst this;rfl
theorem pP:∀(m:Nat) (l:List Int),ia m l->l.length=m->l.Nodup
  | 0,l,_,hl=>by rw[List.length_eq_zero_iff.1 hl];exact List.Pairwise.nil
  |m+1,l,h,hl=>by
    have hm:=h m (Nat.lt_succ_self m);have h1:ia m (l.erase (m:Int)):=fun i hi=>(List.mem_erase_of_ne (by omega)).2 (h i (by omega))
    have h3:=List.length_erase_of_mem hm;have h2:=pP m _ h1 (by omega)
    have hno:(m:Int)∉l.erase (m:Int):=fun hin=>by
      have h4:ia m ((l.erase (m:Int)).erase (m:Int)):=fun i hi=>(List.mem_erase_of_ne (by omega)).2 (h1 i hi)
      have h5:=mO _ _ h4;have h6:=List.length_erase_of_mem hin;have h7:=List.length_pos_of_mem hin;omega
    exact(List.perm_cons_erase hm).nodup_iff.2 (List.nodup_cons.2 ⟨hno,h2⟩)
theorem jr {d:aJ}(hs:s<d.next.length) (c:UInt8):(d.row s)[c.toNat]? =some (d.to s c):=by
  have hr:d.next[s]? =some (d.next[s]'hs):=List.getElem?_eq_getElem _
  obtain⟨x,hx,he,_⟩:=(d.next[s]'hs).at c;unfold aJ.row aJ.to;rw[hr];simp only;rw[he];exact hx
theorem lp {d:aJ}(hs:s<d.next.length):(d.row s).length=256:=by
  have hr:d.next[s]? =some (d.next[s]'hs):=List.getElem?_eq_getElem _
  unfold aJ.row;rw[hr];exact(d.next[s]'hs).len
theorem yF {d:aJ}{t:Nat}(hs:s<d.next.length) (ht:t<d.next.length) (f:Int->Int):(d.row s).map f=(d.row t).map f↔∀c:UInt8,f (d.to s c)=f (d.to t c):=by
  constructor
  · intro e c;have:=congrArg (fun l=>l[c.toNat]?) e;simp only[List.getElem?_map,jr hs c,jr ht c,Option.map_some,Option.some.injEq] at this;exact this
  · intro h
    apply List.ext_getElem?
    intro i
    by_cases hi:i<256
    · have hc:(UInt8.ofNat i).toNat=i:=by simp;omega
      have h1:=jr hs (UInt8.ofNat i);have h2:=jr ht (UInt8.ofNat i);rw[hc] at h1 h2;rw[List.getElem?_map,List.getElem?_map,h1,h2,Option.map_some,Option.map_some,h]
    · rw[List.getElem?_eq_none (by rw[List.length_map,lp hs];omega),List.getElem?_eq_none (by rw[List.length_map,lp ht];omega)]
def Alike (d:aJ) (a b:Int):Prop:=∀w,d.bW a w=d.bW b w
theorem yD {d:aJ}(hok:d.Ok) (a:Int) (w:By) : -1<=d.bW a w:=by
  unfold aJ.bW;split
  · omega
  · unfold aJ.ru;rw[List.getD_eq_getElem?_getD];cases h:d.rule[(d.go w a).toNat]? with
    |none=>decide
    |some x=>exact(hok.ru x (List.mem_of_getElem? h)).1
theorem dP {d:aJ}(hok:d.Ok){a:Int}(ha:a<d.next.length):(a<0\/(ax d).getD a.toNat false=false)↔∀w,d.bW a w= -1:=by
  constructor
  · intro h w
    rcases h with h|h
    · exact cW d w h
    · by_cases hn:a<0
      · exact cW d w hn
      · obtain⟨k,rfl⟩:=Int.eq_ofNat_of_zero_le (show 0<=a by omega);have hl:=qY hok (k:=k) (by omega);have hg:=yD hok (k:Int) w
        by_cases hw:0<=d.bW (k:Int) w
        · rw[Int.toNat_natCast,hl.2 ⟨w,hw⟩] at h;cases h
        · omega
  · intro h
    by_cases hn:a<0
    · exact .inl hn
    · right
      obtain⟨k,rfl⟩:=Int.eq_ofNat_of_zero_le (show 0<=a by omega);have hl:=qY hok (k:=k) (by omega);rw[Int.toNat_natCast];cases hb:(ax d).getD k false with
      |false=>rfl
      |true =>
        obtain⟨w,hw⟩:=hl.1 hb;have:=h w;omega
structure pV (d:aJ) (cls:List Int):Prop where
  len:cls.length=d.next.length
  ge:∀k,-1<=cls.getD k 0
  alike:∀s t:Nat,s<d.next.length->t<d.next.length->Alike d s t->cls.getD s 0=cls.getD t 0
  rule:∀s t:Nat,s<d.next.length->t<d.next.length->cls.getD s 0=cls.getD t 0->d.ru s=d.ru t
theorem uV {d:aJ}(hok:d.Ok) (k:pV d cls){a b:Int}(ha:a<d.next.length) (hb:b<d.next.length) (h:Alike d a b):bG (ax d) cls a=bG (ax d) cls b:=by
  by_cases hd:a<0\/(ax d).getD a.toNat false=false
  · have hd':b<0\/(ax d).getD b.toNat false=false:=(dP hok hb).2 fun w=>by rw[<-h w];exact(dP hok ha).1 hd w
    rw[bG,if_pos hd,bG,if_pos hd']
  · have hd':¬(b<0\/(ax d).getD b.toNat false=false):=fun e=>hd ((dP hok ha).2 fun w=>by rw[h w];exact(dP hok hb).1 e w)
    rw[bG,if_neg hd,bG,if_neg hd']
    have ha0:0<=a:=by
      by_cases e:a<0
      · exact absurd (.inl e) hd
      · omega
    have hb0:0<=b:=by
      by_cases e:b<0
      · exact absurd (.inl e) hd'
      · omega
    exact k.alike a.toNat b.toNat (by omega) (by omega) (by rw[Int.toNat_of_nonneg ha0,Int.toNat_of_nonneg hb0];exact h)
theorem zD {d:aJ}(hok:d.Ok) (k:pV d cls){t:Nat}(hs:s<d.next.length) (ht:t<d.next.length) (h:Alike d s t):dz d (ax d) cls s=dz d (ax d) cls t:=by
  unfold dz;rw[k.alike s t hs ht h,(yF hs ht _).2 fun c=>uV hok k (aJ.jL hok c).2 (aJ.jL hok c).2 fun w=>by rw[<-cn,<-cn];exact h (c::w)]
theorem wm {d:aJ}{t:Nat}(h:dz d live cls s=dz d live cls t):cls.getD s 0=cls.getD t 0:=by
  unfold dz at h;exact(List.cons.inj h).1
theorem AM {d:aJ}(hok:d.Ok) (k:pV d cls):pV d (aK d (ax d) cls d.next.length 0 [] []).2:=by
  have hend:=dc d (ax d) cls;refine⟨hend.len,fun j=>?_,fun s t hs ht h=>(iI hs ht).2 (zD hok k hs ht h),fun s t hs ht h=>k.rule s t hs ht (wm ((iI hs ht).1 h))⟩;rw[List.getD_eq_getElem?_getD];cases hx:(aK d (ax d) cls d.next.length 0 [] []).2[j]? with
  |none=>decide
  |some x=>have:=hend.bound x (List.mem_of_getElem? hx);show -1<=x;omega
theorem qf {d:aJ}(hok:d.Ok) (hs:s<d.next.length):d.rule.getD s 0=d.ru s:=by
  have hl:=hok.len;unfold aJ.ru;rw[List.getD_eq_getElem?_getD,List.getD_eq_getElem?_getD,List.getElem?_eq_getElem (by omega)];rfl
theorem AH {d:aJ}(hok:d.Ok):pV d d.rule:=by
  refine⟨hok.len,fun k=>?_,fun s t hs ht h=>?_,fun s t hs ht h=>?_⟩
  · rw[List.getD_eq_getElem?_getD];cases hx:d.rule[k]? with
    |none=>decide
    |some x=>exact(hok.ru x (List.mem_of_getElem? hx)).1
  · rw[qf hok hs,qf hok ht];have:=h []
    rwa [cJ,cJ] at this
  · rwa [qf hok hs,qf hok ht] at h
theorem nh {d:aJ}(hok:d.Ok){cls:List Int}(k:pV d cls) (hst:∀s t,s<d.next.length->t<d.next.length->cls.getD s 0=cls.getD t 0->dz d (ax d) cls s=dz d (ax d) cls t):∀(w:By) (s t:Nat),s<d.next.length->t<d.next.length->cls.getD s 0=cls.getD t 0->d.bW (s:Int) w=d.bW (t:Int) w
  | [],s,t,hs,ht,h=>by rw[cJ,cJ];exact k.rule s t hs ht h
  |c::w,s,t,hs,ht,h=>by
    rw[cn,cn];have hk:=hst s t hs ht h;unfold dz at hk;have hb:=(yF hs ht _).1 (List.cons.inj hk).2 c;have ha:=(aJ.jL hok (s:=s) c).2;have hb2:=(aJ.jL hok (s:=t) c).2;generalize d.to s c=a at *;generalize d.to t c=b at *
    by_cases hd:a<0\/(ax d).getD a.toNat false=false
    · have hd':b<0\/(ax d).getD b.toNat false=false:=by
        by_cases e:b<0\/(ax d).getD b.toNat false=false
        · exact e
        · rw[bG,if_pos hd,bG,if_neg e] at hb;have:=k.ge b.toNat;omega
      rw[(dP hok ha).1 hd w,(dP hok hb2).1 hd' w]
    · by_cases hd':b<0\/(ax d).getD b.toNat false=false
      · rw[bG,if_neg hd,bG,if_pos hd'] at hb;have:=k.ge a.toNat;omega
      · rw[bG,if_neg hd,bG,if_neg hd'] at hb
        have ha0:0<=a:=by
          by_cases e:a<0
          · exact absurd (.inl e) hd
          · omega
        have hb0:0<=b:=by
          by_cases e:b<0
          · exact absurd (.inl e) hd'
          · omega
        have ih:=nh hok k hst w a.toNat b.toNat (by omega) (by omega) hb
        rwa [Int.toNat_of_nonneg ha0,Int.toNat_of_nonneg hb0] at ih
theorem pS {d:aJ}(hok:d.Ok):∀(n many:Nat) (cls:List Int),pV d cls->ia many cls->many<=d.next.length->d.next.length+1<=n+many->pV d (iJ d (ax d) n many cls)/\∀s t:Nat,s<d.next.length->t<d.next.length->(iJ d (ax d) n many cls).getD s 0=(iJ d (ax d) n many cls).getD t 0->Alike d s t
  | 0,many,cls,k,hc,hm,hf=>by omega
  |n+1,many,cls,k,hc,hm,hf=>by
    have hend:=dc d (ax d) cls;have hmore:=kP (live:=ax d) hc k.len;have hp:=AM hok k;rw[iJ];split
    · rename_i he;refine⟨hp,fun s t hs ht h w=>?_⟩;have hkey:=(iI hs ht).1 h;refine nh hok k (fun s t hs ht h=>?_) w s t hs ht (wm hkey)
      have hcov:ia many ((aK d (ax d) cls d.next.length 0 [] []).1.map fun s=>s.getD 0 0):=fun i hi=>by
        obtain⟨k',hk'⟩:=List.getElem?_of_mem (hc i hi);have hkl:=(List.getElem?_eq_some_iff.1 hk').1;have:=hend.all k' (by have:=k.len;omega);refine List.mem_map.2 ⟨_,this,?_⟩;simp[dz,List.getD_eq_getElem?_getD,hk']
      have hon:=pP many _ hcov (by simpa using he);obtain⟨i,hi⟩:=List.getElem?_of_mem (hend.all s hs);obtain⟨j,hj⟩:=List.getElem?_of_mem (hend.all t ht);have h1:((aK d (ax d) cls d.next.length 0 [] []).1.map fun s=>s.getD 0 0)[i]? =some (cls.getD s 0):=by rw[List.getElem?_map,hi];rfl
      have h2:((aK d (ax d) cls d.next.length 0 [] []).1.map fun s=>s.getD 0 0)[j]? =some (cls.getD s 0):=by rw[List.getElem?_map,hj,h];rfl
      obtain⟨hi1,hi2⟩:=List.getElem?_eq_some_iff.1 h1;obtain⟨hj1,hj2⟩:=List.getElem?_eq_some_iff.1 h2
      have hij:i=j:=by
        rcases Nat.lt_trichotomy i j with e|e|e
        · exact absurd (hi2.trans hj2.symm) (List.pairwise_iff_getElem.1 hon i j hi1 hj1 e)
        · exact e
        · exact absurd (hj2.trans hi2.symm) (List.pairwise_iff_getElem.1 hon j i hj1 hi1 e)
      subst hij;rw[hi] at hj;exact Option.some.inj hj
    · rename_i hne;have hsz:=hend.size;exact pS hok n _ _ hp hend.nums hsz (by omega)
theorem eE {d:aJ}(hok:d.Ok){t:Nat}(hs:s<d.next.length) (ht:t<d.next.length):(aN d (ax d)).getD s 0=(aN d (ax d)).getD t 0↔Alike d s t:=by
  have h:=pS hok (d.next.length+1) 0 d.rule (AH hok) (fun i hi=>absurd hi (Nat.not_lt_zero _)) (Nat.zero_le _) (by omega);exact⟨h.2 s t hs ht,h.1.alike s t hs ht⟩
def u7 (d e:aJ) (a b:Int):Prop:=∀w,d.bW a w=e.bW b w
inductive dM (d e:aJ):List Nat->List Nat->Prop
  |nil:dM d e [] []
  |cons {x y:Nat}{o p:List Nat}:x<d.next.length->y<e.next.length->u7 d e x y->dM d e o p->dM d e (x::o) (y::p)
theorem dM.len {d e:aJ}(h:dM d e o p):o.length=p.length:=by
  induction h with
  |nil=>rfl
  |cons _ _ _ _ ih=>simp[ih]
theorem dM.snoc {d e:aJ}{x y:Nat}(h:dM d e o p) (hx:x<d.next.length) (hy:y<e.next.length) (hl:u7 d e x y):dM d e (o++[x]) (p++[y]):=by
  induction h with
  |nil=>exact .cons hx hy hl .nil
  |cons a b c _ ih=>exact .cons a b c ih
theorem dM.get {d e:aJ}(h:dM d e o p):∀(i:Nat) (x:Nat),o[i]? =some x->∃y,p[i]? =some y/\u7 d e x y:=by
  induction h with
  |nil=>intro i x hx;simp at hx
  |cons a b c _ ih =>
    intro i x hx;cases i with
    |zero =>
      simp only[List.getElem?_cons_zero,Option.some.injEq] at hx;subst hx;exact⟨_,by simp,c⟩
    |succ i =>
      rw[List.getElem?_cons_succ] at hx ⊢;exact ih i x hx
theorem xU {d e:aJ}(hd:d.Ok) (he:e.Ok){t u:Nat}(ht:t<d.next.length) (hu:u<e.next.length) (htu:u7 d e t u) (h:dM d e o p):∀i:Nat,
    eP (aN d (ax d)) i o ((aN d (ax d)).getD t 0)=eP (aN e (ax e)) i p ((aN e (ax e)).getD u 0):=by
  induction h with
  |nil=>intro i;rfl
  | @cons x y o p hx hy hl _ ih =>
    intro i;rw[eP,eP];have h1:=eE hd ht hx;have h2:=eE he hu hy
    by_cases k:(aN d (ax d)).getD t 0=(aN d (ax d)).getD x 0
    · rw[if_pos k,if_pos (h2.2 fun w=>by rw[<-htu w,<-hl w];exact h1.1 k w)]
    · rw[if_neg k,if_neg (fun q=>k (h1.2 fun w=>by rw[htu w,hl w];exact h2.1 q w))];exact ih (i+1)
theorem zL {d e:aJ}(hd:d.Ok) (he:e.Ok){u:Int}(ht:t<d.next.length) (hu:u<e.next.length) (h:u7 d e t u) :
    (t<0\/(ax d).getD t.toNat false=false)↔(u<0\/(ax e).getD u.toNat false=false):=by
  rw[dP hd ht,dP he hu];exact⟨fun k w=>by rw[<-h w];exact k w,fun k w=>by rw[h w];exact k w⟩
theorem uF {d e:aJ}(hd:d.Ok) (he:e.Ok){u:Int}(ht:t<d.next.length) (hu:u<e.next.length) (h:u7 d e t u) (ho:dM d e o p) :
    dM d e (aV (ax d) (aN d (ax d)) o t).1 (aV (ax e) (aN e (ax e)) p u).1/\(aV (ax d) (aN d (ax d)) o t).2=(aV (ax e) (aN e (ax e)) p u).2:=by
  have hdl:=zL hd he ht hu h;unfold aV
  by_cases k:t<0\/(ax d).getD t.toNat false=false
  · rw[if_pos k,if_pos (hdl.1 k)];exact⟨ho,rfl⟩
  · have k':=fun q=>k (hdl.2 q)
    rw[if_neg k,if_neg k'];obtain⟨t,rfl⟩:=Int.eq_ofNat_of_zero_le (show 0<=t by omega)
    have hu0:0<=u:=by
      by_cases q:u<0
      · exact absurd (.inl q) k'
      · omega
    obtain⟨u,rfl⟩:=Int.eq_ofNat_of_zero_le hu0;simp only[Int.toNat_natCast];rw[xU hd he (by omega) (by omega) h ho 0];split
    · exact⟨ho,rfl⟩
    · exact⟨ho.snoc (by omega) (by omega) h,by rw[ho.len]⟩
theorem pe {d e:aJ}(hd:d.Ok) (he:e.Ok):∀(r q:List Int) (o p:List Nat) (row:List Int),dM d e o p->r.length=q.length->(∀(i:Nat) (a b:Int),r[i]? =some a->q[i]? =some b->a<d.next.length/\b<e.next.length/\u7 d e a b) ->
    dM d e (bQ (ax d) (aN d (ax d)) r o row).1 (bQ (ax e) (aN e (ax e)) q p row).1/\(bQ (ax d) (aN d (ax d)) r o row).2=(bQ (ax e) (aN e (ax e)) q p row).2
  | [],[],o,p,row,ho,_,_=>⟨ho,rfl⟩
  | [],_::_,_,_,_,_,h,_=>by simp at h
  |_::_,[],_,_,_,_,h,_=>by simp at h
  |a::r,b::q,o,p,row,ho,hl,h=>by
    obtain⟨h1,h2,h3⟩:=h 0 a b (by simp) (by simp);obtain⟨k1,k2⟩:=uF hd he h1 h2 h3 ho;rw[bQ,bQ,k2];exact pe hd he r q _ _ _ k1 (by simpa using hl) (fun i a b ha hb=>h (i+1) a b (by simpa using ha) (by simpa using hb))
theorem oB {live:List Bool}{cls:List Int}{n:Nat}:∀(r:List Int) (of:List Nat) (row:List Int),lK n of->(∀t∈r,t<n)->lK n (bQ live cls r of row).1
  | [],of,row,k,_=>k
  |t::r,of,row,k,h=>by
    rw[bQ];exact oB r _ _ (jt k (h t (by simp))) (fun u hu=>h u (by simp[hu]))
theorem vV:of <+: (aV live cls of t).1:=by
  unfold aV;split
  · exact List.prefix_refl _
  · split
    · exact List.prefix_refl _
    · exact List.prefix_append _ _
theorem ju {live:List Bool}{cls:List Int}:∀(r:List Int) (of:List Nat) (row:List Int),of <+: (bQ live cls r of row).1
  | [],of,row=>List.prefix_refl _
  |t::r,of,row=>by
    rw[bQ];exact vV.trans (ju r _ _)
theorem xz {d:aJ}(hd:d.Ok) (k:Nat):∀t∈d.row k,t<(d.next.length:Int):=fun t ht=>by
  obtain⟨c,rfl⟩:=AI ht;exact(aJ.jL hd c).2
theorem tE {d e:aJ}(hd:d.Ok) (he:e.Ok):∀(n m i:Nat) (o p:List Nat) (next:List Row) (rule:List Int),dM d e o p->lK d.next.length o->lK e.next.length p->i<=o.length->n+i=d.next.length+1->m+i=e.next.length+1 ->
    mu d (ax d) (aN d (ax d)) n i o next rule=mu e (ax e) (aN e (ax e)) m i p next rule
  | 0,m,i,o,p,next,rule,h,ho,hp,hi,hn,hm=>by have:=ho.len;omega
  |n+1,0,i,o,p,next,rule,h,ho,hp,hi,hn,hm=>by have:=hp.len;have:=h.len;omega
  |n+1,m+1,i,o,p,next,rule,h,ho,hp,hi,hn,hm=>by
    rw[mu,mu]
    rcases Nat.lt_or_ge i o.length with hlt|hge
    · obtain⟨x,hx⟩:∃x,o[i]? =some x:=⟨_,List.getElem?_eq_getElem hlt⟩
      obtain⟨y,hy,hl⟩:=h.get i x hx;rw[hx,hy];simp only;have hxn:=ho.lt x (List.mem_of_getElem? hx);have hyn:=hp.lt y (List.mem_of_getElem? hy);have hru:d.ru x=e.ru y:=by have:=hl [];rwa [cJ,cJ] at this
      obtain⟨k1,k2⟩:=pe hd he (d.row x) (e.row y) o p [] h (by rw[lp hxn,lp hyn]) (fun j a b ha hb=>by
        have hj:j<256:=by rw[<-lp hxn];exact(List.getElem?_eq_some_iff.1 ha).1
        have hc:(UInt8.ofNat j).toNat=j:=by simp;omega
        have h1:=jr hxn (UInt8.ofNat j);have h2:=jr hyn (UInt8.ofNat j);rw[hc] at h1 h2;obtain rfl:=Option.some.inj (ha.symm.trans h1);obtain rfl:=Option.some.inj (hb.symm.trans h2);exact⟨(aJ.jL hd _).2,(aJ.jL he _).2,fun w=>by rw[<-cn,<-cn];exact hl _⟩)
      rw[k2,hru];have hpre:=(ju (live:=ax d) (cls:=aN d (ax d)) (d.row x) o []).length_le;exact tE hd he n m (i+1) _ _ _ _ k1 (oB _ _ _ ho (xz hd x)) (oB _ _ _ hp (xz he y)) (by omega) (by omega) (by omega)
    · have h2:=h.len;rw[List.getElem?_eq_none hge,List.getElem?_eq_none (by omega)]
theorem AW {d e:aJ}(hd:d.Ok) (he:e.Ok) (hdn:0<d.next.length) (hen:0<e.next.length) (h:u7 d e 0 0):fP d=fP e:=by
  unfold fP;rw[if_neg (by omega),if_neg (by omega)];exact tE hd he _ _ 0 [0] [0] [] [] (.cons hdn hen h .nil) ⟨by simp,fun x hx=>by simp at hx;omega⟩ ⟨by simp,fun x hx=>by simp at hx;omega⟩ (by simp) (by omega) (by omega)
def mS (d:aJ) (of:List Nat) (t y:Int):Prop:=((∀w,d.bW t w= -1)/\y= -1)\/((∃w,0<=d.bW t w)/\∃(i x:Nat),y=(i:Int)/\of[i]? =some x/\Alike d t x)
theorem mS.mono {d:aJ}{of':List Nat}{y:Int}(k:mS d of t y) (h:of <+: of'):mS d of' t y:=by
  rcases k with k|⟨k,i,x,e,hi,ha⟩
  · exact .inl k
  · obtain⟨l,rfl⟩:=h;exact .inr ⟨k,i,x,e,by rw[List.getElem?_append_left (List.getElem?_eq_some_iff.1 hi).1];exact hi,ha⟩
def EJ (d:aJ) (of:List Nat):Prop:=∀(i j x y:Nat),of[i]? =some x->of[j]? =some y->Alike d x y->i=j
structure EF (d:aJ) (of:List Nat):Prop where
  ok:lK d.next.length of
  apart:EJ d of
theorem vU {d:aJ}(hd:d.Ok) (k:EF d of) (ht:t<d.next.length) :
    EF d (aV (ax d) (aN d (ax d)) of t).1/\mS d (aV (ax d) (aN d (ax d)) of t).1 t (aV (ax d) (aN d (ax d)) of t).2:=by
  have hdead:=dP hd ht;have hok:=jt (live:=ax d) (cls:=aN d (ax d)) k.ok ht
  revert hok
  unfold aV;split
  · rename_i h;exact fun _=>⟨k,.inl ⟨hdead.1 h,rfl⟩⟩
  · rename_i h
    have halive:∃w,0<=d.bW t w:=by
      by_cases q:∃w,0<=d.bW t w
      · exact q
      · refine absurd (hdead.2 fun w=>?_) h;have h1:=yD hd t w;have h2:¬0<=d.bW t w:=fun z=>q ⟨w,z⟩
        omega
    obtain⟨n,rfl⟩:=Int.eq_ofNat_of_zero_le (show 0<=t by omega);simp only[Int.toNat_natCast];split
    · rename_i i hi;intro _;obtain⟨_,x,hx,he⟩:=rT of 0 i _ hi;have hxl:=k.ok.lt x (List.mem_of_getElem? hx);exact⟨k,.inr ⟨halive,i,x,rfl,by simpa using hx,(eE hd (by omega) hxl).1 he⟩⟩
    · rename_i hi;intro hok;have hne:=mJ of 0 _ hi;refine⟨⟨hok,fun i j x y hx hy ha=>?_⟩,.inr ⟨halive,of.length,n,rfl,by simp,fun w=>rfl⟩⟩
      have hcase:∀(i x:Nat),(of++[n])[i]? =some x->(i<of.length/\of[i]? =some x)\/(i=of.length/\x=n):=fun i x hx=>by
        rcases Nat.lt_or_ge i of.length with hl|hl
        · rw[List.getElem?_append_left hl] at hx;exact .inl ⟨hl,hx⟩
        · have:=(List.getElem?_eq_some_iff.1 hx).1;simp at this;have hil:i=of.length:=by omega
          subst hil;simp only[List.getElem?_concat_length,Option.some.injEq] at hx;exact .inr ⟨rfl,hx.symm⟩
      rcases hcase i x hx with ⟨h1,h2⟩|⟨h1,h2⟩<;>rcases hcase j y hy with ⟨h3,h4⟩|⟨h3,h4⟩
      · exact k.apart i j x y h2 h4 ha
      · subst h4;have hxm:=List.mem_of_getElem? h2;exact absurd ((eE hd (by omega) (k.ok.lt x hxm)).2 fun w=>(ha w).symm) (hne x hxm)
      · subst h2;have hym:=List.mem_of_getElem? h4;exact absurd ((eE hd (by omega) (k.ok.lt y hym)).2 ha) (hne y hym)
      · omega
theorem qV {d:aJ}(hd:d.Ok):∀(r:List Int) (of:List Nat) (row:List Int),EF d of->(∀t∈r,t<(d.next.length:Int)) ->
    EF d (bQ (ax d) (aN d (ax d)) r of row).1/\∃ys,(bQ (ax d) (aN d (ax d)) r of row).2=row++ys/\ys.length=r.length/\∀(j:Nat) (t y:Int),r[j]? =some t->ys[j]? =some y->mS d (bQ (ax d) (aN d (ax d)) r of row).1 t y
  | [],of,row,k,_=>⟨k,[],by simp[bQ],rfl,fun j t y h=>by simp at h⟩
  |t::r,of,row,k,h=>by
    obtain⟨h1,h2⟩:=vU hd k (h t (by simp));obtain⟨k1,ys,k3,k4,k5⟩:=qV hd r (aV (ax d) (aN d (ax d)) of t).1 (row++[(aV (ax d) (aN d (ax d)) of t).2]) h1 (fun u hu=>h u (by simp[hu]));rw[bQ];refine⟨k1,(aV (ax d) (aN d (ax d)) of t).2::ys,by rw[k3];simp,by simp[k4],fun j u y hu hy=>?_⟩;cases j with
    |zero =>
      simp only[List.getElem?_cons_zero,Option.some.injEq] at hu hy;subst hu;subst hy;exact h2.mono (ju _ _ _)
    |succ j=>exact k5 j u y (by simpa using hu) (by simpa using hy)
structure sD (d:aJ) (of:List Nat) (m:aJ):Prop where
  rep:EF d of
  first:of[0]? =some 0
  rlen:m.rule.length=m.next.length
  row:∀(k:Nat) (r:Row) (x:Nat),m.next[k]? =some r->of[k]? =some x->∀(c:UInt8) (y:Int),r.v[c.toNat]? =some y->mS d of (d.to x c) y
  rule:∀(k:Nat) (y:Int) (x:Nat),m.rule[k]? =some y->of[k]? =some x->y=d.ru x
theorem vW {d:aJ}(hd:d.Ok):∀(n i:Nat) (of:List Nat) (next:List Row) (rule:List Int),sD d of ⟨next,rule⟩->next.length=i->i<=of.length->n+i=d.next.length+1 ->
    ∃of',sD d of' (mu d (ax d) (aN d (ax d)) n i of next rule)/\of'.length=(mu d (ax d) (aN d (ax d)) n i of next rule).next.length
  | 0,i,of,next,rule,h,hi,hio,hn=>by have:=h.rep.ok.len;omega
  |n+1,i,of,next,rule,h,hi,hio,hn=>by
    rw[mu];split
    · rename_i hnone;have:=List.getElem?_eq_none_iff.1 hnone;exact⟨of,h,by show of.length=next.length;omega⟩
    · rename_i x hx;have hxl:=h.rep.ok.lt x (List.mem_of_getElem? hx);obtain⟨k1,ys,k3,k4,k5⟩:=qV hd (d.row x) of [] h.rep (xz hd x);have hpre:=ju (live:=ax d) (cls:=aN d (ax d)) (d.row x) of [];rw[lp hxl] at k4;have hol:=(List.getElem?_eq_some_iff.1 hx).1;generalize bQ (ax d) (aN d (ax d)) (d.row x) of []=q at *
      have hb:∀(j y:Nat),j<of.length->q.1[j]? =some y->of[j]? =some y:=fun j y hj hy=>by
        obtain⟨t,ht⟩:=hpre;rw[<-ht,List.getElem?_append_left hj] at hy;exact hy
      have hf:∀(j y:Nat),of[j]? =some y->q.1[j]? =some y:=fun j y hy=>by
        obtain⟨t,ht⟩:=hpre;rw[<-ht,List.getElem?_append_left (List.getElem?_eq_some_iff.1 hy).1];exact hy
      have hrl:rule.length=next.length:=h.rlen
      have hlen:=hpre.length_le;refine vW hd n (i+1) _ _ _ ⟨k1,hf _ _ h.first,by simp[hrl],fun k r z hr hz c y hy=>?_,fun k y z hy hz=>?_⟩ (by simp[hi]) (by omega) (by omega)
      · rcases Nat.lt_or_ge k next.length with hk|hk
        · rw[List.getElem?_append_left hk] at hr;exact(h.row k r z hr (hb k z (by omega) hz) c y hy).mono hpre
        · have hkn:k=next.length:=by
            have:=(List.getElem?_eq_some_iff.1 hr).1;simp at this;omega
          subst hkn;simp only[List.getElem?_concat_length,Option.some.injEq] at hr;subst hr;have hzx:=hb _ z (by omega) hz;rw[hi,hx] at hzx;cases hzx;rw[k3,List.nil_append,js k4] at hy;exact k5 c.toNat _ y (jr hxl c) hy
      · rcases Nat.lt_or_ge k rule.length with hk|hk
        · rw[List.getElem?_append_left hk] at hy;exact h.rule k y z hy (hb k z (by omega) hz)
        · have hkn:k=rule.length:=by
            have:=(List.getElem?_eq_some_iff.1 hy).1;simp at this;omega
          subst hkn;simp only[List.getElem?_concat_length,Option.some.injEq] at hy;subst hy;have hzx:=hb _ z (by omega) hz;rw[hrl,hi,hx] at hzx;cases hzx;rfl
theorem zx {d:aJ}(hd:d.Ok) (hn:0<d.next.length):∃of,sD d of (fP d)/\of.length=(fP d).next.length:=by
  unfold fP;rw[if_neg (by omega)];refine vW hd _ 0 [0] [] [] ⟨⟨⟨by simp,fun x hx=>by simp at hx;omega⟩,fun i j x y hx hy _=>?_⟩,rfl,rfl,fun k r x hr=>by simp at hr,fun k y x hy=>by simp at hy⟩ rfl (by simp) (by omega);have h1:=(List.getElem?_eq_some_iff.1 hx).1;have h2:=(List.getElem?_eq_some_iff.1 hy).1;simp at h1 h2;omega
theorem sD.to {d m:aJ}{of:List Nat}(k:sD d of m) (hl:of.length=m.next.length){s x:Nat}(hx:of[s]? =some x) (c:UInt8):mS d of (d.to x c) (m.to s c):=by
  have hs:=(List.getElem?_eq_some_iff.1 hx).1;have hr:m.next[s]? =some (m.next[s]'(by omega)):=List.getElem?_eq_getElem _
  obtain⟨y,hy,he,_⟩:=(m.next[s]'(by omega)).at c;unfold aJ.to;rw[hr];simp only;rw[he];exact k.row s _ x hr hx c y hy
theorem sD.ru {d m:aJ}{of:List Nat}(k:sD d of m) (hl:of.length=m.next.length){s x:Nat}(hx:of[s]? =some x):m.ru s=d.ru x:=by
  have hs:=(List.getElem?_eq_some_iff.1 hx).1;have hlt:s<m.rule.length:=by rw[k.rlen];omega
  have hr:m.rule[s]? =some (m.rule[s]'hlt):=List.getElem?_eq_getElem _;have:=k.rule s _ x hr hx;unfold aJ.ru at this ⊢;rw[List.getD_eq_getElem?_getD,hr];exact this
theorem sD.bW {d m:aJ}{of:List Nat}(k:sD d of m) (hl:of.length=m.next.length):∀(w:By) (s x:Nat),of[s]? =some x->m.bW (s:Int) w=d.bW (x:Int) w
  | [],s,x,hx=>by rw[cJ,cJ,k.ru hl hx]
  |c::w,s,x,hx=>by
    rw[cn,cn]
    rcases k.to hl hx c with ⟨h1,h2⟩|⟨_,i,y,h2,h3,h4⟩
    · rw[h2,cW m w (by decide),h1]
    · rw[h2,k.bW hl w i y h3,h4]
theorem sD.Gi {d m:aJ}(hd:d.Ok) (k:sD d of m) (hl:of.length=m.next.length):m.Ok:=by
  refine⟨k.rlen,by have:=k.rep.ok.len;have:=hd.size;omega,fun r hr x hx=>?_,fun x hx=>?_⟩
  · obtain⟨i,hi⟩:=List.getElem?_of_mem hr;obtain⟨j,hj⟩:=List.getElem?_of_mem hx;have hil:=(List.getElem?_eq_some_iff.1 hi).1;have hjl:=(List.getElem?_eq_some_iff.1 hj).1;rw[r.len] at hjl;have hc:(UInt8.ofNat j).toNat=j:=by simp;omega
    obtain⟨y,hy⟩:∃y,of[i]? =some y:=⟨_,List.getElem?_eq_getElem (by omega)⟩
    rcases k.row i r y hi hy (UInt8.ofNat j) x (by rw[hc];exact hj) with ⟨_,rfl⟩|⟨_,a,z,rfl,h3,_⟩
    · omega
    · have:=(List.getElem?_eq_some_iff.1 h3).1;omega
  · obtain⟨i,hi⟩:=List.getElem?_of_mem hx;have hil:=(List.getElem?_eq_some_iff.1 hi).1;have:=k.rlen;obtain⟨y,hy⟩:∃y,of[i]? =some y:=⟨_,List.getElem?_eq_getElem (by omega)⟩
    rw[k.rule i x y hi hy];unfold aJ.ru;rw[List.getD_eq_getElem?_getD];cases h:d.rule[y]? with
    |none=>show -1<=(-1:Int)/\(-1:Int)<=1000000;omega
    |some v=>exact hd.ru v (List.mem_of_getElem? h)
def Trim (m:aJ):Prop:=∀(s:Nat) (c:UInt8),s<m.next.length->0<=m.to s c->∃w,0<=m.bW (m.to s c) w
theorem zw {d:aJ}(hd:d.Ok) (hn:0<d.next.length):(fP d).Ok/\0<(fP d).next.length/\(fP d).next.length<=d.next.length/\u7 (fP d) d 0 0/\Trim (fP d):=by
  obtain⟨of,k,hl⟩:=zx hd hn;have h0:=(List.getElem?_eq_some_iff.1 k.first).1;refine⟨k.Gi hd hl,by omega,by have:=k.rep.ok.len;omega,fun w=>k.bW hl w 0 0 k.first,fun s c hs h=>?_⟩;obtain⟨x,hx⟩:∃x,of[s]? =some x:=⟨_,List.getElem?_eq_getElem (by omega)⟩
  rcases k.to hl hx c with ⟨h1,h2⟩|⟨⟨w,hw⟩,i,y,h2,h3,h4⟩
  · rw[h2] at h;omega
  · exact⟨w,by rw[h2,k.bW hl w i y h3,<-h4];exact hw⟩
theorem jd.to {ss:List aH}{st0:Nat}{L:List (List Nat)}{d:aJ}(k:jd ss st0 L d) (hL:L.length=d.next.length){st:Nat}{now:List Nat}(hn:L[st]? =some now) (c:UInt8):sL L (cH ss c now) (d.to st c):=by
  have hl:=(List.getElem?_eq_some_iff.1 hn).1;have hr:d.next[st]? =some (d.next[st]'(by omega)):=List.getElem?_eq_getElem _
  obtain⟨x,hx,he,hm⟩:=(d.next[st]'(by omega)).at c;unfold aJ.to;rw[hr];simp only;rw[he];have:=k.row st _ now hr hn c.toNat x hx
  rwa [UInt8.ofNat_toNat] at this
theorem jd.ru {ss:List aH}{st0:Nat}{L:List (List Nat)}{d:aJ}(k:jd ss st0 L d) (hL:L.length=d.next.length){st:Nat}{now:List Nat}(hn:L[st]? =some now):d.ru st=cm ss now:=by
  have hl:=(List.getElem?_eq_some_iff.1 hn).1;have hlt:st<d.rule.length:=by rw[k.rlen];omega
  have hr:d.rule[st]? =some (d.rule[st]'hlt):=List.getElem?_eq_getElem _;have:=k.rule st _ now hr hn;unfold aJ.ru;rw[List.getD_eq_getElem?_getD,hr];exact this
theorem qv (ss:List aH):∀(w:By) (T:List Nat),T.length=0->(w.foldl (fun T c=>cH ss c T) T).length=0
  | [],T,h=>h
  |c::w,T,h=>qv ss w _ (by
      rw[List.length_eq_zero_iff.1 h];simp only[y7];rfl)
theorem jd.bW {ss:List aH}{st0:Nat}{L:List (List Nat)}{d:aJ}(k:jd ss st0 L d) (hL:L.length=d.next.length):∀(w:By) (s:Nat) (T:List Nat),L[s]? =some T->d.bW (s:Int) w=cm ss (w.foldl (fun T c=>cH ss c T) T)
  | [],s,T,h=>by rw[cJ,k.ru hL h];rfl
  |c::w,s,T,h=>by
    rw[cn,List.foldl_cons]
    rcases k.to hL h c with ⟨h1,h2⟩|⟨h1,i,h2,h3⟩
    · rw[h2,cW d w (by decide),List.length_eq_zero_iff.1 (qv ss w _ h1)];simp[cm,nV]
    · rw[h2,k.bW hL w i _ h3]
theorem jd.Eb {st0:Nat}{d:aJ}(k:jd ss st0 L d) (hL:L.length=d.next.length) (w:By):d.bW 0 w=cm ss (iP ss st0 w):=k.bW hL w 0 _ k.first
abbrev Pl:=List (List Bool)
def dI (rs:List dN) (a:Pl) (c:UInt8):Pl:=List.zipWith (fun r x=>eX r x c) rs a
def gv (a:Pl):Bool:=a.any iZ
def cB (rs:List dN):Pl:=rs.map mj
def dJ:Nat->List dN->Pl->Int
  |i,r::rs,x::a=>if kI r x=true then (i:Int) else dJ (i+1) rs a
  |_,_,_=> -1
def jO:Nat->List Pl->Pl->Option Nat
  |_,[],_=>none
  |i,x::r,l=>if x=l then some i else jO (i+1) r l
theorem rP:∀(ls:List Pl) (i j:Nat) (l:Pl),jO i ls l=some j->i<=j/\ls[j-i]? =some l
  | [],i,j,l,h=>by cases h
  |x::r,i,j,l,h=>by
    rw[jO] at h;split at h
    · rename_i e;cases h;subst e;exact⟨Nat.le_refl _,by simp⟩
    · have:=rP r (i+1) j l h;refine⟨by omega,?_⟩;rw[show j-i=(j-(i+1))+1 by omega,List.getElem?_cons_succ];exact this.2
def eK (rs:List dN) (cur:Pl) (ps:List Pl) (b:Nat):List Pl×Int :=
  if gv (dI rs cur (UInt8.ofNat b))=false then (ps,-1)
  else match jO 0 ps (dI rs cur (UInt8.ofNat b)) with
    |some i=>(ps,(i:Int))
    |none=>(ps++[dI rs cur (UInt8.ofNat b)],(ps.length:Int))
def gm (rs:List dN) (cur:Pl):Nat->Nat->List Pl->List Int->List Pl×List Int
  | 0,_,ps,row=>(ps,row)
  |n+1,b,ps,row=>gm rs cur n (b+1) (eK rs cur ps b).1 (row++[(eK rs cur ps b).2])
def uW (rs:List dN) (most:Nat):Nat->Nat->List Pl->List Row->List Int->Option aJ
  | 0,_,_,_,_=>none
  |n+1,k,ps,next,rule =>
    match ps[k]? with
    |none=>some ⟨next,rule⟩
    |some cur =>
      if most<(gm rs cur 256 0 ps []).1.length then none
      else uW rs most n (k+1) (gm rs cur 256 0 ps []).1 (next++[dO (gm rs cur 256 0 ps []).2]) (rule++[dJ 0 rs cur])
def ym (rs:List dN) (most:Nat):Option aJ:=uW rs most (most+2) 0 [cB rs] [] []
def mW (L:List Pl) (l:Pl) (to:Int):Prop:=(gv l=false/\to= -1)\/(gv l=true/\∃i:Nat,to=(i:Int)/\L[i]? =some l)
theorem mW.mono {L L':List Pl}{l:Pl}{to:Int}(k:mW L l to) (h:L <+: L'):mW L' l to:=by
  rcases k with k|⟨k,i,e,hi⟩
  · exact .inl k
  · obtain⟨t,rfl⟩:=h;exact .inr ⟨k,i,e,by rw[List.getElem?_append_left (List.getElem?_eq_some_iff.1 hi).1];exact hi⟩
theorem vK (rs:List dN) (cur:Pl) (ps:List Pl) (b:Nat):ps <+: (eK rs cur ps b).1/\mW (eK rs cur ps b).1 (dI rs cur (UInt8.ofNat b)) (eK rs cur ps b).2:=by
  unfold eK;split
  · rename_i h;exact⟨List.prefix_refl _,.inl ⟨h,rfl⟩⟩
  · rename_i h;have h:gv (dI rs cur (UInt8.ofNat b))=true:=by simpa using h
    split
    · rename_i i hi;exact⟨List.prefix_refl _,.inr ⟨h,i,rfl,(rP ps 0 i _ hi).2⟩⟩
    · exact⟨List.prefix_append _ _,.inr ⟨h,ps.length,rfl,by simp⟩⟩
theorem qN (rs:List dN) (cur:Pl):∀(n b:Nat) (ps:List Pl) (row:List Int),
    ps <+: (gm rs cur n b ps row).1/\∃ys,(gm rs cur n b ps row).2=row++ys/\ys.length=n/\∀(j:Nat) (y:Int),ys[j]? =some y->mW (gm rs cur n b ps row).1 (dI rs cur (UInt8.ofNat (b+j))) y
  | 0,b,ps,row=>⟨List.prefix_refl _,[],by simp[gm],rfl,fun j y h=>by simp at h⟩
  |n+1,b,ps,row=>by
    obtain⟨h1,h3⟩:=vK rs cur ps b;obtain⟨k1,ys,k3,k4,k5⟩:=qN rs cur n (b+1) (eK rs cur ps b).1 (row++[(eK rs cur ps b).2]);rw[gm];refine⟨h1.trans k1,(eK rs cur ps b).2::ys,by rw[k3];simp,by simp[k4],fun j y hy=>?_⟩;cases j with
    |zero =>
      simp only[List.getElem?_cons_zero,Option.some.injEq] at hy;subst hy;exact h3.mono k1
    |succ j =>
      rw[List.getElem?_cons_succ] at hy;have:=k5 j y hy
      rwa [show b+(j+1)=b+1+j by omega]
structure w9 (rs:List dN) (ps:List Pl) (d:aJ):Prop where
  first:ps[0]? =some (cB rs)
  rlen:d.rule.length=d.next.length
  row:∀(k:Nat) (r:Row) (l:Pl),d.next[k]? =some r->ps[k]? =some l->∀(b:Nat) (y:Int),r.v[b]? =some y->mW ps (dI rs l (UInt8.ofNat b)) y
  rule:∀(k:Nat) (x:Int) (l:Pl),d.rule[k]? =some x->ps[k]? =some l->x=dJ 0 rs l
theorem tW {rs:List dN}{most:Nat}:∀(n k:Nat) (ps:List Pl) (next:List Row) (rule:List Int) (d:aJ),w9 rs ps ⟨next,rule⟩->ps.length<=max 1 most->next.length=k->k<=ps.length->uW rs most n k ps next rule=some d->∃L,w9 rs L d/\L.length=d.next.length/\L.length<=max 1 most
  | 0,k,ps,next,rule,d,h,hm,hk,hkl,hd=>by cases hd
  |n+1,k,ps,next,rule,d,h,hm,hk,hkl,hd=>by
    rw[uW] at hd;split at hd
    · rename_i hn;cases hd;have:=List.getElem?_eq_none_iff.1 hn;exact⟨ps,h,by show ps.length=next.length;omega,hm⟩
    · rename_i cur hcur;obtain⟨h1,ys,h3,h4,h5⟩:=qN rs cur 256 0 ps [];split at hd
      · cases hd
      · rename_i hsz;have hkl2:=(List.getElem?_eq_some_iff.1 hcur).1
        have hpre:∀(i:Nat) (l:Pl),i<ps.length->(gm rs cur 256 0 ps []).1[i]? =some l->ps[i]? =some l:=fun i l hi hl=>by
          obtain⟨t,ht⟩:=h1;rw[<-ht,List.getElem?_append_left hi] at hl;exact hl
        have hpre2:∀(i:Nat) (l:Pl),ps[i]? =some l->(gm rs cur 256 0 ps []).1[i]? =some l:=fun i l hl=>by
          obtain⟨t,ht⟩:=h1;rw[<-ht,List.getElem?_append_left (List.getElem?_eq_some_iff.1 hl).1];exact hl
        have hlen:=h1.length_le;have hrl:rule.length=next.length:=h.rlen
        exact tW n (k+1) _ _ _ d ⟨hpre2 _ _ h.first,by simp[hrl],fun i r l hr hl b y hy=>by
          rcases Nat.lt_or_ge i next.length with hi|hi
          · rw[List.getElem?_append_left hi] at hr;exact(h.row i r l hr (hpre i l (by omega) hl) b y hy).mono h1
          · have hik:i=next.length:=by
              have:=(List.getElem?_eq_some_iff.1 hr).1;simp at this;omega
            subst hik;simp only[List.getElem?_concat_length,Option.some.injEq] at hr;subst hr;have hlc:=hpre _ l (by omega) hl;rw[hk,hcur] at hlc;cases hlc;rw[h3,List.nil_append,js h4] at hy;have:=h5 b y hy
            rwa [Nat.zero_add] at this,fun i x l hx hl=>by
          rcases Nat.lt_or_ge i rule.length with hi|hi
          · rw[List.getElem?_append_left hi] at hx;exact h.rule i x l hx (hpre i l (by omega) hl)
          · have hik:i=rule.length:=by
              have:=(List.getElem?_eq_some_iff.1 hx).1;simp at this;omega
            subst hik;simp only[List.getElem?_concat_length,Option.some.injEq] at hx;subst hx;have hlc:=hpre _ l (by omega) hl;rw[hrl,hk,hcur] at hlc;cases hlc;rfl⟩ (by omega) (by simp[hk]) (by omega) hd
theorem wR {rs:List dN}{most:Nat}{d:aJ}(h:ym rs most=some d):∃L,w9 rs L d/\L.length=d.next.length/\0<L.length/\L.length<=max 1 most:=by
  obtain⟨L,h1,h2,h3⟩:=tW _ 0 [cB rs] [] [] d ⟨rfl,rfl,fun k r l hr=>by simp at hr,fun k x l hx=>by simp at hx⟩ (by simp;omega) rfl (by simp) h;exact⟨L,h1,h2,(List.getElem?_eq_some_iff.1 h1.first).1,h3⟩
theorem w9.to {rs:List dN}{L:List Pl}{d:aJ}(k:w9 rs L d) (hL:L.length=d.next.length){st:Nat}{now:Pl}(hn:L[st]? =some now) (c:UInt8):mW L (dI rs now c) (d.to st c):=by
  have hl:=(List.getElem?_eq_some_iff.1 hn).1;have hr:d.next[st]? =some (d.next[st]'(by omega)):=List.getElem?_eq_getElem _
  obtain⟨x,hx,he,hm⟩:=(d.next[st]'(by omega)).at c;unfold aJ.to;rw[hr];simp only;rw[he];have:=k.row st _ now hr hn c.toNat x hx
  rwa [UInt8.ofNat_toNat] at this
theorem w9.ru {rs:List dN}{L:List Pl}{d:aJ}(k:w9 rs L d) (hL:L.length=d.next.length){st:Nat}{now:Pl}(hn:L[st]? =some now):d.ru st=dJ 0 rs now:=by
  have hl:=(List.getElem?_eq_some_iff.1 hn).1;have hlt:st<d.rule.length:=by rw[k.rlen];omega
  have hr:d.rule[st]? =some (d.rule[st]'hlt):=List.getElem?_eq_getElem _;have:=k.rule st _ now hr hn;unfold aJ.ru;rw[List.getD_eq_getElem?_getD,hr];exact this
theorem nj:∀(rs:List dN) (a:Pl) (i:Nat),-1<=dJ i rs a/\dJ i rs a<((i+rs.length:Nat):Int)
  | [],a,i=>⟨by show (-1:Int)<= -1;omega,by show (-1:Int)<_;omega⟩
  |_::_,[],i=>⟨by show (-1:Int)<= -1;omega,by show (-1:Int)<_;omega⟩
  |r::rs,x::a,i=>by
    rw[dJ];split
    · rw[List.length_cons];omega
    · have:=nj rs a (i+1);rw[List.length_cons];omega
theorem w9.ok {rs:List dN}{L:List Pl}{d:aJ}(k:w9 rs L d) (hL:L.length=d.next.length) (hs:L.length<=2000) (hr:rs.length<=1000000):d.Ok:=by
  refine⟨k.rlen,by omega,fun r hrm x hx=>?_,fun x hx=>?_⟩
  · obtain⟨i,hi⟩:=List.getElem?_of_mem hrm;obtain⟨j,hj⟩:=List.getElem?_of_mem hx;have hil:=(List.getElem?_eq_some_iff.1 hi).1;have hl:L[i]? =some (L[i]'(by omega)):=List.getElem?_eq_getElem _
    rcases k.row i r _ hi hl j x hj with ⟨_,rfl⟩|⟨_,i2,rfl,h2⟩
    · omega
    · have:=(List.getElem?_eq_some_iff.1 h2).1;omega
  · obtain⟨i,hi⟩:=List.getElem?_of_mem hx;have hil:=(List.getElem?_eq_some_iff.1 hi).1;have hl:L[i]? =some (L[i]'(by rw[hL,<-k.rlen];exact hil)):=List.getElem?_eq_getElem _;rw[k.rule i x _ hi hl];have:=nj rs (L[i]'(by rw[hL,<-k.rlen];exact hil)) 0;omega
theorem tr (r:dN) (w:By) (c:UInt8):fk r (w++[c])=eX r (fk r w) c:=by simp[fk]
def gL (rs:List dN) (w:By):Pl:=rs.map fun r=>fk r w
theorem jo (rs:List dN) (w:By) (c:UInt8):dI rs (gL rs w) c=gL rs (w++[c]):=by
  induction rs with
  |nil=>rfl
  |cons r rs ih =>
    have ih':List.zipWith (fun r x=>eX r x c) rs (rs.map fun r=>fk r w)=rs.map fun r=>fk r (w++[c]):=ih
    simp only[gL,dI,List.map_cons,List.zipWith_cons_cons,ih',tr]
theorem qL:∀(rs:List dN) (w:By) (i:Nat),dJ i rs (gL rs w)=eJ i rs w
  | [],w,i=>rfl
  |r::rs,w,i=>by
    show (if kI r (fk r w)=true then (i:Int) else dJ (i+1) rs (gL rs w))=_
    rw[eJ,qL rs w (i+1)]
theorem qP {r:dN}{n:Nat}(hr:cz r n):∀(w v:By),iZ (fk r v)=false->iZ (fk r (v++w))=false
  | [],v,h=>by simpa using h
  |c::w,v,h=>by
    have:=qP hr w (v++[c]) (by rw[tr];exact xj hr (j7 hr v) h c);simpa using this
theorem rj:∀(rs:List dN) (i:Nat) (v w:By),(∀r∈rs,∃n,cz r n)->gv (gL rs v)=false->eJ i rs (v++w)= -1
  | [],i,v,w,_,_=>rfl
  |r::rs,i,v,w,hok,h=>by
    have h:(iZ (fk r v) ||gv (gL rs v))=false:=h;rw[Bool.or_eq_false_iff] at h;obtain⟨n,hn⟩:=hok r (by simp);rw[eJ,if_neg (by rw[Bj (qP hn w v h.1)];decide)];exact rj rs (i+1) v w (fun x hx=>hok x (by simp[hx])) h.2
theorem w9.bW {rs:List dN}(hok:∀r∈rs,∃n,cz r n){L:List Pl}{d:aJ}(k:w9 rs L d) (hL:L.length=d.next.length):∀(w v:By) (s:Nat),L[s]? =some (gL rs v)->d.bW (s:Int) w=eJ 0 rs (v++w)
  | [],v,s,h=>by rw[cJ,k.ru hL h,qL,List.append_nil]
  |c::w,v,s,h=>by
    rw[cn]
    rcases k.to hL h c with ⟨h1,h2⟩|⟨h1,i,h2,h3⟩
    · rw[jo] at h1;rw[h2,cW d w (by decide)];have:=rj rs 0 (v++[c]) w hok h1;rw[List.append_assoc] at this;exact this.symm
    · rw[jo] at h3;rw[h2,k.bW hok hL w (v++[c]) i h3,List.append_assoc];rfl
end
end Go.Proofs.YtbbjkiigpdjaaaaDoor
namespace Go.Proofs.YtbbjkiigpdjaaaaDoor
open Go.Proofs.Tryd
open Go Go.Lw
set_option maxRecDepth 20000 set_option maxHeartbeats 4000000
section
variable {rs:List dN}{h:af}
def FO (h:af) (O:Nat->Prop) (cs:List Value) (x:Pl):Prop:=∃v,cs=[v]/\aP mL h O v x
def Fx:gI Pl:=⟨1,by decide,FO,fun h=>by obtain⟨v,rfl,_⟩:=h;rfl,fun h=>by
 obtain⟨v,rfl,hv⟩:=h;intro u hu;simp at hu;subst hu;exact aP.wz hv,fun h m=>by
 obtain⟨v,hc,hv⟩:=h;exact⟨v,hc,hv.mv m⟩⟩
def ij (rs:List dN) (a:Pl):Prop:=a.map List.length=rs.map fun r=>r.sets.length
theorem ij.len {a:Pl}(k:ij rs a):a.length=rs.length:=by have:=congrArg List.length k;simpa using this
theorem ij.at {rs:List dN}{a:Pl}(k:ij rs a){i:Nat}{r:dN}{x:List Bool}(hr:rs[i]? =some r) (hx:a[i]? =some x):x.length=r.sets.length:=by
 have:=congrArg (fun l=>l[i]?) k;simp only[List.getElem?_map,hr,hx,Option.map_some,Option.some.injEq] at this;exact this
theorem ij.of:∀{rs:List dN}{a:Pl},a.length=rs.length->(∀(i:Nat) (r:dN) (x:List Bool),rs[i]? =some r->a[i]? =some x->x.length=r.sets.length)->ij rs a
 | [],[],_,_=>rfl
 | [],_::_,h,_=>by simp at h
 |_::_,[],h,_=>by simp at h
 |r::rs,x::a,h,k=>by
  have h1:=ij.of (rs:=rs) (a:=a) (by simpa using h) fun i r x hr hx=>k (i+1) r x (by simpa using hr) (by simpa using hx)
  have h2:=k 0 r x rfl rfl;unfold ij at h1 ⊢;simp only[List.map_cons,h1,h2]
theorem AA (hok:zY rs):ij rs (cB rs):=ij.of (by simp[cB]) fun i r x hr hx=>by
 rw[cB,List.getElem?_map,hr] at hx;cases hx;exact mh r
theorem yC {a:Pl}{c:UInt8}{i:Nat}{r:dN}{x:List Bool}(hr:rs[i]? =some r) (hx:a[i]? =some x):(dI rs a c)[i]? =some (eX r x c):=by
 rw[dI,List.getElem?_zipWith,hr,hx]
theorem qu {a:Pl}(k:ij rs a) (c:UInt8):(dI rs a c).length=rs.length:=by
 have:=k.len;simp[dI];omega
theorem BX (hok:zY rs){a:Pl}(k:ij rs a) (c:UInt8):ij rs (dI rs a c):=ij.of (qu k c) fun i r x hr hx=>by
 obtain⟨y,hy⟩:∃y,a[i]? =some y:=⟨_,List.getElem?_eq_getElem (by have:=k.len;have:=(List.getElem?_eq_some_iff.1 hr).1;omega)⟩
 rw[yC hr hy] at hx;cases hx;obtain⟨n,hn,_⟩:=hok r (List.mem_of_getElem? hr);exact oh hn (k.at hr hy) c
theorem xq {O1 O2:Nat->Prop}{va vb:Value}{a b:Pl}(ha:aP mL h O1 va a) (hb:aP mL h O2 vb b) (ka:ij rs a) (kb:ij rs b) :
 an Tryd.prog 38 #[va,vb] h (b8 fun r h'=>r= .bool (decide (a=b))/\h'=h):=by
 obtain⟨oa,na,ca,rfl,hal⟩:=id ha.open;obtain⟨ob,nb,cb,rfl,hbl⟩:=id hb.open;have h1:=hal.len;have h2:=hbl.len;have h3:=hal.le;have hcap:=hal.cap;simp only[maxLen] at hcap;have hl:a.length=b.length:=by rw[ka.len,kb.len]
 refine cV ?_;refine aa ?_;refine fG (σ:=Nat) (fun i=>[(5,.int .i64 (i:Nat))]) (fun i h'=>i<=na/\h'=h/\a.take i=b.take i) (fun i=>na-i) (0) ⟨Nat.zero_le _,rfl,rfl⟩ rfl ?_;rintro i g ⟨hi,rfl,htk⟩ ih;refine aa ?_;refine bF (fun hlt=>?_) (fun hlt=>?_)
 · obtain⟨x,hx⟩:∃x,a[i]? =some x:=⟨_,List.getElem?_eq_getElem (by omega)⟩
   obtain⟨y,hy⟩:∃y,b[i]? =some y:=⟨_,List.getElem?_eq_getElem (by omega)⟩
   obtain⟨r,hr⟩:∃r,rs[i]? =some r:=⟨_,List.getElem?_eq_getElem (by have:=ka.len;omega)⟩
   have hxy:x.length=y.length:=by rw[ka.at hr hx,kb.at hr hy]
   obtain⟨b1,o1,cs1,ha1,_,hrow1,wx,rfl,hwx⟩:=hal.get i x hx;obtain⟨b2,o2,cs2,ha2,_,hrow2,wy,rfl,hwy⟩:=hbl.get i y hy;obtain⟨ox,nx,cx,rfl,hxl⟩:=id hwx.open;obtain⟨oy,ny,cy,rfl,hyl⟩:=id hwy.open;have g1:=hxl.len;have g2:=hyl.len;have g3:=hxl.le;have gcap:=hxl.cap;simp only[maxLen] at gcap;refine aa ?_;refine fG (σ:=Nat) (fun j=>[(6,.int .i64 (j:Nat))]) (fun j h'=>j<=nx/\h'=g/\x.take j=y.take j) (fun j=>nx-j) (0) ⟨Nat.zero_le _,rfl,rfl⟩ rfl ?_;rintro j g' ⟨hj,hg',htk2⟩ ih2;subst hg'
   iterate 2 refine bT ?_
   refine cU ?_
   iterate 3 refine aY ?_
   refine xp rfl (bK rfl rfl i rfl ha1) ?_;refine xp rfl (aE rfl (hrow1 0 _ rfl)) ?_;refine aa ?_;refine bF (fun hlt2=>?_) (fun hlt2=>?_)
   · obtain⟨c1,p1,bx,hox,_,hbx,hcx⟩:=hxl.at (show j<nx by omega);obtain⟨c2,p2,by',hoy,_,hby,hcy⟩:=hyl.at (show j<ny by omega)
     iterate 4 refine bT ?_
     refine EL ?_
     iterate 2 refine CH ?_
     refine me rfl (bK rfl rfl i rfl ha1) ?_;refine me rfl (aE rfl (hrow1 0 _ rfl)) ?_;refine CH ?_;refine me rfl (bK rfl rfl j rfl hox) ?_;refine me rfl (aE rfl hcx) ?_
     iterate 2 refine CH ?_
     refine me rfl (bK rfl rfl i rfl ha2) ?_;refine me rfl (aE rfl (hrow2 0 _ rfl)) ?_;refine CH ?_;refine me rfl (bK rfl rfl j rfl hoy) ?_;refine me rfl (aE rfl hcy) ?_;refine me rfl (av.B6 underlying4 rfl rfl) ?_;refine aa ?_;refine jX (fun hne=>?_) (fun hne=>?_)
     · have hbn:bx≠by':=by cases bx<;>cases by'<;>simp at hne ⊢
       refine aa ?_;refine bU ?_;exact⟨_,rfl,by rw[decide_eq_false (fun q=>by subst q;rw[hx] at hy;cases hy;rw[hbx] at hby;cases hby;exact hbn rfl)];rfl,rfl⟩
     · have hbb:bx=by':=by cases bx<;>cases by'<;>simp at hne ⊢
       refine aa ?_;exact ih2 (j+1) ⟨by omega,rfl,by rw[List.take_add_one,List.take_add_one,htk2,hbx,hby,hbb]⟩
   · have hee:x=y:=by
      have e1:x.take j=x:=List.take_of_length_le (by omega);have e2:y.take j=y:=List.take_of_length_le (by omega);rw[<-e1,<-e2];exact htk2
     refine aa ?_;exact ih (i+1) ⟨by omega,rfl,by rw[List.take_add_one,List.take_add_one,htk,hx,hy,hee]⟩
 · have:a=b:=by
    have e1:a.take i=a:=List.take_of_length_le (by omega);have e2:b.take i=b:=List.take_of_length_le (by omega);rw[<-e1,<-e2];exact htk
   refine aa ?_;refine bU ?_;exact⟨_,rfl,by rw[decide_eq_true this];rfl,rfl⟩
theorem zT {O:Nat->Prop}{v:Value}{a:Pl}(ha:aP mL h O v a) (hn:∀x∈a,x.length<=1000000) :
 an Tryd.prog 37 #[v] h (b8 fun r h'=>r= .bool (gv a)/\h'=h):=by
 obtain⟨oa,na,ca,rfl,hal⟩:=id ha.open;have h1:=hal.len;have h3:=hal.le;have hcap:=hal.cap;simp only[maxLen] at hcap;refine cV ?_;refine aa ?_;refine fG (σ:=Nat) (fun i=>[(3,.int .i64 (i:Nat))]) (fun i h'=>i<=na/\h'=h/\gv (a.drop i)=gv a) (fun i=>na-i) (0) ⟨Nat.zero_le _,rfl,rfl⟩ rfl ?_;rintro i g ⟨hi,rfl,hcon⟩ ih;refine aa ?_;refine bF (fun hlt=>?_) (fun hlt=>?_)
 · obtain⟨x,hx⟩:∃x,a[i]? =some x:=⟨_,List.getElem?_eq_getElem (by omega)⟩
   obtain⟨b1,o1,cs1,ha1,_,hrow1,wx,rfl,hwx⟩:=hal.get i x hx
   have hd:a.drop i=x::a.drop (i+1):=by
    obtain⟨hi',rfl⟩:=List.getElem?_eq_some_iff.1 hx;exact List.drop_eq_getElem_cons hi'
   rw[hd] at hcon;simp only[gv,List.any_cons] at hcon
   iterate 4 refine bT ?_
   refine cU ?_
   iterate 2 refine aY ?_
   refine xp rfl (bK rfl rfl i rfl ha1) ?_;refine xp rfl (aE rfl (hrow1 0 _ rfl)) ?_;refine xo rfl (bz rfl (yh hwx (hn x (List.mem_of_getElem? hx)))) ?_;rintro _ g1 ⟨rfl,hg1⟩;refine aa ?_;subst hg1;refine jX (fun hb=>?_) (fun hb=>?_)
   · rw[hb] at hcon;refine aa ?_;refine bU ?_;exact⟨_,rfl,by rw[gv,<-hcon];rfl,rfl⟩
   · rw[hb,Bool.false_or] at hcon;refine aa ?_;exact ih (i+1) ⟨by omega,rfl,hcon⟩
 · have hd:a.drop i=[]:=List.drop_of_length_le (by omega);rw[hd] at hcon;refine aa ?_;refine bU ?_;exact⟨_,rfl,by rw[<-hcon];rfl,rfl⟩
theorem xw {O1 O2:Nat->Prop}{vr v:Value}{a:Pl}(hr:aP Dt h O1 vr rs) (hok:zY rs) (ha:aP mL h O2 v a) (ka:ij rs a) :
 an Tryd.prog 39 #[vr,v] h (b8 fun r h'=>r= .int .i64 (dJ 0 rs a)/\h'=h):=by
 obtain⟨orr,nr,cr,rfl,hrl⟩:=id hr.open;obtain⟨oa,na,ca,rfl,hal⟩:=id ha.open;have h1:=hal.len;have h2:=hrl.len;have h3:=hrl.le;have hcap:=hrl.cap;simp only[maxLen] at hcap;have hl:=ka.len;refine cV ?_;refine aa ?_;refine fG (σ:=Nat) (fun i=>[(5,.int .i64 (i:Nat))]) (fun i h'=>i<=nr/\h'=h/\dJ i (rs.drop i) (a.drop i)=dJ 0 rs a) (fun i=>nr-i) (0) ⟨Nat.zero_le _,rfl,rfl⟩ rfl ?_;rintro i g ⟨hi,rfl,hcon⟩ ih;refine aa ?_;refine bF (fun hlt=>?_) (fun hlt=>?_)
 · obtain⟨r,hri⟩:∃r,rs[i]? =some r:=⟨_,List.getElem?_eq_getElem (by omega)⟩
   obtain⟨x,hx⟩:∃x,a[i]? =some x:=⟨_,List.getElem?_eq_getElem (by omega)⟩
   obtain⟨b1,o1,cs1,ha1,_,hrow1,wx,rfl,hwx⟩:=hal.get i x hx;obtain⟨b2,o2,cs2,ha2,_,hrow2,rb,rfl,hrd⟩:=hrl.get i r hri;obtain⟨n,hru,hn⟩:=hok r (List.mem_of_getElem? hri)
   have hd:a.drop i=x::a.drop (i+1):=by
    obtain⟨hi',rfl⟩:=List.getElem?_eq_some_iff.1 hx;exact List.drop_eq_getElem_cons hi'
   have hd2:rs.drop i=r::rs.drop (i+1):=by
    obtain⟨hi',rfl⟩:=List.getElem?_eq_some_iff.1 hri;exact List.drop_eq_getElem_cons hi'
   rw[hd,hd2,dJ] at hcon;refine aa ?_;refine Af 9 9 ?_;refine aS 0 ?_;refine aS 1 ?_;refine bL 2 rfl (fun h' e=>bK rfl rfl i rfl ha2) ?_;refine bL 3 rfl (fun h' e=>aE rfl (e.old (hrow2 0 _ rfl))) ?_;refine aS 4 ?_;refine aS 5 ?_;refine bL 6 rfl (fun h' e=>bK rfl rfl i rfl ha1) ?_;refine bL 7 rfl (fun h' e=>aE rfl (e.old (hrow1 0 _ rfl))) ?_;refine eZ 8 rfl (bz rfl (wF hrd hru hwx (ka.at hri hx) hn)) ?_;rintro _ g1 ⟨rfl,hg1⟩;refine⟨fun _=>by subst hg1;exact Ext.refl _ _,?_⟩;refine lg ?_;subst hg1;refine jX (fun hb=>?_) (fun hb=>?_)
   · rw[if_pos hb] at hcon;refine aa ?_;refine bU ?_;exact⟨_,rfl,by rw[<-hcon];rfl,rfl⟩
   · rw[if_neg (by rw[hb];decide)] at hcon;refine aa ?_;exact ih (i+1) ⟨by omega,rfl,hcon⟩
 · have hd:rs.drop i=[]:=List.drop_of_length_le (by omega);have h0:∀x,dJ i [] x= -1:=fun x=>by cases x<;>rfl
   rw[hd,h0] at hcon;refine aa ?_;refine bU ?_;exact⟨_,rfl,by rw[<-hcon];rfl,rfl⟩
end
end Go.Proofs.YtbbjkiigpdjaaaaDoor
namespace Go.Proofs.YtbbjkiigpdjaaaaDoor
open Go Go.Lw
set_option maxRecDepth 20000
def mV (h:af) (p:Value) (rules:List By):Prop:=∃(O:Nat->Prop) (nb:Nat) (v:Value) (ss:List aH) (st:Nat),p= .pointer (some ⟨nb,0,none⟩)/\bE h O nb v ss st/\cC rules= .inr (ss,st)
theorem mV.ah {h h':af}{p:Value}{rules:List By}(k:mV h p rules) (e:ak h h'):mV h' p rules:=by
  obtain⟨O,nb,v,ss,st,hp,hn,hm⟩:=k;exact⟨O,nb,v,ss,st,hp,hn.ah e (fun _ _ k=>k),hm⟩
def tI (rules:List By):Int:=match cC rules with|.inl e=>e|.inr _=>0
theorem zy {h:af}{lim:Nat}(hg:Sg h lim) (hlim:lim<=h.size){rv:Value}{rules:List By}(hr:aP CS h (fun _=>False) rv rules) (hrl:∀s∈rules,s.length<=1000000) :
    an Tryd.prog 16 #[rv] h (b8 fun r h'=>(∃p,r= .tuple #[p,.int .i64 (tI rules)]/\((∃e,cC rules= .inl e/\p= .pointer none)\/mV h' p rules))/\ak h h') :=
  (xH hg hlim hr hrl).ret fun r h' k=>by
    obtain⟨k1,k2⟩:=k;refine⟨?_,k2⟩;unfold tX at k1;unfold tI;cases hm:cC rules with
    |inl e=>rw[hm] at k1;exact⟨_,k1,.inl ⟨e,rfl,rfl⟩⟩
    |inr q =>
      obtain⟨ss,st⟩:=q;rw[hm] at k1;obtain⟨nb,v,h1,_,h3⟩:=k1;exact⟨_,h1,.inr ⟨_,nb,v,ss,st,rfl,h3,hm⟩⟩
theorem wh {rules:List By}{ss:List aH}{st:Nat}(k:Made rules ss st):ss.length<=1000000/\1+o8 ss (List.replicate ss.length false)<=1000000/\∀c now,List.Sublist now (List.range ss.length)->(stepG ss c now []).length+o8 ss (List.replicate ss.length false)<=1000000:=by
  have h1:=k.len;have h2:=k.tot;have h3:=AK ss (List.replicate ss.length false);refine⟨by omega,by omega,fun c now hs=>?_⟩;have:=y9 c hs;omega
theorem lits {h:af}(l:List By) (n:Nat) (hn:l.length=n) (hm:n<=maxLen):aP CS (h.push (.cells (l.map fun s=>Value.string (bs s)).toArray 9)) (fun _=>False) (.slice (some ⟨h.size,0,none⟩) n n) l :=
  aT.read (h1:=fun _=>rfl) (kW (fun s=>.string (bs s)) h 9 l n hn hm h.size (Nat.le_refl _) rfl) (fun _ _ k=>k)
end Go.Proofs.YtbbjkiigpdjaaaaDoor

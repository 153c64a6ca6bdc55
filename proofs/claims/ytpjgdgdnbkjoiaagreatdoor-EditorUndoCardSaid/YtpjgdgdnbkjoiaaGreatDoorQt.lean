/- What the proof of the statement leans on (part 20). -/
import Derived.Lib.ItoaLen
import Derived.Test.YtpjgdgdnbkjoiaaGreatDoorQs

namespace Go.Proofs.YtpjgdgdnbkjoiaaGreatDoor
open Go
section
variable {s st k:Nat}{live:List Bool}{cls:List Int}{of:List Nat}{t:Int}{ss:List bA}{tab reps:List UInt8}
def gY (l:List Int):By:=l.flatMap fun n=>Lib.itoa n++[32]
theorem tQ (u:Nat):∀c∈Lib.decDigits u,48<=c.toNat/\c.toNat<=57:=by
  induction u using Nat.strongRecOn with
  |_ u ih =>
    intro c hc;rw[Lib.decDigits] at hc;split at hc
    · rename_i h;simp at hc;subst hc;simp;omega
    · rename_i h
      rcases List.mem_append.1 hc with k|k
      · exact ih (u / 10) (by omega) c k
      · simp at k;subst k;have:u%10<10:=Nat.mod_lt _ (by decide);simp;omega
def JA (l:By):Nat:=l.foldl (fun a c=>a*10+(c.toNat-48)) 0
theorem vw (u:Nat):JA (Lib.decDigits u)=u:=by
  induction u using Nat.strongRecOn with
  |_ u ih =>
    rw[Lib.decDigits];split
    · rename_i h;simp[JA];omega
    · rename_i h;have h1:=ih (u / 10) (by omega);unfold JA at h1 ⊢;rw[List.foldl_append,h1];have:u%10<10:=Nat.mod_lt _ (by decide);simp;omega
theorem xj (n:Int):∀c∈Lib.itoa n,c≠32:=by
  intro c hc e;subst e;unfold Lib.itoa at hc;split at hc
  · rcases List.mem_cons.1 hc with k|k
    · cases k
    · have:=(tQ _ _ k).1;simp at this
  · have:=(tQ _ _ hc).1;simp at this
theorem Jg {m n:Int}(h:Lib.itoa m=Lib.itoa n):m=n:=by
  have neg:∀a b:Nat,45::Lib.decDigits a≠Lib.decDigits b:=fun a b e=>by
    have:(45:UInt8)∈Lib.decDigits b:=by rw[<-e];exact List.mem_cons_self
    have:=(tQ _ _ this).1;simp at this
  unfold Lib.itoa at h;split at h<;>split at h
  · have h:=congrArg JA (List.cons.inj h).2;rw[vw,vw] at h;omega
  · exact absurd h (neg _ _)
  · exact absurd h.symm (neg _ _)
  · have h:=congrArg JA h;rw[vw,vw] at h;omega
theorem uS:∀(a b r s:By),(∀c∈a,c≠32)->(∀c∈b,c≠32)->a++32::r=b++32::s->a=b/\r=s
  | [],[],r,s,_,_,h=>by simpa using h
  | [],d::b,r,s,_,hb,h=>by
    simp only[List.nil_append,List.cons_append,List.cons.injEq] at h;exact absurd h.1.symm (hb d List.mem_cons_self)
  |c::a,[],r,s,ha,_,h=>by
    simp only[List.nil_append,List.cons_append,List.cons.injEq] at h;exact absurd h.1 (ha c List.mem_cons_self)
  |c::a,d::b,r,s,ha,hb,h=>by
    simp only[List.cons_append,List.cons.injEq] at h;have:=uS a b r s (fun x hx=>ha x (List.mem_cons_of_mem _ hx)) (fun x hx=>hb x (List.mem_cons_of_mem _ hx)) h.2;exact⟨by rw[h.1,this.1],this.2⟩
theorem key_inj:∀{l m:List Int},gY l=gY m->l=m
  | [],[],_=>rfl
  | [],n::m,h=>by
    have:=congrArg List.length h;simp[gY] at this
  |n::l,[],h=>by
    have:=congrArg List.length h;simp[gY] at this
  |n::l,k::m,h=>by
    have h':Lib.itoa n++32::gY l=Lib.itoa k++32::gY m:=by simpa [gY] using h
    obtain⟨h1,h2⟩:=uS _ _ _ _ (xj n) (xj k) h';rw[Jg h1,key_inj h2]
theorem Bb:∀(l:List Int),(∀n∈l,-9223372036854775808<=n/\n<=9223372036854775807)->(gY l).length<=22*l.length
  | [],_=>by simp[gY]
  |n::l,h=>by
    have h1:=Bb l (fun x hx=>h x (List.mem_cons_of_mem _ hx));have hn:=h n List.mem_cons_self;have h2:=Lib.itoa_length_le n hn.1 hn.2;have e:gY (n::l)=Lib.itoa n++[32]++gY l:=rfl;have h3:(gY (n::l)).length=(Lib.itoa n).length+1+(gY l).length:=by rw[e,List.length_append,List.length_append];rfl
    rw[h3,List.length_cons];omega
theorem Jd (l:List Int) (n:Int):gY (l++[n])=gY l++Lib.itoa n++[32]:=by simp[gY]
structure Row where
  v:List Int
  len:v.length=256
structure bJ where
  next:List Row
  rule:List Int
def bJ.to (d:bJ) (s:Nat) (c:UInt8):Int:=match d.next[s]? with|some r=>r.v.getD c.toNat (-1)|none=> -1
def bJ.ru (d:bJ) (s:Nat):Int:=d.rule.getD s (-1)
structure bJ.Ok (d:bJ):Prop where
  len:d.rule.length=d.next.length
  size:d.next.length<=2000
  to:∀r∈d.next,∀x∈r.v,-1<=x/\x<d.next.length
  ru:∀x∈d.rule,-1<=x/\x<=1000000
theorem Row.at {r:Row}(c:UInt8):∃x,r.v[c.toNat]? =some x/\r.v.getD c.toNat (-1)=x/\x∈r.v:=by
  have h:=r.len;have hc:=c.toNat_lt;have hx:r.v[c.toNat]? =some (r.v[c.toNat]'(by omega)):=List.getElem?_eq_getElem (by omega);exact⟨_,hx,by rw[List.getD_eq_getElem?_getD,hx];rfl,List.getElem_mem _⟩
theorem bJ.rH {d:bJ}(k:d.Ok) (c:UInt8) : -1<=d.to s c/\d.to s c<d.next.length:=by
  unfold bJ.to;cases h:d.next[s]? with
  |none=>simp only;omega
  |some r =>
    obtain⟨x,hx,he,hm⟩:=r.at c;simp only;rw[he];exact k.to r (List.mem_of_getElem? h) x hm
def aK (d:bJ):By->Nat->Nat->Int×Int->Int×Int×Int
  | [],st,k,b=>if 0<=d.ru st then (k,d.ru st,k) else (b.1,b.2,k)
  |c::l,st,k,b =>
    if 0<=d.to st c then aK d l (d.to st c).toNat (k+1) (if 0<=d.ru st then (k,d.ru st) else b)
    else if 0<=d.ru st then (k,d.ru st,k) else (b.1,b.2,k)
def dn (d:bJ) (s:By) (a:Int):Int×Int×Int:=if d.next.length=0\/a<0\/(s.length:Int)<a then (0,-1,0) else aK d (s.drop a.toNat) 0 0 (0,-1)
def Bc (l:List Nat):By:=gY (l.map Int.ofNat)
theorem Jf {l m:List Nat}(h:Bc l=Bc m):l=m:=by
  have:=key_inj h
  have hi:∀a b:List Nat,a.map Int.ofNat=b.map Int.ofNat->a=b:=by
    intro a
    induction a with
    |nil=>intro b h;cases b with
      |nil=>rfl
      |cons y b=>simp at h
    |cons x a ih=>intro b h;cases b with
      |nil=>simp at h
      |cons y b =>
        simp only[List.map_cons,List.cons.injEq] at h;rw[ih b h.2];have:=h.1;simp only[Int.ofNat_eq_natCast] at this;rw[show x=y by omega]
  exact hi _ _ this
def qm:Nat->List (List Nat)->List Nat->Option Nat
  |_,[],_=>none
  |i,x::r,l=>if l=x then some i else qm (i+1) r l
theorem qP:∀(ls:List (List Nat)) (i j:Nat) (l:List Nat),qm i ls l=some j->i<=j/\ls[j-i]? =some l
  | [],i,j,l,h=>by cases h
  |x::r,i,j,l,h=>by
    rw[qm] at h;split at h
    · rename_i e;cases h;subst e;exact⟨Nat.le_refl _,by simp⟩
    · have:=qP r (i+1) j l h;refine⟨by omega,?_⟩;rw[show j-i=(j-(i+1))+1 by omega,List.getElem?_cons_succ];exact this.2
theorem xH:∀(ls:List (List Nat)) (i:Nat) (l:List Nat),qm i ls l=none->l∉ls
  | [],i,l,_=>List.not_mem_nil
  |x::r,i,l,h=>by
    rw[qm] at h;split at h
    · cases h
    · rename_i e;have:=xH r (i+1) l h;simp only[List.mem_cons,not_or];exact⟨e,this⟩
def dK (ss:List bA) (cur:List Nat) (lists:List (List Nat)) (b:Nat):List (List Nat)×Int :=
  if (cC ss (UInt8.ofNat b) cur).length=0 then (lists,-1)
  else match qm 0 lists (cC ss (UInt8.ofNat b) cur) with
    |some i=>(lists,(i:Int))
    |none=>(lists++[cC ss (UInt8.ofNat b) cur],(lists.length:Int))
def mF (ss:List bA) (cur:List Nat):Nat->Nat->List (List Nat)->List Int->List (List Nat)×List Int
  | 0,_,lists,row=>(lists,row)
  |n+1,b,lists,row=>mF ss cur n (b+1) (dK ss cur lists b).1 (row++[(dK ss cur lists b).2])
def kR (l:List Int):Row:=⟨(l++List.replicate 256 (-1)).take 256,by rw[List.length_take,List.length_append,List.length_replicate];omega⟩
theorem vk {l:List Int}(h:l.length=256):(kR l).v=l:=by
  unfold kR;simp only;rw[List.take_append_of_le_length (by omega),List.take_of_length_le (by omega)]
def lC (ss:List bA):Nat->Nat->List (List Nat)->List Row->List Int->Option bJ
  | 0,_,_,_,_=>none
  |n+1,k,lists,next,rule =>
    match lists[k]? with
    |none=>some ⟨next,rule⟩
    |some cur =>
      if 2000<(mF ss cur 256 0 lists []).1.length then none
      else lC ss n (k+1) (mF ss cur 256 0 lists []).1 (next++[kR (mF ss cur 256 0 lists []).2]) (rule++[bf ss cur])
def gP (ss:List bA) (st:Nat):Int ⊕ bJ :=
  if (bW ss st).length=0 then .inl 1
  else match lC ss 2002 0 [bW ss st] [] [] with
    |none=>.inl 70
    |some d=>.inr d
def bJ.row (d:bJ) (k:Nat):List Int:=match d.next[k]? with|some r=>r.v|none=>[]
def gM (out:List Bool) (t:Int):Bool:=decide (0<=t) && out.getD t.toNat false
def dI (d:bJ) (out:List Bool) (k:Nat):Bool:=decide (0<=d.ru k) ||(d.row k).any (gM out)
def bQ (d:bJ):Nat->Nat->List Bool->Bool->List Bool×Bool
  | 0,_,out,ag=>(out,ag)
  |n+1,k,out,ag=>if out.getD k false=true then bQ d n (k+1) out ag else bQ d n (k+1) (out.set k (dI d out k)) (ag ||dI d out k)
def gO (out:List Bool):Nat:=(out.filter fun b=> !b).length
def se (d:bJ):Nat->List Bool->List Bool
  | 0,out=>out
  |n+1,out=>if (bQ d d.next.length 0 out false).2=true then se d n (bQ d d.next.length 0 out false).1 else (bQ d d.next.length 0 out false).1
def bq (d:bJ):List Bool:=se d (d.next.length+1) (List.replicate d.next.length false)
theorem xL:∀(out:List Bool) (k:Nat) (b:Bool),out[k]? =some false->gO (out.set k b)+(if b then 1 else 0)=gO out
  | [],k,b,h=>by simp at h
  |x::r,0,b,h=>by simp at h;subst h;cases b<;>simp[gO]
  |x::r,k+1,b,h=>by
    have:=xL r k b (by simpa using h);unfold gO at this ⊢;rw[List.set_cons_succ];cases x<;>simp at this ⊢ <;>omega
theorem ic (d:bJ):∀(n k:Nat) (out:List Bool) (ag:Bool),(bQ d n k out ag).1.length=out.length
  | 0,_,_,_=>rfl
  |n+1,k,out,ag=>by
    rw[bQ];split
    · exact ic d n _ _ _
    · rw[ic d n];simp
theorem iS (d:bJ):∀(n k:Nat) (out:List Bool) (ag:Bool),k+n<=out.length->gO (bQ d n k out ag).1<=gO out/\((bQ d n k out ag).2=true->ag=true\/gO (bQ d n k out ag).1<gO out)
  | 0,_,out,ag,_=>⟨Nat.le_refl _,fun h=>.inl h⟩
  |n+1,k,out,ag,hk=>by
    rw[bQ];split
    · exact iS d n (k+1) out ag (by omega)
    · rename_i h
      have hf:out[k]? =some false:=by
        rw[List.getD_eq_getElem?_getD,List.getElem?_eq_getElem (by omega)] at h;rw[List.getElem?_eq_getElem (by omega)];simpa using h
      have h1:=xL out k (dI d out k) hf;have h2:=iS d n (k+1) (out.set k (dI d out k)) (ag ||dI d out k) (by simp;omega);refine⟨by omega,fun ht=>?_⟩
      rcases h2.2 ht with h3|h3
      · cases hb:dI d out k with
        |true=>rw[hb,if_pos rfl] at h1;right;rw[hb] at h2;omega
        |false=>rw[hb,Bool.or_false] at h3;exact .inl h3
      · right;omega
def kV:Nat->List (List Int)->List Int->Option Nat
  |_,[],_=>none
  |i,x::r,l=>if l=x then some i else kV (i+1) r l
theorem qQ:∀(ls:List (List Int)) (i j:Nat) (l:List Int),kV i ls l=some j->i<=j/\ls[j-i]? =some l
  | [],i,j,l,h=>by cases h
  |x::r,i,j,l,h=>by
    rw[kV] at h;split at h
    · rename_i e;cases h;subst e;exact⟨Nat.le_refl _,by simp⟩
    · have:=qQ r (i+1) j l h;refine⟨by omega,?_⟩;rw[show j-i=(j-(i+1))+1 by omega,List.getElem?_cons_succ];exact this.2
def bV (live:List Bool) (cls:List Int) (t:Int):Int:=if t<0\/live.getD t.toNat false=false then -2 else cls.getD t.toNat 0
def fE (d:bJ) (live:List Bool) (cls:List Int) (k:Nat):List Int:=cls.getD k 0::(d.row k).map (bV live cls)
def aZ (d:bJ) (live:List Bool) (cls:List Int):Nat->Nat->List (List Int)->List Int->List (List Int)×List Int
  | 0,_,seen,after=>(seen,after)
  |n+1,k,seen,after =>
    match kV 0 seen (fE d live cls k) with
    |some i=>aZ d live cls n (k+1) seen (after++[(i:Int)])
    |none=>aZ d live cls n (k+1) (seen++[fE d live cls k]) (after++[(seen.length:Int)])
def lF (d:bJ) (live:List Bool):Nat->Nat->List Int->List Int
  | 0,_,cls=>cls
  |n+1,many,cls =>
    if (aZ d live cls d.next.length 0 [] []).1.length=many then (aZ d live cls d.next.length 0 [] []).2
    else lF d live n (aZ d live cls d.next.length 0 [] []).1.length (aZ d live cls d.next.length 0 [] []).2
def dU (d:bJ) (live:List Bool):List Int:=lF d live (d.next.length+1) 0 d.rule
def j6 (m:Nat) (l:List Int):Prop:=∀i,i<m->(i:Int)∈l
theorem qX:∀(m:Nat) (l:List Int),j6 m l->m<=l.length
  | 0,_,_=>Nat.zero_le _
  |m+1,l,h=>by
    have hm:=h m (Nat.lt_succ_self m);have h1:j6 m (l.erase (m:Int)):=fun i hi=>(List.mem_erase_of_ne (by omega)).2 (h i (by omega))
    have h2:=qX m _ h1;have h3:=List.length_erase_of_mem hm;have h4:0<l.length:=List.length_pos_of_mem hm;omega
structure E3 (d:bJ) (live:List Bool) (cls:List Int) (k:Nat) (seen:List (List Int)) (after:List Int):Prop where
  len:after.length=k
  size:seen.length<=k
  nums:j6 seen.length after
  bound:∀x∈after,0<=x/\x<seen.length
  all:∀j,j<k->fE d live cls j∈seen
theorem ni {d:bJ}{live:List Bool}{cls:List Int}:∀(n k:Nat) (seen:List (List Int)) (after:List Int),E3 d live cls k seen after->E3 d live cls (k+n) (aZ d live cls n k seen after).1 (aZ d live cls n k seen after).2
  | 0,k,seen,after,h=>h
  |n+1,k,seen,after,h=>by
    rw[aZ,show k+(n+1)=(k+1)+n by omega];split
    · rename_i i hi;have hi':=qQ seen 0 i _ hi;have hil:=(List.getElem?_eq_some_iff.1 hi'.2).1
      exact ni n (k+1) _ _ ⟨by simp[h.len],by have:=h.size;omega,fun j hj=>List.mem_append_left _ (h.nums j hj),fun x hx=>by
        rcases List.mem_append.1 hx with e|e
        · exact h.bound x e
        · have:x=(i:Int):=by simpa using e
          rw[this];omega,fun j hj=>by
        by_cases e:j=k
        · subst e;exact List.mem_of_getElem? hi'.2
        · exact h.all j (by omega)⟩
    · exact ni n (k+1) _ _ ⟨by simp[h.len],by have:=h.size;simp;omega,fun j hj=>by
        simp only[List.length_append,List.length_singleton] at hj
        by_cases e:j=seen.length
        · subst e;simp
        · exact List.mem_append_left _ (h.nums j (by omega)),fun x hx=>by
        simp only[List.length_append,List.length_singleton]
        rcases List.mem_append.1 hx with e|e
        · have:=h.bound x e;omega
        · have:x=(seen.length:Int):=by simpa using e
          omega,fun j hj=>by
        by_cases e:j=k
        · subst e;simp
        · exact List.mem_append_left _ (h.all j (by omega))⟩
theorem eV (d:bJ) (live:List Bool) (cls:List Int):E3 d live cls d.next.length (aZ d live cls d.next.length 0 [] []).1 (aZ d live cls d.next.length 0 [] []).2:=by
  have:=ni (d:=d) (live:=live) (cls:=cls) d.next.length 0 [] [] ⟨rfl,Nat.le_refl _,fun i hi=>absurd hi (Nat.not_lt_zero _),fun x hx=>(by cases hx),fun j hj=>absurd hj (Nat.not_lt_zero _)⟩
  rwa [Nat.zero_add] at this
theorem oO {d:bJ}{many:Nat}(hc:j6 many cls) (hl:cls.length=d.next.length):many<=(aZ d live cls d.next.length 0 [] []).1.length:=by
  have h:=eV d live cls
  have:j6 many ((aZ d live cls d.next.length 0 [] []).1.map fun s=>s.getD 0 0):=fun i hi=>by
    obtain⟨k,hk⟩:=List.getElem?_of_mem (hc i hi);have hkl:=(List.getElem?_eq_some_iff.1 hk).1;have:=h.all k (by omega);refine List.mem_map.2 ⟨_,this,?_⟩;simp[fE,List.getD_eq_getElem?_getD,hk]
  have:=qX _ _ this;simpa using this
def qo (cls:List Int):Nat->List Nat->Int->Option Nat
  |_,[],_=>none
  |i,x::r,c=>if c=cls.getD x 0 then some i else qo cls (i+1) r c
theorem xK {cls:List Int}:∀(of:List Nat) (i j:Nat) (c:Int),qo cls i of c=some j->i<=j/\∃x,of[j-i]? =some x/\c=cls.getD x 0
  | [],i,j,c,h=>by cases h
  |x::r,i,j,c,h=>by
    rw[qo] at h;split at h
    · rename_i e;cases h;exact⟨Nat.le_refl _,x,by simp,e⟩
    · obtain⟨h1,y,h2,h3⟩:=xK r (i+1) j c h;refine⟨by omega,y,?_,h3⟩;rw[show j-i=(j-(i+1))+1 by omega,List.getElem?_cons_succ];exact h2
theorem qR {cls:List Int}:∀(of:List Nat) (i:Nat) (c:Int),qo cls i of c=none->∀x∈of,c≠cls.getD x 0
  | [],i,c,h,x,hx=>by cases hx
  |y::r,i,c,h,x,hx=>by
    rw[qo] at h;split at h
    · cases h
    · rename_i hn
      rcases List.mem_cons.1 hx with e|e
      · subst e;exact hn
      · exact qR r (i+1) c h x e
def cI (live:List Bool) (cls:List Int) (of:List Nat) (t:Int):List Nat×Int :=
  if t<0\/live.getD t.toNat false=false then (of,-1) else
    match qo cls 0 of (cls.getD t.toNat 0) with
    |some i=>(of,(i:Int))
    |none=>(of++[t.toNat],(of.length:Int))
def fY (live:List Bool) (cls:List Int):List Int->List Nat->List Int->List Nat×List Int
  | [],of,row=>(of,row)
  |t::r,of,row=>fY live cls r (cI live cls of t).1 (row++[(cI live cls of t).2])
def Cr (d:bJ) (live:List Bool) (cls:List Int):Nat->Nat->List Nat->List Row->List Int->bJ
  | 0,_,_,next,rule=>⟨next,rule⟩
  |n+1,i,of,next,rule =>
    match of[i]? with
    |none=>⟨next,rule⟩
    |some k=>Cr d live cls n (i+1) (fY live cls (d.row k) of []).1 (next++[kR (fY live cls (d.row k) of []).2]) (rule++[d.ru k])
def lT (d:bJ):bJ:=if d.next.length=0 then ⟨[],[]⟩ else Cr d (bq d) (dU d (bq d)) (d.next.length+1) 0 [0] [] []
structure Dt (n:Nat) (of:List Nat):Prop where
  once:of.Nodup
  lt:∀x∈of,x<n
theorem Ci:∀(n:Nat) (l:List Nat),l.Nodup->(∀x∈l,x<n)->l.length<=n
  | 0,[],_,_=>Nat.le_refl _
  | 0,x::l,_,h=>absurd (h x (by simp)) (Nat.not_lt_zero _)
  |n+1,l,hl,h=>by
    have h1:=Ci n (l.erase n) (hl.erase n) (fun x hx=>by
      have:=(hl.mem_erase_iff).1 hx;have:=h x this.2;omega)
    by_cases hn:n∈l
    · have:=List.length_erase_of_mem hn;omega
    · rw[List.erase_of_not_mem hn] at h1;omega
theorem Dt.len {n:Nat}(k:Dt n of):of.length<=n:=Ci n of k.once k.lt
theorem wG {n:Nat}(k:Dt n of) (ht:t<n):Dt n (cI live cls of t).1:=by
  unfold cI;split
  · exact k
  · rename_i hn;split
    · exact k
    · rename_i hf;have hne:=qR of 0 _ hf;refine⟨List.nodup_append.2 ⟨k.once,by simp,fun a ha b hb e=>?_⟩,fun x hx=>?_⟩
      · have:b=t.toNat:=by simpa using hb
        subst e;subst this;exact hne _ ha rfl
      · rcases List.mem_append.1 hx with e|e
        · exact k.lt x e
        · have:x=t.toNat:=by simpa using e
          omega
theorem Ef:of.length<=(cI live cls of t).1.length/\∀(i x:Nat),of[i]? =some x->(cI live cls of t).1[i]? =some x:=by
  unfold cI;split
  · exact⟨Nat.le_refl _,fun _ _ h=>h⟩
  · split
    · exact⟨Nat.le_refl _,fun _ _ h=>h⟩
    · exact⟨by simp,fun i x h=>by rw[List.getElem?_append_left (List.getElem?_eq_some_iff.1 h).1];exact h⟩
def yF (L:List (List Nat)) (l:List Nat) (to:Int):Prop:=(l.length=0/\to= -1)\/(l.length≠0/\∃i:Nat,to=(i:Int)/\L[i]? =some l)
theorem yF.mono {L L':List (List Nat)}{l:List Nat}{to:Int}(k:yF L l to) (h:L <+: L'):yF L' l to:=by
  rcases k with k|⟨k,i,e,hi⟩
  · exact .inl k
  · obtain⟨t,rfl⟩:=h;exact .inr ⟨k,i,e,by rw[List.getElem?_append_left (List.getElem?_eq_some_iff.1 hi).1];exact hi⟩
theorem AM (ss:List bA) (cur:List Nat) (lists:List (List Nat)) (b:Nat) (hn:lists.Nodup) :
    lists <+: (dK ss cur lists b).1/\(dK ss cur lists b).1.Nodup/\yF (dK ss cur lists b).1 (cC ss (UInt8.ofNat b) cur) (dK ss cur lists b).2:=by
  unfold dK;split
  · rename_i h;exact⟨List.prefix_refl _,hn,.inl ⟨h,rfl⟩⟩
  · rename_i h;split
    · rename_i i hi;exact⟨List.prefix_refl _,hn,.inr ⟨h,i,rfl,(qP lists 0 i _ hi).2⟩⟩
    · rename_i hi;refine⟨List.prefix_append _ _,List.nodup_append.2 ⟨hn,by simp,fun x hx y hy e=>?_⟩,.inr ⟨h,lists.length,rfl,by simp⟩⟩;have:y=cC ss (UInt8.ofNat b) cur:=by simpa using hy
      exact xH lists 0 _ hi (by rw[<-this,<-e];exact hx)
theorem tA (ss:List bA) (cur:List Nat):∀(n b:Nat) (lists:List (List Nat)) (row:List Int),lists.Nodup ->
    lists <+: (mF ss cur n b lists row).1/\(mF ss cur n b lists row).1.Nodup/\∃ys,(mF ss cur n b lists row).2=row++ys/\ys.length=n/\∀(j:Nat) (y:Int),ys[j]? =some y->yF (mF ss cur n b lists row).1 (cC ss (UInt8.ofNat (b+j)) cur) y
  | 0,b,lists,row,hn=>⟨List.prefix_refl _,hn,[],by simp[mF],rfl,fun j y h=>by simp at h⟩
  |n+1,b,lists,row,hn=>by
    obtain⟨h1,h2,h3⟩:=AM ss cur lists b hn;obtain⟨k1,k2,ys,k3,k4,k5⟩:=tA ss cur n (b+1) (dK ss cur lists b).1 (row++[(dK ss cur lists b).2]) h2;rw[mF];refine⟨h1.trans k1,k2,(dK ss cur lists b).2::ys,by rw[k3];simp,by simp[k4],fun j y hy=>?_⟩;cases j with
    |zero =>
      simp only[List.getElem?_cons_zero,Option.some.injEq] at hy;subst hy;exact h3.mono k1
    |succ j =>
      rw[List.getElem?_cons_succ] at hy;have:=k5 j y hy
      rwa [show b+(j+1)=b+1+j by omega]
structure o8 (ss:List bA) (st:Nat) (lists:List (List Nat)) (d:bJ):Prop where
  first:lists[0]? =some (bW ss st)
  once:lists.Nodup
  size:lists.length<=2000
  rlen:d.rule.length=d.next.length
  row:∀(k:Nat) (r:Row) (l:List Nat),d.next[k]? =some r->lists[k]? =some l->∀(b:Nat) (y:Int),r.v[b]? =some y->yF lists (cC ss (UInt8.ofNat b) l) y
  rule:∀(k:Nat) (x:Int) (l:List Nat),d.rule[k]? =some x->lists[k]? =some l->x=bf ss l
theorem uL {ss:List bA}{st:Nat}:∀(n k:Nat) (lists:List (List Nat)) (next:List Row) (rule:List Int) (d:bJ),o8 ss st lists ⟨next,rule⟩->next.length=k->k<=lists.length->lC ss n k lists next rule=some d->∃L,lists <+: L/\o8 ss st L d/\L.length=d.next.length
  | 0,k,lists,next,rule,d,h,hk,hkl,hd=>by cases hd
  |n+1,k,lists,next,rule,d,h,hk,hkl,hd=>by
    rw[lC] at hd;split at hd
    · rename_i hn;cases hd;have:=List.getElem?_eq_none_iff.1 hn;exact⟨lists,List.prefix_refl _,h,by show lists.length=next.length;omega⟩
    · rename_i cur hcur;obtain⟨h1,h2,ys,h3,h4,h5⟩:=tA ss cur 256 0 lists [] h.once;split at hd
      · cases hd
      · rename_i hsz;have hkl2:=(List.getElem?_eq_some_iff.1 hcur).1
        have hpre:∀(i:Nat) (l:List Nat),i<lists.length->(mF ss cur 256 0 lists []).1[i]? =some l->lists[i]? =some l:=fun i l hi hl=>by
          obtain⟨t,ht⟩:=h1;rw[<-ht,List.getElem?_append_left hi] at hl;exact hl
        have hpre2:∀(i:Nat) (l:List Nat),lists[i]? =some l->(mF ss cur 256 0 lists []).1[i]? =some l:=fun i l hl=>by
          obtain⟨t,ht⟩:=h1;rw[<-ht,List.getElem?_append_left (List.getElem?_eq_some_iff.1 hl).1];exact hl
        have hlen:=h1.length_le;have hrl:rule.length=next.length:=h.rlen
        obtain⟨L,g1,g2,g3⟩:=uL (st:=st) n (k+1) _ _ _ d ⟨hpre2 _ _ h.first,h2,by omega,by simp[hrl],fun i r l hr hl b y hy=>by
          rcases Nat.lt_or_ge i next.length with hi|hi
          · rw[List.getElem?_append_left hi] at hr;exact(h.row i r l hr (hpre i l (by omega) hl) b y hy).mono h1
          · have hik:i=next.length:=by
              have:=(List.getElem?_eq_some_iff.1 hr).1;simp at this;omega
            subst hik;simp only[List.getElem?_concat_length,Option.some.injEq] at hr;subst hr;have hlc:=hpre _ l (by omega) hl;rw[hk] at hlc;rw[hcur] at hlc;cases hlc;rw[h3,List.nil_append,vk h4] at hy;have:=h5 b y hy
            rwa [Nat.zero_add] at this,fun i x l hx hl=>by
          rcases Nat.lt_or_ge i rule.length with hi|hi
          · rw[List.getElem?_append_left hi] at hx;exact h.rule i x l hx (hpre i l (by omega) hl)
          · have hik:i=rule.length:=by
              have:=(List.getElem?_eq_some_iff.1 hx).1;simp at this;omega
            subst hik;simp only[List.getElem?_concat_length,Option.some.injEq] at hx;subst hx;have hlc:=hpre _ l (by omega) hl;rw[hrl,hk,hcur] at hlc;cases hlc;rfl⟩ (by simp[hk]) (by omega) hd
        exact⟨L,h1.trans g1,g2,g3⟩
theorem yx {ss:List bA}(hr:∀x∈ss,x.rule<=1000000):∀(l:List Nat) (b:Int),-1<=b/\b<=1000000-> -1<=sZ ss l b/\sZ ss l b<=1000000
  | [],b,h=>h
  |j::r,b,h=>by
    rw[sZ];refine yx hr r _ ?_;split
    · rename_i x hx;split
      · have:=hr x (List.mem_of_getElem? hx);omega
      · exact h
    · exact h
theorem yu (hr:∀x∈ss,x.rule<=1000000) (l:List Nat) : -1<=bf ss l/\bf ss l<=1000000:=by
  unfold bf;split
  · omega
  · exact yx hr l (-1) (by omega)
theorem o8.ok {L:List (List Nat)}{d:bJ}(k:o8 ss st L d) (hL:L.length=d.next.length) (hr:∀x∈ss,x.rule<=1000000):d.Ok:=by
  refine⟨k.rlen,by rw[<-hL];exact k.size,fun r hrm x hx=>?_,fun x hx=>?_⟩
  · obtain⟨i,hi⟩:=List.getElem?_of_mem hrm;obtain⟨j,hj⟩:=List.getElem?_of_mem hx;have hil:=(List.getElem?_eq_some_iff.1 hi).1;have hl:L[i]? =some (L[i]'(by omega)):=List.getElem?_eq_getElem _
    rcases k.row i r _ hi hl j x hj with ⟨_,rfl⟩|⟨_,i2,rfl,h2⟩
    · omega
    · have:=(List.getElem?_eq_some_iff.1 h2).1;omega
  · obtain⟨i,hi⟩:=List.getElem?_of_mem hx;have hil:=(List.getElem?_eq_some_iff.1 hi).1;have hl:L[i]? =some (L[i]'(by rw[hL,<-k.rlen];exact hil)):=List.getElem?_eq_getElem _;rw[k.rule i x _ hi hl];exact yu hr _
theorem jz {d:bJ}(h:gP ss st= .inr d):(bW ss st).length≠0/\∃L,o8 ss st L d/\L.length=d.next.length/\0<L.length:=by
  unfold gP at h;split at h
  · cases h
  · rename_i hs;refine⟨hs,?_⟩;split at h
    · cases h
    · rename_i d' hd;cases h;obtain⟨L,h1,h2,h3⟩:=uL (st:=st) 2002 0 [bW ss st] [] [] d ⟨rfl,by simp,by simp,rfl,fun k r l hr=>by simp at hr,fun k x l hx=>by simp at hx⟩ rfl (by simp) hd;exact⟨L,h2,h3,by have:=(List.getElem?_eq_some_iff.1 h2.first).1;omega⟩
theorem Hg {d:bJ}(h:gP ss st= .inr d) (hr:∀x∈ss,x.rule<=1000000):d.Ok:=by
  obtain⟨_,L,h1,h2,_⟩:=jz h;exact h1.ok h2 hr
def bJ.go (d:bJ):By->Int->Int
  | [],s=>s
  |c::l,s=>bJ.go d l (if s<0 then -1 else d.to s.toNat c)
def bJ.fX (d:bJ) (s:Int) (w:By):Int:=if d.go w s<0 then -1 else d.ru (d.go w s).toNat
theorem go_neg (d:bJ):∀(w:By) (s:Int),s<0->d.go w s<0
  | [],s,h=>h
  |c::l,s,h=>by
    rw[bJ.go,if_pos h];exact go_neg d l (-1) (by decide)
theorem lO (d:bJ) (w:By){s:Int}(h:s<0):d.fX s w= -1:=by rw[bJ.fX,if_pos (go_neg d w s h)]
theorem dQ (d:bJ) (k:Nat):d.fX (k:Int) []=d.ru k:=by
  rw[bJ.fX,bJ.go,if_neg (by omega),Int.toNat_natCast]
theorem dZ (d:bJ) (k:Nat) (c:UInt8) (w:By):d.fX (k:Int) (c::w)=d.fX (d.to k c) w:=by
  have h:¬((k:Int)<0):=by omega
  rw[bJ.fX,bJ.fX,bJ.go,if_neg h,Int.toNat_natCast]
def Kf (d:bJ) (k:Nat):Prop:=∃w,0<=d.fX (k:Int) w
def iL (d:bJ) (out:List Bool):Prop:=∀k:Nat,out.getD k false=true->Kf d k
theorem Is {d:bJ}(h:t∈d.row k):∃c:UInt8,d.to k c=t:=by
  unfold bJ.row at h;split at h
  · rename_i r hr;obtain⟨i,hi⟩:=List.getElem?_of_mem h;have hl:=(List.getElem?_eq_some_iff.1 hi).1;rw[r.len] at hl;refine⟨UInt8.ofNat i,?_⟩;have hc:(UInt8.ofNat i).toNat=i:=by simp;omega
    unfold bJ.to;rw[hr];simp only;rw[hc,List.getD_eq_getElem?_getD,hi];rfl
  · cases h
theorem Mq {d:bJ}(c:UInt8) (h:k<d.next.length):d.to k c∈d.row k:=by
  have hr:d.next[k]? =some (d.next[k]'h):=List.getElem?_eq_getElem _
  obtain⟨x,hx,he,hm⟩:=(d.next[k]'h).at c;unfold bJ.to bJ.row;rw[hr];simp only;rw[he];exact hm
theorem A6 {d:bJ}{out:List Bool}(h:iL d out) (k:Nat) (ha:dI d out k=true):Kf d k:=by
  unfold dI at ha
  rcases Bool.or_eq_true _ _▸ha with e|e
  · exact⟨[],by rw[dQ];exact of_decide_eq_true e⟩
  · obtain⟨t,ht,hl⟩:=List.any_eq_true.1 e;unfold gM at hl;rw[Bool.and_eq_true] at hl;have h0:=of_decide_eq_true hl.1;obtain⟨c,hc⟩:=Is ht;obtain⟨w,hw⟩:=h t.toNat hl.2;refine⟨c::w,?_⟩;rw[dZ,hc]
    rwa [Int.toNat_of_nonneg h0] at hw
theorem Gu {d:bJ}{out:List Bool}(h:iL d out) (k:Nat):iL d (out.set k (dI d out k)):=by
  intro j hj
  by_cases e:k=j
  · subst e;rw[List.getD_eq_getElem?_getD] at hj
    by_cases hk:k<out.length
    · rw[List.getElem?_set_self hk] at hj;exact A6 h k hj
    · rw[List.getElem?_eq_none (by simp;omega)] at hj;cases hj
  · rw[List.getD_eq_getElem?_getD,List.getElem?_set_ne e,<-List.getD_eq_getElem?_getD] at hj;exact h j hj
theorem jR {d:bJ}:∀(n k:Nat) (out:List Bool) (ag:Bool),iL d out->iL d (bQ d n k out ag).1
  | 0,_,_,_,h=>h
  |n+1,k,out,ag,h=>by
    rw[bQ];split
    · exact jR n (k+1) out ag h
    · exact jR n (k+1) _ _ (Gu h k)
theorem jQ {d:bJ}:∀(n k:Nat) (out:List Bool) (ag:Bool),k+n<=out.length->(bQ d n k out ag).2=false->(bQ d n k out ag).1=out/\∀j,k<=j->j<k+n->out.getD j false=false->dI d out j=false
  | 0,_,_,_,_,_=>⟨rfl,fun j h1 h2=>by omega⟩
  |n+1,k,out,ag,hk,h=>by
    rw[bQ] at h ⊢;split at h
    · rename_i hg;rw[if_pos hg];obtain⟨h1,h2⟩:=jQ n (k+1) out ag (by omega) h
      exact⟨h1,fun j hj1 hj2 hj3=>by
        by_cases e:j=k
        · subst e;rw[hg] at hj3;cases hj3
        · exact h2 j (by omega) (by omega) hj3⟩
    · rename_i hg;rw[if_neg hg]
      have hf:out[k]? =some false:=by
        rw[List.getD_eq_getElem?_getD,List.getElem?_eq_getElem (by omega)] at hg;rw[List.getElem?_eq_getElem (by omega)];simpa using hg
      obtain⟨h1,h2⟩:=jQ n (k+1) _ _ (by simp;omega) h
      have hb:dI d out k=false:=by
        cases hb:dI d out k with
        |false=>rfl
        |true =>
          exfalso;rw[hb,Bool.or_true] at h
          have hmono:∀(n k:Nat) (out:List Bool),(bQ d n k out true).2=true:=fun n=>by
            induction n with
            |zero=>intro k out;rfl
            |succ n ih=>intro k out;rw[bQ];split<;>simp[ih]
          rw[hmono] at h;cases h
      have hset:out.set k (dI d out k)=out:=by
        rw[hb]
        apply List.ext_getElem?
        intro j
        by_cases e:k=j
        · subst e;rw[List.getElem?_set_self (by omega),hf]
        · rw[List.getElem?_set_ne e]
      rw[hset] at h1 h2;rw[hset]
      exact⟨h1,fun j hj1 hj2 hj3=>by
        by_cases e:j=k
        · subst e;exact hb
        · exact h2 j (by omega) (by omega) hj3⟩
def yE (d:bJ) (out:List Bool):Prop:=∀k,k<d.next.length->out.getD k false=false->dI d out k=false
theorem wP {d:bJ}:∀(n:Nat) (out:List Bool),out.length=d.next.length->gO out<n->iL d out->iL d (se d n out)/\yE d (se d n out)
  | 0,_,_,h,_=>absurd h (Nat.not_lt_zero _)
  |n+1,out,hl,hf,hs=>by
    have hless:=iS d d.next.length 0 out false (by omega)
    have hsp:=jR d.next.length 0 out false hs
    rw[se];split
    · rename_i ht
      rcases hless.2 ht with e|e
      · cases e
      · exact wP n _ (by rw[ic];exact hl) (by omega) hsp
    · rename_i ht;have hst:=jQ d.next.length 0 out false (by omega) (by simpa using ht)
      rw[hst.1];exact⟨hs,fun k hk hko=>hst.2 k (Nat.zero_le _) (by omega) hko⟩
theorem sN {d:bJ}{out:List Bool}(hok:d.Ok) (h:yE d out):∀(w:By) (k:Nat),k<d.next.length->0<=d.fX (k:Int) w->out.getD k false=true
  | [],k,hk,hw=>by
    rw[dQ] at hw;cases ho:out.getD k false with
    |true=>rfl
    |false =>
      have:=h k hk ho;unfold dI at this;rw[decide_eq_true hw] at this;cases this
  |c::w,k,hk,hw=>by
    rw[dZ] at hw;have ht:=bJ.rH hok (s:=k) c
    have h0:0<=d.to k c:=by
      by_cases e:d.to k c<0
      · rw[lO d w e] at hw;omega
      · omega
    obtain⟨t,htt⟩:=Int.eq_ofNat_of_zero_le h0;rw[htt] at hw;have ih:=sN hok h w t (by omega) hw;cases ho:out.getD k false with
    |true=>rfl
    |false =>
      have:=h k hk ho;unfold dI at this;rw[Bool.or_eq_false_iff] at this;have h2:=List.any_eq_false.1 this.2 _ (Mq c hk);unfold gM at h2;rw[htt,Int.toNat_natCast,ih] at h2;simp at h2
theorem wO {d:bJ}(hok:d.Ok) (hk:k<d.next.length):(bq d).getD k false=true↔Kf d k:=by
  have h:=wP (d:=d) (d.next.length+1) (List.replicate d.next.length false) (by simp) (by
    have:gO (List.replicate d.next.length false)<=d.next.length:=by unfold gO;exact Nat.le_trans (List.length_filter_le _ _) (by simp)
    omega) (fun k hk=>by
      rw[List.getD_eq_getElem?_getD,List.getElem?_replicate] at hk;split at hk<;>cases hk)
  exact⟨h.1 k,fun⟨w,hw⟩=>sN hok h.2 w k hk hw⟩
structure F1 (d:bJ) (live:List Bool) (cls:List Int) (k:Nat) (seen:List (List Int)) (after:List Int):Prop where
  len:after.length=k
  once:seen.Nodup
  at_:∀j,j<k->∃i:Nat,after[j]? =some (i:Int)/\seen[i]? =some (fE d live cls j)
theorem xJ:∀(ls:List (List Int)) (i:Nat) (l:List Int),kV i ls l=none->l∉ls
  | [],i,l,_=>List.not_mem_nil
  |x::r,i,l,h=>by
    rw[kV] at h;split at h
    · cases h
    · rename_i e;have:=xJ r (i+1) l h;simp only[List.mem_cons,not_or];exact⟨e,this⟩
theorem lD {d:bJ}{live:List Bool}{cls:List Int}:∀(n k:Nat) (seen:List (List Int)) (after:List Int),F1 d live cls k seen after->F1 d live cls (k+n) (aZ d live cls n k seen after).1 (aZ d live cls n k seen after).2
  | 0,k,seen,after,h=>h
  |n+1,k,seen,after,h=>by
    rw[aZ,show k+(n+1)=(k+1)+n by omega];split
    · rename_i i hi;have hi':=qQ seen 0 i _ hi;refine lD n (k+1) _ _ ⟨by simp[h.len],h.once,fun j hj=>?_⟩
      by_cases e:j=k
      · subst e;refine⟨i,?_,hi'.2⟩;rw[<-h.len,List.getElem?_concat_length]
      · obtain⟨i',h1,h2⟩:=h.at_ j (by omega);exact⟨i',by rw[List.getElem?_append_left (by rw[h.len];omega)];exact h1,h2⟩
    · rename_i hi;have hno:=xJ seen 0 _ hi;refine lD n (k+1) _ _ ⟨by simp[h.len],List.nodup_append.2 ⟨h.once,by simp,fun a ha b hb e=>?_⟩,fun j hj=>?_⟩
      · have:b=fE d live cls k:=by simpa using hb
        rw[e,this] at ha;exact hno ha
      · by_cases e:j=k
        · subst e;refine⟨seen.length,?_,by rw[List.getElem?_concat_length]⟩;rw[<-h.len,List.getElem?_concat_length]
        · obtain⟨i',h1,h2⟩:=h.at_ j (by omega);exact⟨i',by rw[List.getElem?_append_left (by rw[h.len];omega)];exact h1,by rw[List.getElem?_append_left (List.getElem?_eq_some_iff.1 h2).1];exact h2⟩
theorem lE {d:bJ}{t:Nat}(hs:s<d.next.length) (ht:t<d.next.length) :
    (aZ d live cls d.next.length 0 [] []).2.getD s 0=(aZ d live cls d.next.length 0 [] []).2.getD t 0↔fE d live cls s=fE d live cls t:=by
  have h:=lD (d:=d) (live:=live) (cls:=cls) d.next.length 0 [] [] ⟨rfl,by simp,fun j hj=>absurd hj (Nat.not_lt_zero _)⟩
  rw[Nat.zero_add] at h;obtain⟨i,h1,h2⟩:=h.at_ s hs;obtain⟨j,h3,h4⟩:=h.at_ t ht;rw[List.getD_eq_getElem?_getD,List.getD_eq_getElem?_getD,h1,h3];constructor
  · intro e
    have:i=j:=by
      have e':(i:Int)=(j:Int):=e;omega
    subst this;rw[h2] at h4;exact Option.some.inj h4
  · intro e;rw[<-e] at h4;have hi:=(List.getElem?_eq_some_iff.1 h2)
    have hj:=(List.getElem?_eq_some_iff.1 h4)
    obtain⟨hi1,hi2⟩:=hi;obtain⟨hj1,hj2⟩:=hj
    have:i=j:=by
      rcases Nat.lt_trichotomy i j with e|e|e
      · exact absurd (hi2.trans hj2.symm) (List.pairwise_iff_getElem.1 h.once i j hi1 hj1 e)
      · exact e
      · exact absurd (hj2.trans hi2.symm) (List.pairwise_iff_getElem.1 h.once j i hj1 hi1 e)
    subst this;rfl
theorem uO:∀(m:Nat) (l:List Int),j6 m l->l.length=m->l.Nodup
  | 0,l,_,hl=>by rw[List.length_eq_zero_iff.1 hl];exact List.Pairwise.nil
  |m+1,l,h,hl=>by
    have hm:=h m (Nat.lt_succ_self m);have h1:j6 m (l.erase (m:Int)):=fun i hi=>(List.mem_erase_of_ne (by omega)).2 (h i (by omega))
    have h3:=List.length_erase_of_mem hm;have h2:=uO m _ h1 (by omega)
    have hno:(m:Int)∉l.erase (m:Int):=fun hin=>by
      have h4:j6 m ((l.erase (m:Int)).erase (m:Int)):=fun i hi=>(List.mem_erase_of_ne (by omega)).2 (h1 i hi)
      have h5:=qX _ _ h4;have h6:=List.length_erase_of_mem hin;have h7:=List.length_pos_of_mem hin;omega
    exact(List.perm_cons_erase hm).nodup_iff.2 (List.nodup_cons.2 ⟨hno,h2⟩)
theorem rV {d:bJ}(hs:s<d.next.length) (c:UInt8):(d.row s)[c.toNat]? =some (d.to s c):=by
  have hr:d.next[s]? =some (d.next[s]'hs):=List.getElem?_eq_getElem _
  obtain⟨x,hx,he,_⟩:=(d.next[s]'hs).at c;unfold bJ.row bJ.to;rw[hr];simp only;rw[he];exact hx
theorem AK {d:bJ}(hs:s<d.next.length):(d.row s).length=256:=by
  have hr:d.next[s]? =some (d.next[s]'hs):=List.getElem?_eq_getElem _
  unfold bJ.row;rw[hr];exact(d.next[s]'hs).len
theorem Fq {d:bJ}{t:Nat}(hs:s<d.next.length) (ht:t<d.next.length) (f:Int->Int):(d.row s).map f=(d.row t).map f↔∀c:UInt8,f (d.to s c)=f (d.to t c):=by
  constructor
  · intro e c;have:=congrArg (fun l=>l[c.toNat]?) e;simp only[List.getElem?_map,rV hs c,rV ht c,Option.map_some,Option.some.injEq] at this;exact this
  · intro h
    apply List.ext_getElem?
    intro i
    by_cases hi:i<256
    · have hc:(UInt8.ofNat i).toNat=i:=by simp;omega
      have h1:=rV hs (UInt8.ofNat i);have h2:=rV ht (UInt8.ofNat i);rw[hc] at h1 h2;rw[List.getElem?_map,List.getElem?_map,h1,h2,Option.map_some,Option.map_some,h]
    · rw[List.getElem?_eq_none (by rw[List.length_map,AK hs];omega),List.getElem?_eq_none (by rw[List.length_map,AK ht];omega)]
def Alike (d:bJ) (a b:Int):Prop:=∀w,d.fX a w=d.fX b w
theorem Fl {d:bJ}(hok:d.Ok) (a:Int) (w:By) : -1<=d.fX a w:=by
  unfold bJ.fX;split
  · omega
  · unfold bJ.ru;rw[List.getD_eq_getElem?_getD];cases h:d.rule[(d.go w a).toNat]? with
    |none=>decide
    |some x=>exact(hok.ru x (List.mem_of_getElem? h)).1
theorem jX {d:bJ}(hok:d.Ok){a:Int}(ha:a<d.next.length):(a<0\/(bq d).getD a.toNat false=false)↔∀w,d.fX a w= -1:=by
  constructor
  · intro h w
    rcases h with h|h
    · exact lO d w h
    · by_cases hn:a<0
      · exact lO d w hn
      · obtain⟨k,rfl⟩:=Int.eq_ofNat_of_zero_le (show 0<=a by omega);have hl:=wO hok (k:=k) (by omega);have hg:=Fl hok (k:Int) w
        by_cases hw:0<=d.fX (k:Int) w
        · rw[Int.toNat_natCast,hl.2 ⟨w,hw⟩] at h;cases h
        · omega
  · intro h
    by_cases hn:a<0
    · exact .inl hn
    · right
      obtain⟨k,rfl⟩:=Int.eq_ofNat_of_zero_le (show 0<=a by omega);have hl:=wO hok (k:=k) (by omega);rw[Int.toNat_natCast];cases hb:(bq d).getD k false with
      |false=>rfl
      |true =>
        obtain⟨w,hw⟩:=hl.1 hb;have:=h w;omega
structure uV (d:bJ) (cls:List Int):Prop where
  len:cls.length=d.next.length
  ge:∀k,-1<=cls.getD k 0
  alike:∀s t:Nat,s<d.next.length->t<d.next.length->Alike d s t->cls.getD s 0=cls.getD t 0
  rule:∀s t:Nat,s<d.next.length->t<d.next.length->cls.getD s 0=cls.getD t 0->d.ru s=d.ru t
theorem BA {d:bJ}(hok:d.Ok) (k:uV d cls){a b:Int}(ha:a<d.next.length) (hb:b<d.next.length) (h:Alike d a b):bV (bq d) cls a=bV (bq d) cls b:=by
  by_cases hd:a<0\/(bq d).getD a.toNat false=false
  · have hd':b<0\/(bq d).getD b.toNat false=false:=(jX hok hb).2 fun w=>by rw[<-h w];exact(jX hok ha).1 hd w
    rw[bV,if_pos hd,bV,if_pos hd']
  · have hd':¬(b<0\/(bq d).getD b.toNat false=false):=fun e=>hd ((jX hok ha).2 fun w=>by rw[h w];exact(jX hok hb).1 e w)
    rw[bV,if_neg hd,bV,if_neg hd']
    have ha0:0<=a:=by
      by_cases e:a<0
      · exact absurd (.inl e) hd
      · omega
    have hb0:0<=b:=by
      by_cases e:b<0
      · exact absurd (.inl e) hd'
      · omega
    exact k.alike a.toNat b.toNat (by omega) (by omega) (by rw[Int.toNat_of_nonneg ha0,Int.toNat_of_nonneg hb0];exact h)
theorem GX {d:bJ}(hok:d.Ok) (k:uV d cls){t:Nat}(hs:s<d.next.length) (ht:t<d.next.length) (h:Alike d s t):fE d (bq d) cls s=fE d (bq d) cls t:=by
  unfold fE;rw[k.alike s t hs ht h,(Fq hs ht _).2 fun c=>BA hok k (bJ.rH hok c).2 (bJ.rH hok c).2 fun w=>by rw[<-dZ,<-dZ];exact h (c::w)]
theorem CL {d:bJ}{t:Nat}(h:fE d live cls s=fE d live cls t):cls.getD s 0=cls.getD t 0:=by
  unfold fE at h;exact(List.cons.inj h).1
theorem IF {d:bJ}(hok:d.Ok) (k:uV d cls):uV d (aZ d (bq d) cls d.next.length 0 [] []).2:=by
  have hend:=eV d (bq d) cls;refine⟨hend.len,fun j=>?_,fun s t hs ht h=>(lE hs ht).2 (GX hok k hs ht h),fun s t hs ht h=>k.rule s t hs ht (CL ((lE hs ht).1 h))⟩;rw[List.getD_eq_getElem?_getD];cases hx:(aZ d (bq d) cls d.next.length 0 [] []).2[j]? with
  |none=>decide
  |some x=>have:=hend.bound x (List.mem_of_getElem? hx);show -1<=x;omega
theorem vj {d:bJ}(hok:d.Ok) (hs:s<d.next.length):d.rule.getD s 0=d.ru s:=by
  have hl:=hok.len;unfold bJ.ru;rw[List.getD_eq_getElem?_getD,List.getD_eq_getElem?_getD,List.getElem?_eq_getElem (by omega)];rfl
theorem Ir {d:bJ}(hok:d.Ok):uV d d.rule:=by
  refine⟨hok.len,fun k=>?_,fun s t hs ht h=>?_,fun s t hs ht h=>?_⟩
  · rw[List.getD_eq_getElem?_getD];cases hx:d.rule[k]? with
    |none=>decide
    |some x=>exact(hok.ru x (List.mem_of_getElem? hx)).1
  · rw[vj hok hs,vj hok ht];have:=h []
    rwa [dQ,dQ] at this
  · rwa [vj hok hs,vj hok ht] at h
theorem rP {d:bJ}(hok:d.Ok){cls:List Int}(k:uV d cls) (hst:∀s t,s<d.next.length->t<d.next.length->cls.getD s 0=cls.getD t 0->fE d (bq d) cls s=fE d (bq d) cls t):∀(w:By) (s t:Nat),s<d.next.length->t<d.next.length->cls.getD s 0=cls.getD t 0->d.fX (s:Int) w=d.fX (t:Int) w
  | [],s,t,hs,ht,h=>by rw[dQ,dQ];exact k.rule s t hs ht h
  |c::w,s,t,hs,ht,h=>by
    rw[dZ,dZ];have hk:=hst s t hs ht h;unfold fE at hk;have hb:=(Fq hs ht _).1 (List.cons.inj hk).2 c;have ha:=(bJ.rH hok (s:=s) c).2;have hb2:=(bJ.rH hok (s:=t) c).2;generalize d.to s c=a at *;generalize d.to t c=b at *
    by_cases hd:a<0\/(bq d).getD a.toNat false=false
    · have hd':b<0\/(bq d).getD b.toNat false=false:=by
        by_cases e:b<0\/(bq d).getD b.toNat false=false
        · exact e
        · rw[bV,if_pos hd,bV,if_neg e] at hb;have:=k.ge b.toNat;omega
      rw[(jX hok ha).1 hd w,(jX hok hb2).1 hd' w]
    · by_cases hd':b<0\/(bq d).getD b.toNat false=false
      · rw[bV,if_neg hd,bV,if_pos hd'] at hb;have:=k.ge a.toNat;omega
      · rw[bV,if_neg hd,bV,if_neg hd'] at hb
        have ha0:0<=a:=by
          by_cases e:a<0
          · exact absurd (.inl e) hd
          · omega
        have hb0:0<=b:=by
          by_cases e:b<0
          · exact absurd (.inl e) hd'
          · omega
        have ih:=rP hok k hst w a.toNat b.toNat (by omega) (by omega) hb
        rwa [Int.toNat_of_nonneg ha0,Int.toNat_of_nonneg hb0] at ih
theorem uR {d:bJ}(hok:d.Ok):∀(n many:Nat) (cls:List Int),uV d cls->j6 many cls->many<=d.next.length->d.next.length+1<=n+many->uV d (lF d (bq d) n many cls)/\∀s t:Nat,s<d.next.length->t<d.next.length->(lF d (bq d) n many cls).getD s 0=(lF d (bq d) n many cls).getD t 0->Alike d s t
  | 0,many,cls,k,hc,hm,hf=>by omega
  |n+1,many,cls,k,hc,hm,hf=>by
    have hend:=eV d (bq d) cls;have hmore:=oO (live:=bq d) hc k.len;have hp:=IF hok k;rw[lF];split
    · rename_i he;refine⟨hp,fun s t hs ht h w=>?_⟩;have hkey:=(lE hs ht).1 h;refine rP hok k (fun s t hs ht h=>?_) w s t hs ht (CL hkey)
      have hcov:j6 many ((aZ d (bq d) cls d.next.length 0 [] []).1.map fun s=>s.getD 0 0):=fun i hi=>by
        obtain⟨k',hk'⟩:=List.getElem?_of_mem (hc i hi);have hkl:=(List.getElem?_eq_some_iff.1 hk').1;have:=hend.all k' (by have:=k.len;omega);refine List.mem_map.2 ⟨_,this,?_⟩;simp[fE,List.getD_eq_getElem?_getD,hk']
      have hon:=uO many _ hcov (by simpa using he);obtain⟨i,hi⟩:=List.getElem?_of_mem (hend.all s hs);obtain⟨j,hj⟩:=List.getElem?_of_mem (hend.all t ht);have h1:((aZ d (bq d) cls d.next.length 0 [] []).1.map fun s=>s.getD 0 0)[i]? =some (cls.getD s 0):=by rw[List.getElem?_map,hi];rfl
      have h2:((aZ d (bq d) cls d.next.length 0 [] []).1.map fun s=>s.getD 0 0)[j]? =some (cls.getD s 0):=by rw[List.getElem?_map,hj,h];rfl
      obtain⟨hi1,hi2⟩:=List.getElem?_eq_some_iff.1 h1;obtain⟨hj1,hj2⟩:=List.getElem?_eq_some_iff.1 h2
      have hij:i=j:=by
        rcases Nat.lt_trichotomy i j with e|e|e
        · exact absurd (hi2.trans hj2.symm) (List.pairwise_iff_getElem.1 hon i j hi1 hj1 e)
        · exact e
        · exact absurd (hj2.trans hi2.symm) (List.pairwise_iff_getElem.1 hon j i hj1 hi1 e)
      subst hij;rw[hi] at hj;exact Option.some.inj hj
    · rename_i hne;have hsz:=hend.size;exact uR hok n _ _ hp hend.nums hsz (by omega)
theorem oP {d:bJ}(hok:d.Ok){t:Nat}(hs:s<d.next.length) (ht:t<d.next.length):(dU d (bq d)).getD s 0=(dU d (bq d)).getD t 0↔Alike d s t:=by
  have h:=uR hok (d.next.length+1) 0 d.rule (Ir hok) (fun i hi=>absurd hi (Nat.not_lt_zero _)) (Nat.zero_le _) (by omega);exact⟨h.2 s t hs ht,h.1.alike s t hs ht⟩
def J8 (d e:bJ) (a b:Int):Prop:=∀w,d.fX a w=e.fX b w
inductive E6 (d e:bJ):List Nat->List Nat->Prop
  |nil:E6 d e [] []
  |cons {x y:Nat}{o p:List Nat}:x<d.next.length->y<e.next.length->J8 d e x y->E6 d e o p->E6 d e (x::o) (y::p)
theorem Cp:of <+: (cI live cls of t).1:=by
  unfold cI;split
  · exact List.prefix_refl _
  · split
    · exact List.prefix_refl _
    · exact List.prefix_append _ _
theorem qG {live:List Bool}{cls:List Int}:∀(r:List Int) (of:List Nat) (row:List Int),of <+: (fY live cls r of row).1
  | [],of,row=>List.prefix_refl _
  |t::r,of,row=>by
    rw[fY];exact Cp.trans (qG r _ _)
theorem MC {d:bJ}(hd:d.Ok) (k:Nat):∀t∈d.row k,t<(d.next.length:Int):=fun t ht=>by
  obtain⟨c,rfl⟩:=Is ht;exact(bJ.rH hd c).2
def rq (d:bJ) (of:List Nat) (t y:Int):Prop:=((∀w,d.fX t w= -1)/\y= -1)\/((∃w,0<=d.fX t w)/\∃(i x:Nat),y=(i:Int)/\of[i]? =some x/\Alike d t x)
theorem rq.mono {d:bJ}{of':List Nat}{y:Int}(k:rq d of t y) (h:of <+: of'):rq d of' t y:=by
  rcases k with k|⟨k,i,x,e,hi,ha⟩
  · exact .inl k
  · obtain⟨l,rfl⟩:=h;exact .inr ⟨k,i,x,e,by rw[List.getElem?_append_left (List.getElem?_eq_some_iff.1 hi).1];exact hi,ha⟩
def Pc (d:bJ) (of:List Nat):Prop:=∀(i j x y:Nat),of[i]? =some x->of[j]? =some y->Alike d x y->i=j
structure O8 (d:bJ) (of:List Nat):Prop where
  ok:Dt d.next.length of
  apart:Pc d of
theorem Co {d:bJ}(hd:d.Ok) (k:O8 d of) (ht:t<d.next.length) :
    O8 d (cI (bq d) (dU d (bq d)) of t).1/\rq d (cI (bq d) (dU d (bq d)) of t).1 t (cI (bq d) (dU d (bq d)) of t).2:=by
  have hdead:=jX hd ht;have hok:=wG (live:=bq d) (cls:=dU d (bq d)) k.ok ht
  revert hok
  unfold cI;split
  · rename_i h;exact fun _=>⟨k,.inl ⟨hdead.1 h,rfl⟩⟩
  · rename_i h
    have halive:∃w,0<=d.fX t w:=by
      by_cases q:∃w,0<=d.fX t w
      · exact q
      · refine absurd (hdead.2 fun w=>?_) h;have h1:=Fl hd t w;have h2:¬0<=d.fX t w:=fun z=>q ⟨w,z⟩
        omega
    obtain⟨n,rfl⟩:=Int.eq_ofNat_of_zero_le (show 0<=t by omega);simp only[Int.toNat_natCast];split
    · rename_i i hi;intro _;obtain⟨_,x,hx,he⟩:=xK of 0 i _ hi;have hxl:=k.ok.lt x (List.mem_of_getElem? hx);exact⟨k,.inr ⟨halive,i,x,rfl,by simpa using hx,(oP hd (by omega) hxl).1 he⟩⟩
    · rename_i hi;intro hok;have hne:=qR of 0 _ hi;refine⟨⟨hok,fun i j x y hx hy ha=>?_⟩,.inr ⟨halive,of.length,n,rfl,by simp,fun w=>rfl⟩⟩
      have hcase:∀(i x:Nat),(of++[n])[i]? =some x->(i<of.length/\of[i]? =some x)\/(i=of.length/\x=n):=fun i x hx=>by
        rcases Nat.lt_or_ge i of.length with hl|hl
        · rw[List.getElem?_append_left hl] at hx;exact .inl ⟨hl,hx⟩
        · have:=(List.getElem?_eq_some_iff.1 hx).1;simp at this;have hil:i=of.length:=by omega
          subst hil;simp only[List.getElem?_concat_length,Option.some.injEq] at hx;exact .inr ⟨rfl,hx.symm⟩
      rcases hcase i x hx with ⟨h1,h2⟩|⟨h1,h2⟩<;>rcases hcase j y hy with ⟨h3,h4⟩|⟨h3,h4⟩
      · exact k.apart i j x y h2 h4 ha
      · subst h4;have hxm:=List.mem_of_getElem? h2;exact absurd ((oP hd (by omega) (k.ok.lt x hxm)).2 fun w=>(ha w).symm) (hne x hxm)
      · subst h2;have hym:=List.mem_of_getElem? h4;exact absurd ((oP hd (by omega) (k.ok.lt y hym)).2 ha) (hne y hym)
      · omega
theorem wH {d:bJ}(hd:d.Ok):∀(r:List Int) (of:List Nat) (row:List Int),O8 d of->(∀t∈r,t<(d.next.length:Int)) ->
    O8 d (fY (bq d) (dU d (bq d)) r of row).1/\∃ys,(fY (bq d) (dU d (bq d)) r of row).2=row++ys/\ys.length=r.length/\∀(j:Nat) (t y:Int),r[j]? =some t->ys[j]? =some y->rq d (fY (bq d) (dU d (bq d)) r of row).1 t y
  | [],of,row,k,_=>⟨k,[],by simp[fY],rfl,fun j t y h=>by simp at h⟩
  |t::r,of,row,k,h=>by
    obtain⟨h1,h2⟩:=Co hd k (h t (by simp));obtain⟨k1,ys,k3,k4,k5⟩:=wH hd r (cI (bq d) (dU d (bq d)) of t).1 (row++[(cI (bq d) (dU d (bq d)) of t).2]) h1 (fun u hu=>h u (by simp[hu]));rw[fY];refine⟨k1,(cI (bq d) (dU d (bq d)) of t).2::ys,by rw[k3];simp,by simp[k4],fun j u y hu hy=>?_⟩;cases j with
    |zero =>
      simp only[List.getElem?_cons_zero,Option.some.injEq] at hu hy;subst hu;subst hy;exact h2.mono (qG _ _ _)
    |succ j=>exact k5 j u y (by simpa using hu) (by simpa using hy)
structure yA (d:bJ) (of:List Nat) (m:bJ):Prop where
  rep:O8 d of
  first:of[0]? =some 0
  rlen:m.rule.length=m.next.length
  row:∀(k:Nat) (r:Row) (x:Nat),m.next[k]? =some r->of[k]? =some x->∀(c:UInt8) (y:Int),r.v[c.toNat]? =some y->rq d of (d.to x c) y
  rule:∀(k:Nat) (y:Int) (x:Nat),m.rule[k]? =some y->of[k]? =some x->y=d.ru x
theorem Cq {d:bJ}(hd:d.Ok):∀(n i:Nat) (of:List Nat) (next:List Row) (rule:List Int),yA d of ⟨next,rule⟩->next.length=i->i<=of.length->n+i=d.next.length+1 ->
    ∃of',yA d of' (Cr d (bq d) (dU d (bq d)) n i of next rule)/\of'.length=(Cr d (bq d) (dU d (bq d)) n i of next rule).next.length
  | 0,i,of,next,rule,h,hi,hio,hn=>by have:=h.rep.ok.len;omega
  |n+1,i,of,next,rule,h,hi,hio,hn=>by
    rw[Cr];split
    · rename_i hnone;have:=List.getElem?_eq_none_iff.1 hnone;exact⟨of,h,by show of.length=next.length;omega⟩
    · rename_i x hx;have hxl:=h.rep.ok.lt x (List.mem_of_getElem? hx);obtain⟨k1,ys,k3,k4,k5⟩:=wH hd (d.row x) of [] h.rep (MC hd x);have hpre:=qG (live:=bq d) (cls:=dU d (bq d)) (d.row x) of [];rw[AK hxl] at k4;have hol:=(List.getElem?_eq_some_iff.1 hx).1;generalize fY (bq d) (dU d (bq d)) (d.row x) of []=q at *
      have hb:∀(j y:Nat),j<of.length->q.1[j]? =some y->of[j]? =some y:=fun j y hj hy=>by
        obtain⟨t,ht⟩:=hpre;rw[<-ht,List.getElem?_append_left hj] at hy;exact hy
      have hf:∀(j y:Nat),of[j]? =some y->q.1[j]? =some y:=fun j y hy=>by
        obtain⟨t,ht⟩:=hpre;rw[<-ht,List.getElem?_append_left (List.getElem?_eq_some_iff.1 hy).1];exact hy
      have hrl:rule.length=next.length:=h.rlen
      have hlen:=hpre.length_le;refine Cq hd n (i+1) _ _ _ ⟨k1,hf _ _ h.first,by simp[hrl],fun k r z hr hz c y hy=>?_,fun k y z hy hz=>?_⟩ (by simp[hi]) (by omega) (by omega)
      · rcases Nat.lt_or_ge k next.length with hk|hk
        · rw[List.getElem?_append_left hk] at hr;exact(h.row k r z hr (hb k z (by omega) hz) c y hy).mono hpre
        · have hkn:k=next.length:=by
            have:=(List.getElem?_eq_some_iff.1 hr).1;simp at this;omega
          subst hkn;simp only[List.getElem?_concat_length,Option.some.injEq] at hr;subst hr;have hzx:=hb _ z (by omega) hz;rw[hi,hx] at hzx;cases hzx;rw[k3,List.nil_append,vk k4] at hy;exact k5 c.toNat _ y (rV hxl c) hy
      · rcases Nat.lt_or_ge k rule.length with hk|hk
        · rw[List.getElem?_append_left hk] at hy;exact h.rule k y z hy (hb k z (by omega) hz)
        · have hkn:k=rule.length:=by
            have:=(List.getElem?_eq_some_iff.1 hy).1;simp at this;omega
          subst hkn;simp only[List.getElem?_concat_length,Option.some.injEq] at hy;subst hy;have hzx:=hb _ z (by omega) hz;rw[hrl,hi,hx] at hzx;cases hzx;rfl
theorem GM {d:bJ}(hd:d.Ok) (hn:0<d.next.length):∃of,yA d of (lT d)/\of.length=(lT d).next.length:=by
  unfold lT;rw[if_neg (by omega)];refine Cq hd _ 0 [0] [] [] ⟨⟨⟨by simp,fun x hx=>by simp at hx;omega⟩,fun i j x y hx hy _=>?_⟩,rfl,rfl,fun k r x hr=>by simp at hr,fun k y x hy=>by simp at hy⟩ rfl (by simp) (by omega);have h1:=(List.getElem?_eq_some_iff.1 hx).1;have h2:=(List.getElem?_eq_some_iff.1 hy).1;simp at h1 h2;omega
theorem yA.to {d m:bJ}{of:List Nat}(k:yA d of m) (hl:of.length=m.next.length){s x:Nat}(hx:of[s]? =some x) (c:UInt8):rq d of (d.to x c) (m.to s c):=by
  have hs:=(List.getElem?_eq_some_iff.1 hx).1;have hr:m.next[s]? =some (m.next[s]'(by omega)):=List.getElem?_eq_getElem _
  obtain⟨y,hy,he,_⟩:=(m.next[s]'(by omega)).at c;unfold bJ.to;rw[hr];simp only;rw[he];exact k.row s _ x hr hx c y hy
theorem yA.ru {d m:bJ}{of:List Nat}(k:yA d of m) (hl:of.length=m.next.length){s x:Nat}(hx:of[s]? =some x):m.ru s=d.ru x:=by
  have hs:=(List.getElem?_eq_some_iff.1 hx).1;have hlt:s<m.rule.length:=by rw[k.rlen];omega
  have hr:m.rule[s]? =some (m.rule[s]'hlt):=List.getElem?_eq_getElem _;have:=k.rule s _ x hr hx;unfold bJ.ru at this ⊢;rw[List.getD_eq_getElem?_getD,hr];exact this
theorem yA.fX {d m:bJ}{of:List Nat}(k:yA d of m) (hl:of.length=m.next.length):∀(w:By) (s x:Nat),of[s]? =some x->m.fX (s:Int) w=d.fX (x:Int) w
  | [],s,x,hx=>by rw[dQ,dQ,k.ru hl hx]
  |c::w,s,x,hx=>by
    rw[dZ,dZ]
    rcases k.to hl hx c with ⟨h1,h2⟩|⟨_,i,y,h2,h3,h4⟩
    · rw[h2,lO m w (by decide),h1]
    · rw[h2,k.fX hl w i y h3,h4]
theorem yA.Q0 {d m:bJ}(hd:d.Ok) (k:yA d of m) (hl:of.length=m.next.length):m.Ok:=by
  refine⟨k.rlen,by have:=k.rep.ok.len;have:=hd.size;omega,fun r hr x hx=>?_,fun x hx=>?_⟩
  · obtain⟨i,hi⟩:=List.getElem?_of_mem hr;obtain⟨j,hj⟩:=List.getElem?_of_mem hx;have hil:=(List.getElem?_eq_some_iff.1 hi).1;have hjl:=(List.getElem?_eq_some_iff.1 hj).1;rw[r.len] at hjl;have hc:(UInt8.ofNat j).toNat=j:=by simp;omega
    obtain⟨y,hy⟩:∃y,of[i]? =some y:=⟨_,List.getElem?_eq_getElem (by omega)⟩
    rcases k.row i r y hi hy (UInt8.ofNat j) x (by rw[hc];exact hj) with ⟨_,rfl⟩|⟨_,a,z,rfl,h3,_⟩
    · omega
    · have:=(List.getElem?_eq_some_iff.1 h3).1;omega
  · obtain⟨i,hi⟩:=List.getElem?_of_mem hx;have hil:=(List.getElem?_eq_some_iff.1 hi).1;have:=k.rlen;obtain⟨y,hy⟩:∃y,of[i]? =some y:=⟨_,List.getElem?_eq_getElem (by omega)⟩
    rw[k.rule i x y hi hy];unfold bJ.ru;rw[List.getD_eq_getElem?_getD];cases h:d.rule[y]? with
    |none=>show -1<=(-1:Int)/\(-1:Int)<=1000000;omega
    |some v=>exact hd.ru v (List.mem_of_getElem? h)
def Trim (m:bJ):Prop:=∀(s:Nat) (c:UInt8),s<m.next.length->0<=m.to s c->∃w,0<=m.fX (m.to s c) w
theorem tE {d:bJ}(hd:d.Ok) (hn:0<d.next.length):(lT d).Ok/\0<(lT d).next.length/\(lT d).next.length<=d.next.length/\J8 (lT d) d 0 0/\Trim (lT d):=by
  obtain⟨of,k,hl⟩:=GM hd hn;have h0:=(List.getElem?_eq_some_iff.1 k.first).1;refine⟨k.Q0 hd hl,by omega,by have:=k.rep.ok.len;omega,fun w=>k.fX hl w 0 0 k.first,fun s c hs h=>?_⟩;obtain⟨x,hx⟩:∃x,of[s]? =some x:=⟨_,List.getElem?_eq_getElem (by omega)⟩
  rcases k.to hl hx c with ⟨h1,h2⟩|⟨⟨w,hw⟩,i,y,h2,h3,h4⟩
  · rw[h2] at h;omega
  · exact⟨w,by rw[h2,k.fX hl w i y h3,<-h4];exact hw⟩
theorem sL (d:bJ):∀(l:By) (s k:Nat) (b:Int×Int),(∀w,d.fX (s:Int) w= -1)->(aK d l s k b).1=b.1/\(aK d l s k b).2.1=b.2/\(k:Int)<=(aK d l s k b).2.2
  | [],s,k,b,h=>by
    have h0:=h [];rw[dQ] at h0;rw[aK,if_neg (by omega)];exact⟨rfl,rfl,Int.le_refl _⟩
  |c::l,s,k,b,h=>by
    have h0:=h [];rw[dQ] at h0;rw[aK,if_neg (by omega:¬0<=d.ru s),if_neg (by omega:¬0<=d.ru s)];split
    · rename_i hp;have:=sL d l (d.to s c).toNat (k+1) b (fun w=>by rw[Int.toNat_of_nonneg hp,<-dZ];exact h (c::w));exact⟨this.1,this.2.1,by have:=this.2.2;omega⟩
    · exact⟨rfl,rfl,Int.le_refl _⟩
theorem mW {d m:bJ}(hd:d.Ok) (hm:m.Ok) (ht:Trim m):∀(l:By) (s t k:Nat) (b:Int×Int),s<d.next.length->t<m.next.length->J8 d m s t ->
    (aK d l s k b).1=(aK m l t k b).1/\(aK d l s k b).2.1=(aK m l t k b).2.1/\(aK m l t k b).2.2<=(aK d l s k b).2.2
  | [],s,t,k,b,hs,htl,h=>by
    have h0:=h [];rw[dQ,dQ] at h0;rw[aK,aK,h0];exact⟨rfl,rfl,Int.le_refl _⟩
  |c::l,s,t,k,b,hs,htl,h=>by
    have h0:=h [];rw[dQ,dQ] at h0;have hl:J8 d m (d.to s c) (m.to t c):=fun w=>by rw[<-dZ,<-dZ];exact h _
    have h1:=bJ.rH hd (s:=s) c;have h2:=bJ.rH hm (s:=t) c;rw[aK,aK,h0]
    by_cases hmt:0<=m.to t c
    · obtain⟨w,hw⟩:=ht t c htl hmt
      have hdt:0<=d.to s c:=by
        by_cases e:d.to s c<0
        · rw[<-hl w,lO d w e] at hw;omega
        · omega
      rw[if_pos hmt,if_pos hdt];exact mW hd hm ht l _ _ _ _ (by omega) (by omega) (fun w=>by rw[Int.toNat_of_nonneg hmt,Int.toNat_of_nonneg hdt];exact hl w)
    · rw[if_neg hmt]
      by_cases hdt:0<=d.to s c
      · rw[if_pos hdt];have hdd:=sL d l (d.to s c).toNat (k+1) (if 0<=m.ru t then ((k:Int),m.ru t) else b) (fun w=>by rw[Int.toNat_of_nonneg hdt,hl w];exact lO m w (by omega));obtain⟨d1,d2,d3⟩:=hdd;rw[d1,d2];generalize (aK d l (d.to s c).toNat (k+1) (if 0<=m.ru t then ((k:Int),m.ru t) else b)).2.2=z at *;split
        · exact⟨rfl,rfl,by show (k:Int)<=_;omega⟩
        · exact⟨rfl,rfl,by show (k:Int)<=_;omega⟩
      · rw[if_neg hdt];exact⟨rfl,rfl,Int.le_refl _⟩
theorem DQ {d m:bJ}(hd:d.Ok) (hm:m.Ok) (ht:Trim m) (hd0:0<d.next.length) (hm0:0<m.next.length) (hl:J8 d m 0 0) (s:By) (a:Int) :
    (dn d s a).1=(dn m s a).1/\(dn d s a).2.1=(dn m s a).2.1/\(dn m s a).2.2<=(dn d s a).2.2:=by
  unfold dn
  by_cases ha:a<0\/(s.length:Int)<a
  · rw[if_pos (.inr ha),if_pos (.inr ha)];exact⟨rfl,rfl,Int.le_refl _⟩
  · rw[if_neg (by omega),if_neg (by omega)];exact mW hd hm ht (s.drop a.toNat) 0 0 0 (0,-1) hd0 hm0 hl
theorem o8.to {ss:List bA}{st0:Nat}{L:List (List Nat)}{d:bJ}(k:o8 ss st0 L d) (hL:L.length=d.next.length){st:Nat}{now:List Nat}(hn:L[st]? =some now) (c:UInt8):yF L (cC ss c now) (d.to st c):=by
  have hl:=(List.getElem?_eq_some_iff.1 hn).1;have hr:d.next[st]? =some (d.next[st]'(by omega)):=List.getElem?_eq_getElem _
  obtain⟨x,hx,he,hm⟩:=(d.next[st]'(by omega)).at c;unfold bJ.to;rw[hr];simp only;rw[he];have:=k.row st _ now hr hn c.toNat x hx
  rwa [UInt8.ofNat_toNat] at this
theorem o8.ru {ss:List bA}{st0:Nat}{L:List (List Nat)}{d:bJ}(k:o8 ss st0 L d) (hL:L.length=d.next.length){st:Nat}{now:List Nat}(hn:L[st]? =some now):d.ru st=bf ss now:=by
  have hl:=(List.getElem?_eq_some_iff.1 hn).1;have hlt:st<d.rule.length:=by rw[k.rlen];omega
  have hr:d.rule[st]? =some (d.rule[st]'hlt):=List.getElem?_eq_getElem _;have:=k.rule st _ now hr hn;unfold bJ.ru;rw[List.getD_eq_getElem?_getD,hr];exact this
theorem uK {ss:List bA}{st0:Nat}{L:List (List Nat)}{d:bJ}(k:o8 ss st0 L d) (hL:L.length=d.next.length):∀(l:By) (st j:Nat) (now:List Nat) (b:Int×Int),L[st]? =some now->now.length≠0 ->
    ((aK d l st j b).1,(aK d l st j b).2.1)=jP ss l now j b
  | [],st,j,now,b,hn,h0=>by
    rw[aK,jP,if_neg h0,k.ru hL hn];split<;>rfl
  |c::l,st,j,now,b,hn,h0=>by
    rw[aK,jP,if_neg h0,k.ru hL hn]
    rcases k.to hL hn c with ⟨e,h⟩|⟨e,i,h,hi⟩
    · rw[h,if_neg (by decide),wI e];split<;>rfl
    · rw[h,if_pos (by omega),Int.toNat_natCast];exact uK k hL l i (j+1) _ _ hi e
theorem mX {d:bJ}(h:gP ss st= .inr d) (hs:ss.length≠0) (l:By):((aK d l 0 0 (0,-1)).1,(aK d l 0 0 (0,-1)).2.1)=de ss st l:=by
  obtain⟨h0,L,h1,h2,_⟩:=jz h;rw[de,if_neg hs];exact uK h1 h2 l 0 0 _ _ h1.first h0
theorem qs (d:bJ):∀(l:By) (st k:Nat) (b:Int×Int),b.1<=k->(aK d l st k b).1<=(aK d l st k b).2.2/\(aK d l st k b).2.2<=k+l.length
  | [],st,k,b,h=>by
    rw[aK];split
    · exact⟨Int.le_refl _,by simp⟩
    · exact⟨h,by simp⟩
  |c::l,st,k,b,h=>by
    rw[aK];split
    · have hb:(if 0<=d.ru st then ((k:Int),d.ru st) else b).1<=((k+1:Nat):Int):=by
        split
        · show (k:Int)<=_;omega
        · omega
      have:=qs d l (d.to st c).toNat (k+1) _ hb;rw[List.length_cons];exact⟨this.1,by have:=this.2;omega⟩
    · split
      · exact⟨Int.le_refl _,by show (k:Int)<=_;omega⟩
      · exact⟨h,by show (k:Int)<=_;omega⟩
theorem wA {α:Type}[DecidableEq α]:∀(l m:List α),l.Nodup->(∀x∈l,x∈m)->l.length<=m.length
  | [],m,_,_=>Nat.zero_le _
  |a::l,m,h,hs=>by
    rw[List.nodup_cons] at h;have ha:=hs a (by simp);have:=wA l (m.erase a) h.2 (fun x hx=>(List.mem_erase_of_ne (fun e=>h.1 (by rw[<-e];exact hx))).2 (hs x (by simp[hx])));have h2:=List.length_erase_of_mem ha;have h3:=List.length_pos_of_mem ha;simp only[List.length_cons];omega
def Ll (ss:List bA) (S:List (List Nat)):Prop:=∀T∈S,∀c:UInt8,(cC ss c T).length=0\/cC ss c T∈S
theorem Ft {ss:List bA}{S:List (List Nat)}{cur:List Nat}(hS:Ll ss S) (hc:cur∈S):∀(n b:Nat) (lists:List (List Nat)) (row:List Int),(∀T∈lists,T∈S)->∀T∈(mF ss cur n b lists row).1,T∈S
  | 0,b,lists,row,h=>h
  |n+1,b,lists,row,h=>by
    rw[mF];refine Ft hS hc n (b+1) _ _ fun T hT=>?_
    unfold dK at hT;split at hT
    · exact h T hT
    · rename_i hne;split at hT
      · exact h T hT
      · rcases List.mem_append.1 hT with k|k
        · exact h T k
        · rw[List.mem_singleton.1 k];exact(hS cur hc (UInt8.ofNat b)).resolve_left hne
theorem uM {ss:List bA}{S:List (List Nat)}(hS:Ll ss S) (hlen:S.length<=2000):∀(n k:Nat) (lists:List (List Nat)) (next:List Row) (rule:List Int),lists.Nodup->(∀T∈lists,T∈S)->k<=lists.length->2002<=n+k->∃d,lC ss n k lists next rule=some d
  | 0,k,lists,next,rule,hn,hin,hk,hf=>by
    have:=wA lists S hn hin;omega
  |n+1,k,lists,next,rule,hn,hin,hk,hf=>by
    rw[lC];split
    · exact⟨_,rfl⟩
    · rename_i cur hcur;have hkl:=(List.getElem?_eq_some_iff.1 hcur).1;obtain⟨h1,h2,_⟩:=tA ss cur 256 0 lists [] hn;have h3:=Ft hS (hin cur (List.mem_of_getElem? hcur)) 256 0 lists [] hin;have h4:=wA _ S h2 h3;have h5:=h1.length_le;rw[if_neg (by omega)];exact uM hS hlen n (k+1) _ _ _ h2 h3 (by omega) (by omega)
theorem C4 {S:List (List Nat)}(hS:Ll ss S) (hlen:S.length<=2000) (h0:(bW ss st).length≠0) (hst:bW ss st∈S):∃d,gP ss st= .inr d:=by
  obtain⟨d,hd⟩:=uM hS hlen 2002 0 [bW ss st] [] [] (by simp) (fun T hT=>by rw[List.mem_singleton.1 hT];exact hst) (Nat.zero_le _) (Nat.le_refl _);refine⟨d,?_⟩;unfold gP;rw[if_neg h0,hd]
theorem tg {ss:List bA}{c r:UInt8}(h:∀x∈ss,x.set.testBit c.toNat=x.set.testBit r.toNat):∀(l a:List Nat),stepG ss c l a=stepG ss r l a
  | [],a=>rfl
  |j::l,a=>by
    rw[stepG,stepG];cases hx:ss[j]? with
    |none=>exact tg h l a
    |some x =>
      simp only;rw[show jN x c=jN x r by unfold jN;rw[h x (List.mem_of_getElem? hx)]];exact tg h l _
theorem Gk {c r:UInt8}(h:∀x∈ss,x.set.testBit c.toNat=x.set.testBit r.toNat) (T:List Nat):cC ss c T=cC ss r T:=by
  unfold cC;rw[tg h]
def Bi:List (List Nat×Nat)->List Nat->Option Nat
  | [],_=>none
  |(T,h)::l,U=>if T=U then some h else Bi l U
theorem xq:∀{l:List (List Nat×Nat)}{U:List Nat}{h:Nat},Bi l U=some h->(U,h)∈l
  | [],U,h,e=>by cases e
  |(T,h')::l,U,h,e=>by
    rw[Bi] at e;split at e
    · rename_i k;cases e;subst k;simp
    · exact List.mem_cons_of_mem _ (xq e)
def FR (ss:List bA) (H:List (List Nat×Nat)) (T:List Nat) (h:Nat) (r:UInt8):Bool :=
  (cC ss r T).isEmpty ||match Bi H (cC ss r T) with
    |none=>false
    |some h'=>decide (0<=bf ss (cC ss r T)) ||decide ((if 0<=bf ss T then 0 else h)+1<=h')
def rf (ss:List bA) (H:List (List Nat×Nat)) (reps:List UInt8):Bool:=H.all fun p=>decide (p.2<=2) && reps.all fun r=>FR ss H p.1 p.2 r
def jA (ss:List bA) (tab:List UInt8) (reps:List UInt8):Bool:=decide (tab.length=256) && (List.range 256).all fun b=>reps.contains (tab.getD b 0) && ss.all fun x=>x.set.testBit b ==x.set.testBit (tab.getD b 0).toNat
theorem Ld (h:jA ss tab reps=true) (c:UInt8):∃r∈reps,∀x∈ss,x.set.testBit c.toNat=x.set.testBit r.toNat:=by
  unfold jA at h;rw[Bool.and_eq_true] at h;have h2:=List.all_eq_true.1 h.2 c.toNat (List.mem_range.2 c.toNat_lt);rw[Bool.and_eq_true] at h2;exact⟨_,by simpa using h2.1,fun x hx=>by simpa using List.all_eq_true.1 h2.2 x hx⟩
theorem C7 {H:List (List Nat×Nat)}(hr:jA ss tab reps=true) (ha:rf ss H reps=true){T:List Nat}{h:Nat}(hT:(T,h)∈H) (c:UInt8) :
    (cC ss c T).length=0\/∃h',(cC ss c T,h')∈H/\h'<=2/\(0<=bf ss (cC ss c T)\/(if 0<=bf ss T then 0 else h)+1<=h'):=by
  obtain⟨r,hrm,hx⟩:=Ld hr c;rw[Gk hx];have h1:=List.all_eq_true.1 ha _ hT;rw[Bool.and_eq_true] at h1;have h2:=List.all_eq_true.1 h1.2 r hrm;simp only[FR,Bool.or_eq_true,List.isEmpty_iff] at h2
  rcases h2 with h2|h2
  · left;rw[h2];rfl
  · right
    cases hh:Bi H (cC ss r T) with
    |none=>rw[hh] at h2;cases h2
    |some h' =>
      rw[hh] at h2;simp only[Bool.or_eq_true,decide_eq_true_eq] at h2;have hm:=xq hh;have h3:=List.all_eq_true.1 ha _ hm;rw[Bool.and_eq_true] at h3;exact⟨h',hm,of_decide_eq_true h3.1,h2⟩
theorem JG {H:List (List Nat×Nat)}(hr:jA ss tab reps=true) (ha:rf ss H reps=true):Ll ss (H.map (·.1)):=fun T hT c=>by
  obtain⟨⟨T',h⟩,hm,rfl⟩:=List.mem_map.1 hT
  rcases C7 hr ha hm c with k|⟨h',k,_⟩
  · exact .inl k
  · exact .inr (List.mem_map.2 ⟨_,k,rfl⟩)
theorem zo {ss:List bA}{st0:Nat}{L:List (List Nat)}{d:bJ}(k:o8 ss st0 L d) (hL:L.length=d.next.length){H:List (List Nat×Nat)}{tab reps:List UInt8}(hr:jA ss tab reps=true) (ha:rf ss H reps=true):∀(l:By) (s j:Nat) (b:Int×Int) (T:List Nat) (h:Nat),
    L[s]? =some T->(T,h)∈H->(j:Int)<=(if 0<=bf ss T then (j:Int) else b.1+h)->(aK d l s j b).2.2<=(aK d l s j b).1+2
  | [],s,j,b,T,h,hs,hm,hj=>by
    have h2:=List.all_eq_true.1 ha _ hm;rw[Bool.and_eq_true] at h2;have h3:=of_decide_eq_true h2.1;rw[aK,k.ru hL hs];split
    · show (j:Int)<=j+2;omega
    · rename_i hn;rw[if_neg hn] at hj
      show (j:Int)<=b.1+2
      simp only at h3;omega
  |c::l,s,j,b,T,h,hs,hm,hj=>by
    have h2:=List.all_eq_true.1 ha _ hm;rw[Bool.and_eq_true] at h2;have h3:=of_decide_eq_true h2.1;simp only at h3;rw[aK,k.ru hL hs]
    rcases k.to hL hs c with ⟨h1,e1⟩|⟨h1,i,e1,hi⟩
    · rw[e1,if_neg (by decide)];split
      · show (j:Int)<=j+2;omega
      · rename_i hn;rw[if_neg hn] at hj
        show (j:Int)<=b.1+2
        omega
    · rw[e1,if_pos (by omega),Int.toNat_natCast]
      rcases C7 hr ha hm c with q|⟨h',q1,q2,q3⟩
      · exact absurd q h1
      · refine zo k hL hr ha l i (j+1) _ _ h' hi q1 ?_
        by_cases hacc:0<=bf ss (cC ss c T)
        · rw[if_pos hacc];omega
        · rw[if_neg hacc];have q4:=q3.resolve_left hacc
          by_cases ht:0<=bf ss T
          · rw[if_pos ht] at q4;rw[if_pos ht]
            show ((j+1:Nat):Int)<=(j:Int)+h'
            omega
          · rw[if_neg ht] at q4 hj;rw[if_neg ht];omega
end
end Go.Proofs.YtpjgdgdnbkjoiaaGreatDoor
namespace Go.Proofs.YtpjgdgdnbkjoiaaGreatDoor
open Go
set_option maxRecDepth 100000
def D2:List By:=[[91,32,92,116,92,114,93,43],[92,110],[91,97,45,122,65,45,90,95,93,91,97,45,122,65,45,90,48,45,57,95,93,42],[91,48,45,57,93,43,40,92,46,91,48,45,57,93,43,41,63,40,91,101,69,93,91,92,43,92,45,93,63,91,48,45,57,93,43,41,63],[47,47,91,94,92,110,93,42],[47,92,42],[34],[91,92,40,92,91,123,93],[91,92,41,92,93,125,93],[91,92,43,92,45,92,42,47,37,60,62,33,61,44,59,58,92,46,93,124,61,61,124,33,61,124,60,61,124,62,61,124,38,38,124,92,124,92,124,124,92,45,62]]
def AE:List bA:=[⟨2,0,[],0⟩,⟨0,0,[2,0],0⟩,⟨1,4294976000,[1],0⟩,⟨2,0,[],1⟩,⟨1,1024,[3],0⟩,⟨2,0,[],2⟩,⟨0,0,[7,5],0⟩,⟨1,10633823849912963253799171395480977408,[6],0⟩,⟨1,10633823849912963253511222494305976320,[6],0⟩,⟨2,0,[],3⟩,⟨0,0,[11,9],0⟩,⟨1,287948901175001088,[10],0⟩,⟨1,43980465111040,[11],0⟩,⟨0,0,[12,11],0⟩,⟨1,2535301201046754613352112062464,[13],0⟩,⟨0,0,[14,9],0⟩,⟨0,0,[17,15],0⟩,⟨1,287948901175001088,[16],0⟩,⟨1,70368744177664,[17],0⟩,⟨0,0,[18,15],0⟩,⟨0,0,[21,19],0⟩,⟨1,287948901175001088,[20],0⟩,⟨2,0,[],4⟩,⟨0,0,[24,22],0⟩,⟨1,115792089237316195423570985008687907853269984665640564039457584007913129638911,[23],0⟩,⟨1,140737488355328,[23],0⟩,⟨1,140737488355328,[25],0⟩,⟨2,0,[],5⟩,⟨1,4398046511104,[27],0⟩,⟨1,140737488355328,[28],0⟩,⟨2,0,[],6⟩,⟨1,17179869184,[30],0⟩,⟨2,0,[],7⟩,⟨1,10633823968755207061801218131552632832,[32],0⟩,⟨2,0,[],8⟩,⟨1,42535295875020828247204870327187275776,[34],0⟩,⟨2,0,[],9⟩,⟨1,8935418883662151680,[36],0⟩,⟨1,2305843009213693952,[36],0⟩,⟨1,2305843009213693952,[38],0⟩,⟨1,2305843009213693952,[36],0⟩,⟨1,8589934592,[40],0⟩,⟨1,2305843009213693952,[36],0⟩,⟨1,1152921504606846976,[42],0⟩,⟨1,2305843009213693952,[36],0⟩,⟨1,4611686018427387904,[44],0⟩,⟨1,274877906944,[36],0⟩,⟨1,274877906944,[46],0⟩,⟨1,21267647932558653966460912964485513216,[36],0⟩,⟨1,21267647932558653966460912964485513216,[48],0⟩,⟨1,4611686018427387904,[36],0⟩,⟨1,35184372088832,[50],0⟩,⟨0,0,[37,39,41,43,45,47,49,51],0⟩,⟨0,0,[2,4,8,21,26,29,31,33,35,52],0⟩]
theorem Ph:fk D2= .inr (AE,53):=rfl
def NC:List (List Nat×Nat):=[([2,4,8,21,26,29,31,33,35,37,39,41,43,45,47,49,51],0),([0,2],0),([3],0),([36,40],0),([30],0),([36],0),([46],1),([32],0),([34],0),([36,50],0),([25,28,36],0),([9,14,18,21],0),([36,42],0),([36,38],0),([36,44],0),([5,7],0),([48],1),([27],0),([22,24],0),([17],1),([11,12],1),([9,14,17],0),([11],2),([9,11],0)]
def Px:List UInt8:=[0,0,0,0,0,0,0,0,0,9,10,0,0,9,0,0,0,0,0,0,0,0,0,0,0,0,0,0,0,0,0,0,9,33,34,0,0,37,38,0,40,41,42,43,37,45,46,47,48,48,48,48,48,48,48,48,48,48,37,37,60,61,62,0,0,65,65,65,65,69,65,65,65,65,65,65,65,65,65,65,65,65,65,65,65,65,65,65,65,65,65,40,0,41,0,65,0,65,65,65,65,69,65,65,65,65,65,65,65,65,65,65,65,65,65,65,65,65,65,65,65,65,65,40,124,41]++List.replicate 130 0
def LP:List UInt8:=[0,9,10,33,34,37,38,40,41,42,43,45,46,47,48,60,61,62,65,69,124]
def D1:List By:=[[91,94,34,92,92,92,110,93,43],[92,92,91,110,114,116,34,92,92,48,93],[34],[92,110]]
def AD:List bA:=[⟨2,0,[],0⟩,⟨0,0,[2,0],0⟩,⟨1,115792089237316195423570985008687907853269984665635612279300442486796353272831,[1],0⟩,⟨2,0,[],1⟩,⟨1,105144016337090416619545142419783680,[3],0⟩,⟨1,4951760157141521099596496896,[4],0⟩,⟨2,0,[],2⟩,⟨1,17179869184,[6],0⟩,⟨2,0,[],3⟩,⟨1,1024,[8],0⟩,⟨0,0,[2,5,7,9],0⟩]
theorem Kl:fk D1= .inr (AD,10):=rfl
def Qc:List (List Nat×Nat):=[([2,5,7,9],0),([0,2],0),([8],0),([6],0),([4],1),([3],0)]
def Pw:List UInt8:=[0,0,0,0,0,0,0,0,0,0,10,0,0,0,0,0,0,0,0,0,0,0,0,0,0,0,0,0,0,0,0,0,0,0,34,0,0,0,0,0,0,0,0,0,0,0,0,0,48]++List.replicate 43 0++[92,0,0,0,0,0,0,0,0,0,0,0,0,0,0,0,0,0,48,0,0,0,48,0,48]++List.replicate 139 0
def LN:List UInt8:=[0,10,34,48,92]
def DZ:List By:=[[47,92,42],[92,42,47],[91,94,92,42,47,93,43],[91,92,42,47,93]]
def AB:List bA:=[⟨2,0,[],0⟩,⟨1,4398046511104,[0],0⟩,⟨1,140737488355328,[1],0⟩,⟨2,0,[],1⟩,⟨1,140737488355328,[3],0⟩,⟨1,4398046511104,[4],0⟩,⟨2,0,[],2⟩,⟨0,0,[8,6],0⟩,⟨1,115792089237316195423570985008687907853269984665640564039457583862777594773503,[7],0⟩,⟨2,0,[],3⟩,⟨1,145135534866432,[9],0⟩,⟨0,0,[2,5,8,10],0⟩]
theorem Pg:fk DZ= .inr (AB,11):=rfl
def KV:List (List Nat×Nat):=[([2,5,8,10],0),([6,8],0),([4,9],0),([1,9],0),([3],0),([0],0)]
def Pv:List UInt8:=List.replicate 42 0++[42,0,0,0,0,47]++List.replicate 208 0
def LM:List UInt8:=[0,42,47]
theorem L9:jA AE Px LP=true:=by decide +kernel
theorem Mc:rf AE NC LP=true:=by decide +kernel
theorem L6:Bi NC (bW AE 53)=some 0/\bW AE 53≠[]/\¬0<=bf AE (bW AE 53):=by decide +kernel
theorem L8:jA AD Pw LN=true:=by decide +kernel
theorem Mb:rf AD Qc LN=true:=by decide +kernel
theorem L5:Bi Qc (bW AD 10)=some 0/\bW AD 10≠[]/\¬0<=bf AD (bW AD 10):=by decide +kernel
theorem L7:jA AB Pv LM=true:=by decide +kernel
theorem Ma:rf AB KV LM=true:=by decide +kernel
theorem L4:Bi KV (bW AB 11)=some 0/\bW AB 11≠[]/\¬0<=bf AB (bW AB 11):=by decide +kernel
end Go.Proofs.YtpjgdgdnbkjoiaaGreatDoor

/- What the proof of the statement leans on (part 17). -/
import Derived.Lib.ItoaLen
import Derived.Test.YtiigijehmmcfgaaGreatDoorQp

namespace Go.Proofs.YtiigijehmmcfgaaGreatDoor
open Go
section
variable {s st k:Nat}{live:List Bool}{cls:List Int}{of:List Nat}{t:Int}{ss:List bQ}{tab reps:List UInt8}
def gE (l:List Int):By:=l.flatMap fun n=>Lib.itoa n++[32]
theorem qP (u:Nat):∀c∈Lib.decDigits u,48<=c.toNat/\c.toNat<=57:=by
 induction u using Nat.strongRecOn with
 |_ u ih =>
  intro c hc;rw[Lib.decDigits] at hc;split at hc
  · rename_i h;simp at hc;subst hc;simp;omega
  · rename_i h
    rcases List.mem_append.1 hc with k|k
    · exact ih (u / 10) (by omega) c k
    · simp at k;subst k;have:u%10<10:=Nat.mod_lt _ (by decide);simp;omega
def FP (l:By):Nat:=l.foldl (fun a c=>a*10+(c.toNat-48)) 0
theorem sL (u:Nat):FP (Lib.decDigits u)=u:=by
 induction u using Nat.strongRecOn with
 |_ u ih =>
  rw[Lib.decDigits];split
  · rename_i h;simp[FP];omega
  · rename_i h;have h1:=ih (u / 10) (by omega);unfold FP at h1 ⊢;rw[List.foldl_append,h1];have:u%10<10:=Nat.mod_lt _ (by decide);simp;omega
theorem uo (n:Int):∀c∈Lib.itoa n,c≠32:=by
 intro c hc e;subst e;unfold Lib.itoa at hc;split at hc
 · rcases List.mem_cons.1 hc with k|k
   · cases k
   · have:=(qP _ _ k).1;simp at this
 · have:=(qP _ _ hc).1;simp at this
theorem Fx {m n:Int}(h:Lib.itoa m=Lib.itoa n):m=n:=by
 have neg:∀a b:Nat,45::Lib.decDigits a≠Lib.decDigits b:=fun a b e=>by
  have:(45:UInt8)∈Lib.decDigits b:=by rw[<-e];exact List.mem_cons_self
  have:=(qP _ _ this).1;simp at this
 unfold Lib.itoa at h;split at h<;>split at h
 · have h:=congrArg FP (List.cons.inj h).2;rw[sL,sL] at h;omega
 · exact absurd h (neg _ _)
 · exact absurd h.symm (neg _ _)
 · have h:=congrArg FP h;rw[sL,sL] at h;omega
theorem si:∀(a b r s:By),(∀c∈a,c≠32)->(∀c∈b,c≠32)->a++32::r=b++32::s->a=b/\r=s
 | [],[],r,s,_,_,h=>by simpa using h
 | [],d::b,r,s,_,hb,h=>by
  simp only[List.nil_append,List.cons_append,List.cons.injEq] at h;exact absurd h.1.symm (hb d List.mem_cons_self)
 |c::a,[],r,s,ha,_,h=>by
  simp only[List.nil_append,List.cons_append,List.cons.injEq] at h;exact absurd h.1 (ha c List.mem_cons_self)
 |c::a,d::b,r,s,ha,hb,h=>by
  simp only[List.cons_append,List.cons.injEq] at h;have:=si a b r s (fun x hx=>ha x (List.mem_cons_of_mem _ hx)) (fun x hx=>hb x (List.mem_cons_of_mem _ hx)) h.2;exact⟨by rw[h.1,this.1],this.2⟩
theorem key_inj:∀{l m:List Int},gE l=gE m->l=m
 | [],[],_=>rfl
 | [],n::m,h=>by
  have:=congrArg List.length h;simp[gE] at this
 |n::l,[],h=>by
  have:=congrArg List.length h;simp[gE] at this
 |n::l,k::m,h=>by
  have h':Lib.itoa n++32::gE l=Lib.itoa k++32::gE m:=by simpa [gE] using h
  obtain⟨h1,h2⟩:=si _ _ _ _ (uo n) (uo k) h';rw[Fx h1,key_inj h2]
theorem xZ:∀(l:List Int),(∀n∈l,-9223372036854775808<=n/\n<=9223372036854775807)->(gE l).length<=22*l.length
 | [],_=>by simp[gE]
 |n::l,h=>by
  have h1:=xZ l (fun x hx=>h x (List.mem_cons_of_mem _ hx));have hn:=h n List.mem_cons_self;have h2:=Lib.itoa_length_le n hn.1 hn.2;have e:gE (n::l)=Lib.itoa n++[32]++gE l:=rfl;have h3:(gE (n::l)).length=(Lib.itoa n).length+1+(gE l).length:=by rw[e,List.length_append,List.length_append];rfl
  rw[h3,List.length_cons];omega
theorem Fv (l:List Int) (n:Int):gE (l++[n])=gE l++Lib.itoa n++[32]:=by simp[gE]
structure Row where
 v:List Int
 len:v.length=256
structure b9 where
 next:List Row
 rule:List Int
def b9.to (d:b9) (s:Nat) (c:UInt8):Int:=match d.next[s]? with|some r=>r.v.getD c.toNat (-1)|none=> -1
def b9.ru (d:b9) (s:Nat):Int:=d.rule.getD s (-1)
structure b9.Ok (d:b9):Prop where
 len:d.rule.length=d.next.length
 size:d.next.length<=2000
 to:∀r∈d.next,∀x∈r.v,-1<=x/\x<d.next.length
 ru:∀x∈d.rule,-1<=x/\x<=1000000
theorem Row.at {r:Row}(c:UInt8):∃x,r.v[c.toNat]? =some x/\r.v.getD c.toNat (-1)=x/\x∈r.v:=by
 have h:=r.len;have hc:=c.toNat_lt;have hx:r.v[c.toNat]? =some (r.v[c.toNat]'(by omega)):=List.getElem?_eq_getElem (by omega);exact⟨_,hx,by rw[List.getD_eq_getElem?_getD,hx];rfl,List.getElem_mem _⟩
theorem b9.pg {d:b9}(k:d.Ok) (c:UInt8) : -1<=d.to s c/\d.to s c<d.next.length:=by
 unfold b9.to;cases h:d.next[s]? with
 |none=>simp only;omega
 |some r =>
  obtain⟨x,hx,he,hm⟩:=r.at c;simp only;rw[he];exact k.to r (List.mem_of_getElem? h) x hm
def bw (d:b9):By->Nat->Nat->Int×Int->Int×Int×Int
 | [],st,k,b=>if 0<=d.ru st then (k,d.ru st,k) else (b.1,b.2,k)
 |c::l,st,k,b =>
  if 0<=d.to st c then bw d l (d.to st c).toNat (k+1) (if 0<=d.ru st then (k,d.ru st) else b)
  else if 0<=d.ru st then (k,d.ru st,k) else (b.1,b.2,k)
def dx (d:b9) (s:By) (a:Int):Int×Int×Int:=if d.next.length=0\/a<0\/(s.length:Int)<a then (0,-1,0) else bw d (s.drop a.toNat) 0 0 (0,-1)
def yb (l:List Nat):By:=gE (l.map Int.ofNat)
theorem Fw {l m:List Nat}(h:yb l=yb m):l=m:=by
 have:=key_inj h
 have hi:∀a b:List Nat,a.map Int.ofNat=b.map Int.ofNat->a=b:=by
  intro a
  induction a with
  |nil=>intro b h;cases b with
   |nil=>rfl
   |cons y b=>simp at h
  |cons x a ih=>intro b h;cases b with
   |nil=>simp at h
   |cons y b =>
    simp only[List.map_cons,List.cons.injEq] at h;rw[ih b h.2];have:=h.1;simp only[Int.ofNat_eq_natCast] at this;rw[show x=y by omega]
 exact hi _ _ this
def nX:Nat->List (List Nat)->List Nat->Option Nat
 |_,[],_=>none
 |i,x::r,l=>if l=x then some i else nX (i+1) r l
theorem oI:∀(ls:List (List Nat)) (i j:Nat) (l:List Nat),nX i ls l=some j->i<=j/\ls[j-i]? =some l
 | [],i,j,l,h=>by cases h
 |x::r,i,j,l,h=>by
  rw[nX] at h;split at h
  · rename_i e;cases h;subst e;exact⟨Nat.le_refl _,by simp⟩
  · have:=oI r (i+1) j l h;refine⟨by omega,?_⟩;rw[show j-i=(j-(i+1))+1 by omega,List.getElem?_cons_succ];exact this.2
theorem uB:∀(ls:List (List Nat)) (i:Nat) (l:List Nat),nX i ls l=none->l∉ls
 | [],i,l,_=>List.not_mem_nil
 |x::r,i,l,h=>by
  rw[nX] at h;split at h
  · cases h
  · rename_i e;have:=uB r (i+1) l h;simp only[List.mem_cons,not_or];exact⟨e,this⟩
def dL (ss:List bQ) (cur:List Nat) (lists:List (List Nat)) (b:Nat):List (List Nat)×Int :=
 if (cU ss (UInt8.ofNat b) cur).length=0 then (lists,-1)
 else match nX 0 lists (cU ss (UInt8.ofNat b) cur) with
  |some i=>(lists,(i:Int))
  |none=>(lists++[cU ss (UInt8.ofNat b) cur],(lists.length:Int))
def kX (ss:List bQ) (cur:List Nat):Nat->Nat->List (List Nat)->List Int->List (List Nat)×List Int
 | 0,_,lists,row=>(lists,row)
 |n+1,b,lists,row=>kX ss cur n (b+1) (dL ss cur lists b).1 (row++[(dL ss cur lists b).2])
def jI (l:List Int):Row:=⟨(l++List.replicate 256 (-1)).take 256,by rw[List.length_take,List.length_append,List.length_replicate];omega⟩
theorem sH {l:List Int}(h:l.length=256):(jI l).v=l:=by
 unfold jI;simp only;rw[List.take_append_of_le_length (by omega),List.take_of_length_le (by omega)]
def jW (ss:List bQ):Nat->Nat->List (List Nat)->List Row->List Int->Option b9
 | 0,_,_,_,_=>none
 |n+1,k,lists,next,rule =>
  match lists[k]? with
  |none=>some ⟨next,rule⟩
  |some cur =>
   if 2000<(kX ss cur 256 0 lists []).1.length then none
   else jW ss n (k+1) (kX ss cur 256 0 lists []).1 (next++[jI (kX ss cur 256 0 lists []).2]) (rule++[bJ ss cur])
def gu (ss:List bQ) (st:Nat):Int ⊕ b9 :=
 if (cI ss st).length=0 then .inl 1
 else match jW ss 2002 0 [cI ss st] [] [] with
  |none=>.inl 70
  |some d=>.inr d
def b9.row (d:b9) (k:Nat):List Int:=match d.next[k]? with|some r=>r.v|none=>[]
def gm (out:List Bool) (t:Int):Bool:=decide (0<=t) && out.getD t.toNat false
def dK (d:b9) (out:List Bool) (k:Nat):Bool:=decide (0<=d.ru k) ||(d.row k).any (gm out)
def cB (d:b9):Nat->Nat->List Bool->Bool->List Bool×Bool
 | 0,_,out,ag=>(out,ag)
 |n+1,k,out,ag=>if out.getD k false=true then cB d n (k+1) out ag else cB d n (k+1) (out.set k (dK d out k)) (ag ||dK d out k)
def gr (out:List Bool):Nat:=(out.filter fun b=> !b).length
def pT (d:b9):Nat->List Bool->List Bool
 | 0,out=>out
 |n+1,out=>if (cB d d.next.length 0 out false).2=true then pT d n (cB d d.next.length 0 out false).1 else (cB d d.next.length 0 out false).1
def bO (d:b9):List Bool:=pT d (d.next.length+1) (List.replicate d.next.length false)
theorem uF:∀(out:List Bool) (k:Nat) (b:Bool),out[k]? =some false->gr (out.set k b)+(if b then 1 else 0)=gr out
 | [],k,b,h=>by simp at h
 |x::r,0,b,h=>by simp at h;subst h;cases b<;>simp[gr]
 |x::r,k+1,b,h=>by
  have:=uF r k b (by simpa using h);unfold gr at this ⊢;rw[List.set_cons_succ];cases x<;>simp at this ⊢ <;>omega
theorem gH (d:b9):∀(n k:Nat) (out:List Bool) (ag:Bool),(cB d n k out ag).1.length=out.length
 | 0,_,_,_=>rfl
 |n+1,k,out,ag=>by
  rw[cB];split
  · exact gH d n _ _ _
  · rw[gH d n];simp
theorem iz (d:b9):∀(n k:Nat) (out:List Bool) (ag:Bool),k+n<=out.length->gr (cB d n k out ag).1<=gr out/\((cB d n k out ag).2=true->ag=true\/gr (cB d n k out ag).1<gr out)
 | 0,_,out,ag,_=>⟨Nat.le_refl _,fun h=>.inl h⟩
 |n+1,k,out,ag,hk=>by
  rw[cB];split
  · exact iz d n (k+1) out ag (by omega)
  · rename_i h
    have hf:out[k]? =some false:=by
     rw[List.getD_eq_getElem?_getD,List.getElem?_eq_getElem (by omega)] at h;rw[List.getElem?_eq_getElem (by omega)];simpa using h
    have h1:=uF out k (dK d out k) hf;have h2:=iz d n (k+1) (out.set k (dK d out k)) (ag ||dK d out k) (by simp;omega);refine⟨by omega,fun ht=>?_⟩
    rcases h2.2 ht with h3|h3
    · cases hb:dK d out k with
      |true=>rw[hb,if_pos rfl] at h1;right;rw[hb] at h2;omega
      |false=>rw[hb,Bool.or_false] at h3;exact .inl h3
    · right;omega
def jL:Nat->List (List Int)->List Int->Option Nat
 |_,[],_=>none
 |i,x::r,l=>if l=x then some i else jL (i+1) r l
theorem oJ:∀(ls:List (List Int)) (i j:Nat) (l:List Int),jL i ls l=some j->i<=j/\ls[j-i]? =some l
 | [],i,j,l,h=>by cases h
 |x::r,i,j,l,h=>by
  rw[jL] at h;split at h
  · rename_i e;cases h;subst e;exact⟨Nat.le_refl _,by simp⟩
  · have:=oJ r (i+1) j l h;refine⟨by omega,?_⟩;rw[show j-i=(j-(i+1))+1 by omega,List.getElem?_cons_succ];exact this.2
def cG (live:List Bool) (cls:List Int) (t:Int):Int:=if t<0\/live.getD t.toNat false=false then -2 else cls.getD t.toNat 0
def fj (d:b9) (live:List Bool) (cls:List Int) (k:Nat):List Int:=cls.getD k 0::(d.row k).map (cG live cls)
def bI (d:b9) (live:List Bool) (cls:List Int):Nat->Nat->List (List Int)->List Int->List (List Int)×List Int
 | 0,_,seen,after=>(seen,after)
 |n+1,k,seen,after =>
  match jL 0 seen (fj d live cls k) with
  |some i=>bI d live cls n (k+1) seen (after++[(i:Int)])
  |none=>bI d live cls n (k+1) (seen++[fj d live cls k]) (after++[(seen.length:Int)])
def jZ (d:b9) (live:List Bool):Nat->Nat->List Int->List Int
 | 0,_,cls=>cls
 |n+1,many,cls =>
  if (bI d live cls d.next.length 0 [] []).1.length=many then (bI d live cls d.next.length 0 [] []).2
  else jZ d live n (bI d live cls d.next.length 0 [] []).1.length (bI d live cls d.next.length 0 [] []).2
def ei (d:b9) (live:List Bool):List Int:=jZ d live (d.next.length+1) 0 d.rule
def jA (m:Nat) (l:List Int):Prop:=∀i,i<m->(i:Int)∈l
theorem oO:∀(m:Nat) (l:List Int),jA m l->m<=l.length
 | 0,_,_=>Nat.zero_le _
 |m+1,l,h=>by
  have hm:=h m (Nat.lt_succ_self m);have h1:jA m (l.erase (m:Int)):=fun i hi=>(List.mem_erase_of_ne (by omega)).2 (h i (by omega))
  have h2:=oO m _ h1;have h3:=List.length_erase_of_mem hm;have h4:0<l.length:=List.length_pos_of_mem hm;omega
structure Ch (d:b9) (live:List Bool) (cls:List Int) (k:Nat) (seen:List (List Int)) (after:List Int):Prop where
 len:after.length=k
 size:seen.length<=k
 nums:jA seen.length after
 bound:∀x∈after,0<=x/\x<seen.length
 all:∀j,j<k->fj d live cls j∈seen
theorem lH {d:b9}{live:List Bool}{cls:List Int}:∀(n k:Nat) (seen:List (List Int)) (after:List Int),Ch d live cls k seen after->Ch d live cls (k+n) (bI d live cls n k seen after).1 (bI d live cls n k seen after).2
 | 0,k,seen,after,h=>h
 |n+1,k,seen,after,h=>by
  rw[bI,show k+(n+1)=(k+1)+n by omega];split
  · rename_i i hi;have hi':=oJ seen 0 i _ hi;have hil:=(List.getElem?_eq_some_iff.1 hi'.2).1
    exact lH n (k+1) _ _ ⟨by simp[h.len],by have:=h.size;omega,fun j hj=>List.mem_append_left _ (h.nums j hj),fun x hx=>by
     rcases List.mem_append.1 hx with e|e
     · exact h.bound x e
     · have:x=(i:Int):=by simpa using e
       rw[this];omega,fun j hj=>by
     by_cases e:j=k
     · subst e;exact List.mem_of_getElem? hi'.2
     · exact h.all j (by omega)⟩
  · exact lH n (k+1) _ _ ⟨by simp[h.len],by have:=h.size;simp;omega,fun j hj=>by
     simp only[List.length_append,List.length_singleton] at hj
     by_cases e:j=seen.length
     · subst e;simp
     · exact List.mem_append_left _ (h.nums j (by omega)),fun x hx=>by
     simp only[List.length_append,List.length_singleton]
     rcases List.mem_append.1 hx with e|e
     · have:=h.bound x e;omega
     · have:x=(seen.length:Int):=by simpa using e
       omega,fun j hj=>by
     by_cases e:j=k
     · subst e;simp
     · exact List.mem_append_left _ (h.all j (by omega))⟩
theorem eT (d:b9) (live:List Bool) (cls:List Int):Ch d live cls d.next.length (bI d live cls d.next.length 0 [] []).1 (bI d live cls d.next.length 0 [] []).2:=by
 have:=lH (d:=d) (live:=live) (cls:=cls) d.next.length 0 [] [] ⟨rfl,Nat.le_refl _,fun i hi=>absurd hi (Nat.not_lt_zero _),fun x hx=>(by cases hx),fun j hj=>absurd hj (Nat.not_lt_zero _)⟩
 rwa [Nat.zero_add] at this
theorem mQ {d:b9}{many:Nat}(hc:jA many cls) (hl:cls.length=d.next.length):many<=(bI d live cls d.next.length 0 [] []).1.length:=by
 have h:=eT d live cls
 have:jA many ((bI d live cls d.next.length 0 [] []).1.map fun s=>s.getD 0 0):=fun i hi=>by
  obtain⟨k,hk⟩:=List.getElem?_of_mem (hc i hi);have hkl:=(List.getElem?_eq_some_iff.1 hk).1;have:=h.all k (by omega);refine List.mem_map.2 ⟨_,this,?_⟩;simp[fj,List.getD_eq_getElem?_getD,hk]
 have:=oO _ _ this;simpa using this
def nY (cls:List Int):Nat->List Nat->Int->Option Nat
 |_,[],_=>none
 |i,x::r,c=>if c=cls.getD x 0 then some i else nY cls (i+1) r c
theorem uE {cls:List Int}:∀(of:List Nat) (i j:Nat) (c:Int),nY cls i of c=some j->i<=j/\∃x,of[j-i]? =some x/\c=cls.getD x 0
 | [],i,j,c,h=>by cases h
 |x::r,i,j,c,h=>by
  rw[nY] at h;split at h
  · rename_i e;cases h;exact⟨Nat.le_refl _,x,by simp,e⟩
  · obtain⟨h1,y,h2,h3⟩:=uE r (i+1) j c h;refine⟨by omega,y,?_,h3⟩;rw[show j-i=(j-(i+1))+1 by omega,List.getElem?_cons_succ];exact h2
theorem oK {cls:List Int}:∀(of:List Nat) (i:Nat) (c:Int),nY cls i of c=none->∀x∈of,c≠cls.getD x 0
 | [],i,c,h,x,hx=>by cases hx
 |y::r,i,c,h,x,hx=>by
  rw[nY] at h;split at h
  · cases h
  · rename_i hn
    rcases List.mem_cons.1 hx with e|e
    · subst e;exact hn
    · exact oK r (i+1) c h x e
def cW (live:List Bool) (cls:List Int) (of:List Nat) (t:Int):List Nat×Int :=
 if t<0\/live.getD t.toNat false=false then (of,-1) else
  match nY cls 0 of (cls.getD t.toNat 0) with
  |some i=>(of,(i:Int))
  |none=>(of++[t.toNat],(of.length:Int))
def fK (live:List Bool) (cls:List Int):List Int->List Nat->List Int->List Nat×List Int
 | [],of,row=>(of,row)
 |t::r,of,row=>fK live cls r (cW live cls of t).1 (row++[(cW live cls of t).2])
def zM (d:b9) (live:List Bool) (cls:List Int):Nat->Nat->List Nat->List Row->List Int->b9
 | 0,_,_,next,rule=>⟨next,rule⟩
 |n+1,i,of,next,rule =>
  match of[i]? with
  |none=>⟨next,rule⟩
  |some k=>zM d live cls n (i+1) (fK live cls (d.row k) of []).1 (next++[jI (fK live cls (d.row k) of []).2]) (rule++[d.ru k])
def lf (d:b9):b9:=if d.next.length=0 then ⟨[],[]⟩ else zM d (bO d) (ei d (bO d)) (d.next.length+1) 0 [0] [] []
structure AQ (n:Nat) (of:List Nat):Prop where
 once:of.Nodup
 lt:∀x∈of,x<n
theorem zE:∀(n:Nat) (l:List Nat),l.Nodup->(∀x∈l,x<n)->l.length<=n
 | 0,[],_,_=>Nat.le_refl _
 | 0,x::l,_,h=>absurd (h x (by simp)) (Nat.not_lt_zero _)
 |n+1,l,hl,h=>by
  have h1:=zE n (l.erase n) (hl.erase n) (fun x hx=>by
   have:=(hl.mem_erase_iff).1 hx;have:=h x this.2;omega)
  by_cases hn:n∈l
  · have:=List.length_erase_of_mem hn;omega
  · rw[List.erase_of_not_mem hn] at h1;omega
theorem AQ.len {n:Nat}(k:AQ n of):of.length<=n:=zE n of k.once k.lt
theorem tK {n:Nat}(k:AQ n of) (ht:t<n):AQ n (cW live cls of t).1:=by
 unfold cW;split
 · exact k
 · rename_i hn;split
   · exact k
   · rename_i hf;have hne:=oK of 0 _ hf;refine⟨List.nodup_append.2 ⟨k.once,by simp,fun a ha b hb e=>?_⟩,fun x hx=>?_⟩
     · have:b=t.toNat:=by simpa using hb
       subst e;subst this;exact hne _ ha rfl
     · rcases List.mem_append.1 hx with e|e
       · exact k.lt x e
       · have:x=t.toNat:=by simpa using e
         omega
theorem Bt:of.length<=(cW live cls of t).1.length/\∀(i x:Nat),of[i]? =some x->(cW live cls of t).1[i]? =some x:=by
 unfold cW;split
 · exact⟨Nat.le_refl _,fun _ _ h=>h⟩
 · split
   · exact⟨Nat.le_refl _,fun _ _ h=>h⟩
   · exact⟨by simp,fun i x h=>by rw[List.getElem?_append_left (List.getElem?_eq_some_iff.1 h).1];exact h⟩
def vh (L:List (List Nat)) (l:List Nat) (to:Int):Prop:=(l.length=0/\to= -1)\/(l.length≠0/\∃i:Nat,to=(i:Int)/\L[i]? =some l)
theorem vh.mono {L L':List (List Nat)}{l:List Nat}{to:Int}(k:vh L l to) (h:L <+: L'):vh L' l to:=by
 rcases k with k|⟨k,i,e,hi⟩
 · exact .inl k
 · obtain⟨t,rfl⟩:=h;exact .inr ⟨k,i,e,by rw[List.getElem?_append_left (List.getElem?_eq_some_iff.1 hi).1];exact hi⟩
theorem xL (ss:List bQ) (cur:List Nat) (lists:List (List Nat)) (b:Nat) (hn:lists.Nodup) :
 lists <+: (dL ss cur lists b).1/\(dL ss cur lists b).1.Nodup/\vh (dL ss cur lists b).1 (cU ss (UInt8.ofNat b) cur) (dL ss cur lists b).2:=by
 unfold dL;split
 · rename_i h;exact⟨List.prefix_refl _,hn,.inl ⟨h,rfl⟩⟩
 · rename_i h;split
   · rename_i i hi;exact⟨List.prefix_refl _,hn,.inr ⟨h,i,rfl,(oI lists 0 i _ hi).2⟩⟩
   · rename_i hi;refine⟨List.prefix_append _ _,List.nodup_append.2 ⟨hn,by simp,fun x hx y hy e=>?_⟩,.inr ⟨h,lists.length,rfl,by simp⟩⟩;have:y=cU ss (UInt8.ofNat b) cur:=by simpa using hy
     exact uB lists 0 _ hi (by rw[<-this,<-e];exact hx)
theorem qE (ss:List bQ) (cur:List Nat):∀(n b:Nat) (lists:List (List Nat)) (row:List Int),lists.Nodup ->
 lists <+: (kX ss cur n b lists row).1/\(kX ss cur n b lists row).1.Nodup/\∃ys,(kX ss cur n b lists row).2=row++ys/\ys.length=n/\∀(j:Nat) (y:Int),ys[j]? =some y->vh (kX ss cur n b lists row).1 (cU ss (UInt8.ofNat (b+j)) cur) y
 | 0,b,lists,row,hn=>⟨List.prefix_refl _,hn,[],by simp[kX],rfl,fun j y h=>by simp at h⟩
 |n+1,b,lists,row,hn=>by
  obtain⟨h1,h2,h3⟩:=xL ss cur lists b hn;obtain⟨k1,k2,ys,k3,k4,k5⟩:=qE ss cur n (b+1) (dL ss cur lists b).1 (row++[(dL ss cur lists b).2]) h2;rw[kX];refine⟨h1.trans k1,k2,(dL ss cur lists b).2::ys,by rw[k3];simp,by simp[k4],fun j y hy=>?_⟩;cases j with
  |zero =>
   simp only[List.getElem?_cons_zero,Option.some.injEq] at hy;subst hy;exact h3.mono k1
  |succ j =>
   rw[List.getElem?_cons_succ] at hy;have:=k5 j y hy
   rwa [show b+(j+1)=b+1+j by omega]
structure ni (ss:List bQ) (st:Nat) (lists:List (List Nat)) (d:b9):Prop where
 first:lists[0]? =some (cI ss st)
 once:lists.Nodup
 size:lists.length<=2000
 rlen:d.rule.length=d.next.length
 row:∀(k:Nat) (r:Row) (l:List Nat),d.next[k]? =some r->lists[k]? =some l->∀(b:Nat) (y:Int),r.v[b]? =some y->vh lists (cU ss (UInt8.ofNat b) l) y
 rule:∀(k:Nat) (x:Int) (l:List Nat),d.rule[k]? =some x->lists[k]? =some l->x=bJ ss l
theorem rV {ss:List bQ}{st:Nat}:∀(n k:Nat) (lists:List (List Nat)) (next:List Row) (rule:List Int) (d:b9),ni ss st lists ⟨next,rule⟩->next.length=k->k<=lists.length->jW ss n k lists next rule=some d->∃L,lists <+: L/\ni ss st L d/\L.length=d.next.length
 | 0,k,lists,next,rule,d,h,hk,hkl,hd=>by cases hd
 |n+1,k,lists,next,rule,d,h,hk,hkl,hd=>by
  rw[jW] at hd;split at hd
  · rename_i hn;cases hd;have:=List.getElem?_eq_none_iff.1 hn;exact⟨lists,List.prefix_refl _,h,by show lists.length=next.length;omega⟩
  · rename_i cur hcur;obtain⟨h1,h2,ys,h3,h4,h5⟩:=qE ss cur 256 0 lists [] h.once;split at hd
    · cases hd
    · rename_i hsz;have hkl2:=(List.getElem?_eq_some_iff.1 hcur).1
      have hpre:∀(i:Nat) (l:List Nat),i<lists.length->(kX ss cur 256 0 lists []).1[i]? =some l->lists[i]? =some l:=fun i l hi hl=>by
       obtain⟨t,ht⟩:=h1;rw[<-ht,List.getElem?_append_left hi] at hl;exact hl
      have hpre2:∀(i:Nat) (l:List Nat),lists[i]? =some l->(kX ss cur 256 0 lists []).1[i]? =some l:=fun i l hl=>by
       obtain⟨t,ht⟩:=h1;rw[<-ht,List.getElem?_append_left (List.getElem?_eq_some_iff.1 hl).1];exact hl
      have hlen:=h1.length_le;have hrl:rule.length=next.length:=h.rlen
      obtain⟨L,g1,g2,g3⟩:=rV (st:=st) n (k+1) _ _ _ d ⟨hpre2 _ _ h.first,h2,by omega,by simp[hrl],fun i r l hr hl b y hy=>by
       rcases Nat.lt_or_ge i next.length with hi|hi
       · rw[List.getElem?_append_left hi] at hr;exact(h.row i r l hr (hpre i l (by omega) hl) b y hy).mono h1
       · have hik:i=next.length:=by
          have:=(List.getElem?_eq_some_iff.1 hr).1;simp at this;omega
         subst hik;simp only[List.getElem?_concat_length,Option.some.injEq] at hr;subst hr;have hlc:=hpre _ l (by omega) hl;rw[hk] at hlc;rw[hcur] at hlc;cases hlc;rw[h3,List.nil_append,sH h4] at hy;have:=h5 b y hy
         rwa [Nat.zero_add] at this,fun i x l hx hl=>by
       rcases Nat.lt_or_ge i rule.length with hi|hi
       · rw[List.getElem?_append_left hi] at hx;exact h.rule i x l hx (hpre i l (by omega) hl)
       · have hik:i=rule.length:=by
          have:=(List.getElem?_eq_some_iff.1 hx).1;simp at this;omega
         subst hik;simp only[List.getElem?_concat_length,Option.some.injEq] at hx;subst hx;have hlc:=hpre _ l (by omega) hl;rw[hrl,hk,hcur] at hlc;cases hlc;rfl⟩ (by simp[hk]) (by omega) hd
      exact⟨L,h1.trans g1,g2,g3⟩
theorem u7 {ss:List bQ}(hr:∀x∈ss,x.rule<=1000000):∀(l:List Nat) (b:Int),-1<=b/\b<=1000000-> -1<=qt ss l b/\qt ss l b<=1000000
 | [],b,h=>h
 |j::r,b,h=>by
  rw[qt];refine u7 hr r _ ?_;split
  · rename_i x hx;split
    · have:=hr x (List.mem_of_getElem? hx);omega
    · exact h
  · exact h
theorem uZ (hr:∀x∈ss,x.rule<=1000000) (l:List Nat) : -1<=bJ ss l/\bJ ss l<=1000000:=by
 unfold bJ;split
 · omega
 · exact u7 hr l (-1) (by omega)
theorem ni.ok {L:List (List Nat)}{d:b9}(k:ni ss st L d) (hL:L.length=d.next.length) (hr:∀x∈ss,x.rule<=1000000):d.Ok:=by
 refine⟨k.rlen,by rw[<-hL];exact k.size,fun r hrm x hx=>?_,fun x hx=>?_⟩
 · obtain⟨i,hi⟩:=List.getElem?_of_mem hrm;obtain⟨j,hj⟩:=List.getElem?_of_mem hx;have hil:=(List.getElem?_eq_some_iff.1 hi).1;have hl:L[i]? =some (L[i]'(by omega)):=List.getElem?_eq_getElem _
   rcases k.row i r _ hi hl j x hj with ⟨_,rfl⟩|⟨_,i2,rfl,h2⟩
   · omega
   · have:=(List.getElem?_eq_some_iff.1 h2).1;omega
 · obtain⟨i,hi⟩:=List.getElem?_of_mem hx;have hil:=(List.getElem?_eq_some_iff.1 hi).1;have hl:L[i]? =some (L[i]'(by rw[hL,<-k.rlen];exact hil)):=List.getElem?_eq_getElem _;rw[k.rule i x _ hi hl];exact uZ hr _
theorem jb {d:b9}(h:gu ss st= .inr d):(cI ss st).length≠0/\∃L,ni ss st L d/\L.length=d.next.length/\0<L.length:=by
 unfold gu at h;split at h
 · cases h
 · rename_i hs;refine⟨hs,?_⟩;split at h
   · cases h
   · rename_i d' hd;cases h;obtain⟨L,h1,h2,h3⟩:=rV (st:=st) 2002 0 [cI ss st] [] [] d ⟨rfl,by simp,by simp,rfl,fun k r l hr=>by simp at hr,fun k x l hx=>by simp at hx⟩ rfl (by simp) hd;exact⟨L,h2,h3,by have:=(List.getElem?_eq_some_iff.1 h2.first).1;omega⟩
theorem D6 {d:b9}(h:gu ss st= .inr d) (hr:∀x∈ss,x.rule<=1000000):d.Ok:=by
 obtain⟨_,L,h1,h2,_⟩:=jb h;exact h1.ok h2 hr
def b9.go (d:b9):By->Int->Int
 | [],s=>s
 |c::l,s=>b9.go d l (if s<0 then -1 else d.to s.toNat c)
def b9.fI (d:b9) (s:Int) (w:By):Int:=if d.go w s<0 then -1 else d.ru (d.go w s).toNat
theorem go_neg (d:b9):∀(w:By) (s:Int),s<0->d.go w s<0
 | [],s,h=>h
 |c::l,s,h=>by
  rw[b9.go,if_pos h];exact go_neg d l (-1) (by decide)
theorem ko (d:b9) (w:By){s:Int}(h:s<0):d.fI s w= -1:=by rw[b9.fI,if_pos (go_neg d w s h)]
theorem dW (d:b9) (k:Nat):d.fI (k:Int) []=d.ru k:=by
 rw[b9.fI,b9.go,if_neg (by omega),Int.toNat_natCast]
theorem eB (d:b9) (k:Nat) (c:UInt8) (w:By):d.fI (k:Int) (c::w)=d.fI (d.to k c) w:=by
 have h:¬((k:Int)<0):=by omega
 rw[b9.fI,b9.fI,b9.go,if_neg h,Int.toNat_natCast]
def Gm (d:b9) (k:Nat):Prop:=∃w,0<=d.fI (k:Int) w
def ir (d:b9) (out:List Bool):Prop:=∀k:Nat,out.getD k false=true->Gm d k
theorem EU {d:b9}(h:t∈d.row k):∃c:UInt8,d.to k c=t:=by
 unfold b9.row at h;split at h
 · rename_i r hr;obtain⟨i,hi⟩:=List.getElem?_of_mem h;have hl:=(List.getElem?_eq_some_iff.1 hi).1;rw[r.len] at hl;refine⟨UInt8.ofNat i,?_⟩;have hc:(UInt8.ofNat i).toNat=i:=by simp;omega
   unfold b9.to;rw[hr];simp only;rw[hc,List.getD_eq_getElem?_getD,hi];rfl
 · cases h
theorem Ik {d:b9}(c:UInt8) (h:k<d.next.length):d.to k c∈d.row k:=by
 have hr:d.next[k]? =some (d.next[k]'h):=List.getElem?_eq_getElem _
 obtain⟨x,hx,he,hm⟩:=(d.next[k]'h).at c;unfold b9.to b9.row;rw[hr];simp only;rw[he];exact hm
theorem xS {d:b9}{out:List Bool}(h:ir d out) (k:Nat) (ha:dK d out k=true):Gm d k:=by
 unfold dK at ha
 rcases Bool.or_eq_true _ _▸ha with e|e
 · exact⟨[],by rw[dW];exact of_decide_eq_true e⟩
 · obtain⟨t,ht,hl⟩:=List.any_eq_true.1 e;unfold gm at hl;rw[Bool.and_eq_true] at hl;have h0:=of_decide_eq_true hl.1;obtain⟨c,hc⟩:=EU ht;obtain⟨w,hw⟩:=h t.toNat hl.2;refine⟨c::w,?_⟩;rw[eB,hc]
   rwa [Int.toNat_of_nonneg h0] at hw
theorem Dm {d:b9}{out:List Bool}(h:ir d out) (k:Nat):ir d (out.set k (dK d out k)):=by
 intro j hj
 by_cases e:k=j
 · subst e;rw[List.getD_eq_getElem?_getD] at hj
   by_cases hk:k<out.length
   · rw[List.getElem?_set_self hk] at hj;exact xS h k hj
   · rw[List.getElem?_eq_none (by simp;omega)] at hj;cases hj
 · rw[List.getD_eq_getElem?_getD,List.getElem?_set_ne e,<-List.getD_eq_getElem?_getD] at hj;exact h j hj
theorem jr {d:b9}:∀(n k:Nat) (out:List Bool) (ag:Bool),ir d out->ir d (cB d n k out ag).1
 | 0,_,_,_,h=>h
 |n+1,k,out,ag,h=>by
  rw[cB];split
  · exact jr n (k+1) out ag h
  · exact jr n (k+1) _ _ (Dm h k)
theorem jq {d:b9}:∀(n k:Nat) (out:List Bool) (ag:Bool),k+n<=out.length->(cB d n k out ag).2=false->(cB d n k out ag).1=out/\∀j,k<=j->j<k+n->out.getD j false=false->dK d out j=false
 | 0,_,_,_,_,_=>⟨rfl,fun j h1 h2=>by omega⟩
 |n+1,k,out,ag,hk,h=>by
  rw[cB] at h ⊢;split at h
  · rename_i hg;rw[if_pos hg];obtain⟨h1,h2⟩:=jq n (k+1) out ag (by omega) h
    exact⟨h1,fun j hj1 hj2 hj3=>by
     by_cases e:j=k
     · subst e;rw[hg] at hj3;cases hj3
     · exact h2 j (by omega) (by omega) hj3⟩
  · rename_i hg;rw[if_neg hg]
    have hf:out[k]? =some false:=by
     rw[List.getD_eq_getElem?_getD,List.getElem?_eq_getElem (by omega)] at hg;rw[List.getElem?_eq_getElem (by omega)];simpa using hg
    obtain⟨h1,h2⟩:=jq n (k+1) _ _ (by simp;omega) h
    have hb:dK d out k=false:=by
     cases hb:dK d out k with
     |false=>rfl
     |true =>
      exfalso;rw[hb,Bool.or_true] at h
      have hmono:∀(n k:Nat) (out:List Bool),(cB d n k out true).2=true:=fun n=>by
       induction n with
       |zero=>intro k out;rfl
       |succ n ih=>intro k out;rw[cB];split<;>simp[ih]
      rw[hmono] at h;cases h
    have hset:out.set k (dK d out k)=out:=by
     rw[hb]
     apply List.ext_getElem?
     intro j
     by_cases e:k=j
     · subst e;rw[List.getElem?_set_self (by omega),hf]
     · rw[List.getElem?_set_ne e]
    rw[hset] at h1 h2;rw[hset]
    exact⟨h1,fun j hj1 hj2 hj3=>by
     by_cases e:j=k
     · subst e;exact hb
     · exact h2 j (by omega) (by omega) hj3⟩
def vg (d:b9) (out:List Bool):Prop:=∀k,k<d.next.length->out.getD k false=false->dK d out k=false
theorem tU {d:b9}:∀(n:Nat) (out:List Bool),out.length=d.next.length->gr out<n->ir d out->ir d (pT d n out)/\vg d (pT d n out)
 | 0,_,_,h,_=>absurd h (Nat.not_lt_zero _)
 |n+1,out,hl,hf,hs=>by
  have hless:=iz d d.next.length 0 out false (by omega)
  have hsp:=jr d.next.length 0 out false hs
  rw[pT];split
  · rename_i ht
    rcases hless.2 ht with e|e
    · cases e
    · exact tU n _ (by rw[gH];exact hl) (by omega) hsp
  · rename_i ht;have hst:=jq d.next.length 0 out false (by omega) (by simpa using ht)
    rw[hst.1];exact⟨hs,fun k hk hko=>hst.2 k (Nat.zero_le _) (by omega) hko⟩
theorem ql {d:b9}{out:List Bool}(hok:d.Ok) (h:vg d out):∀(w:By) (k:Nat),k<d.next.length->0<=d.fI (k:Int) w->out.getD k false=true
 | [],k,hk,hw=>by
  rw[dW] at hw;cases ho:out.getD k false with
  |true=>rfl
  |false =>
   have:=h k hk ho;unfold dK at this;rw[decide_eq_true hw] at this;cases this
 |c::w,k,hk,hw=>by
  rw[eB] at hw;have ht:=b9.pg hok (s:=k) c
  have h0:0<=d.to k c:=by
   by_cases e:d.to k c<0
   · rw[ko d w e] at hw;omega
   · omega
  obtain⟨t,htt⟩:=Int.eq_ofNat_of_zero_le h0;rw[htt] at hw;have ih:=ql hok h w t (by omega) hw;cases ho:out.getD k false with
  |true=>rfl
  |false =>
   have:=h k hk ho;unfold dK at this;rw[Bool.or_eq_false_iff] at this;have h2:=List.any_eq_false.1 this.2 _ (Ik c hk);unfold gm at h2;rw[htt,Int.toNat_natCast,ih] at h2;simp at h2
theorem tS {d:b9}(hok:d.Ok) (hk:k<d.next.length):(bO d).getD k false=true↔Gm d k:=by
 have h:=tU (d:=d) (d.next.length+1) (List.replicate d.next.length false) (by simp) (by
  have:gr (List.replicate d.next.length false)<=d.next.length:=by unfold gr;exact Nat.le_trans (List.length_filter_le _ _) (by simp)
  omega) (fun k hk=>by
   rw[List.getD_eq_getElem?_getD,List.getElem?_replicate] at hk;split at hk<;>cases hk)
 exact⟨h.1 k,fun⟨w,hw⟩=>ql hok h.2 w k hk hw⟩
structure C3 (d:b9) (live:List Bool) (cls:List Int) (k:Nat) (seen:List (List Int)) (after:List Int):Prop where
 len:after.length=k
 once:seen.Nodup
 at_:∀j,j<k->∃i:Nat,after[j]? =some (i:Int)/\seen[i]? =some (fj d live cls j)
theorem uD:∀(ls:List (List Int)) (i:Nat) (l:List Int),jL i ls l=none->l∉ls
 | [],i,l,_=>List.not_mem_nil
 |x::r,i,l,h=>by
  rw[jL] at h;split at h
  · cases h
  · rename_i e;have:=uD r (i+1) l h;simp only[List.mem_cons,not_or];exact⟨e,this⟩
theorem jX {d:b9}{live:List Bool}{cls:List Int}:∀(n k:Nat) (seen:List (List Int)) (after:List Int),C3 d live cls k seen after->C3 d live cls (k+n) (bI d live cls n k seen after).1 (bI d live cls n k seen after).2
 | 0,k,seen,after,h=>h
 |n+1,k,seen,after,h=>by
  rw[bI,show k+(n+1)=(k+1)+n by omega];split
  · rename_i i hi;have hi':=oJ seen 0 i _ hi;refine jX n (k+1) _ _ ⟨by simp[h.len],h.once,fun j hj=>?_⟩
    by_cases e:j=k
    · subst e;refine⟨i,?_,hi'.2⟩;rw[<-h.len,List.getElem?_concat_length]
    · obtain⟨i',h1,h2⟩:=h.at_ j (by omega);exact⟨i',by rw[List.getElem?_append_left (by rw[h.len];omega)];exact h1,h2⟩
  · rename_i hi;have hno:=uD seen 0 _ hi;refine jX n (k+1) _ _ ⟨by simp[h.len],List.nodup_append.2 ⟨h.once,by simp,fun a ha b hb e=>?_⟩,fun j hj=>?_⟩
    · have:b=fj d live cls k:=by simpa using hb
      rw[e,this] at ha;exact hno ha
    · by_cases e:j=k
      · subst e;refine⟨seen.length,?_,by rw[List.getElem?_concat_length]⟩;rw[<-h.len,List.getElem?_concat_length]
      · obtain⟨i',h1,h2⟩:=h.at_ j (by omega);exact⟨i',by rw[List.getElem?_append_left (by rw[h.len];omega)];exact h1,by rw[List.getElem?_append_left (List.getElem?_eq_some_iff.1 h2).1];exact h2⟩
theorem jY {d:b9}{t:Nat}(hs:s<d.next.length) (ht:t<d.next.length) :
 (bI d live cls d.next.length 0 [] []).2.getD s 0=(bI d live cls d.next.length 0 [] []).2.getD t 0↔fj d live cls s=fj d live cls t:=by
 have h:=jX (d:=d) (live:=live) (cls:=cls) d.next.length 0 [] [] ⟨rfl,by simp,fun j hj=>absurd hj (Nat.not_lt_zero _)⟩
 rw[Nat.zero_add] at h;obtain⟨i,h1,h2⟩:=h.at_ s hs;obtain⟨j,h3,h4⟩:=h.at_ t ht;rw[List.getD_eq_getElem?_getD,List.getD_eq_getElem?_getD,h1,h3];constructor
 · intro e
   have:i=j:=by
    have e':(i:Int)=(j:Int):=e;omega
   subst this;rw[h2] at h4;exact Option.some.inj h4
 · intro e;rw[<-e] at h4;have hi:=(List.getElem?_eq_some_iff.1 h2)
   have hj:=(List.getElem?_eq_some_iff.1 h4)
   obtain⟨hi1,hi2⟩:=hi;obtain⟨hj1,hj2⟩:=hj
   have:i=j:=by
    rcases Nat.lt_trichotomy i j with e|e|e
    · exact absurd (hi2.trans hj2.symm) (List.pairwise_iff_getElem.1 h.once i j hi1 hj1 e)
    · exact e
    · exact absurd (hj2.trans hi2.symm) (List.pairwise_iff_getElem.1 h.once j i hj1 hi1 e)
   subst this;rfl
theorem rY:∀(m:Nat) (l:List Int),jA m l->l.length=m->l.Nodup
 | 0,l,_,hl=>by rw[List.length_eq_zero_iff.1 hl];exact List.Pairwise.nil
 |m+1,l,h,hl=>by
  have hm:=h m (Nat.lt_succ_self m);have h1:jA m (l.erase (m:Int)):=fun i hi=>(List.mem_erase_of_ne (by omega)).2 (h i (by omega))
  have h3:=List.length_erase_of_mem hm;have h2:=rY m _ h1 (by omega)
  have hno:(m:Int)∉l.erase (m:Int):=fun hin=>by
   have h4:jA m ((l.erase (m:Int)).erase (m:Int)):=fun i hi=>(List.mem_erase_of_ne (by omega)).2 (h1 i hi)
   have h5:=oO _ _ h4;have h6:=List.length_erase_of_mem hin;have h7:=List.length_pos_of_mem hin;omega
  exact(List.perm_cons_erase hm).nodup_iff.2 (List.nodup_cons.2 ⟨hno,h2⟩)
theorem pL {d:b9}(hs:s<d.next.length) (c:UInt8):(d.row s)[c.toNat]? =some (d.to s c):=by
 have hr:d.next[s]? =some (d.next[s]'hs):=List.getElem?_eq_getElem _
 obtain⟨x,hx,he,_⟩:=(d.next[s]'hs).at c;unfold b9.row b9.to;rw[hr];simp only;rw[he];exact hx
theorem xJ {d:b9}(hs:s<d.next.length):(d.row s).length=256:=by
 have hr:d.next[s]? =some (d.next[s]'hs):=List.getElem?_eq_getElem _
 unfold b9.row;rw[hr];exact(d.next[s]'hs).len
theorem Cx {d:b9}{t:Nat}(hs:s<d.next.length) (ht:t<d.next.length) (f:Int->Int):(d.row s).map f=(d.row t).map f↔∀c:UInt8,f (d.to s c)=f (d.to t c):=by
 constructor
 · intro e c;have:=congrArg (fun l=>l[c.toNat]?) e;simp only[List.getElem?_map,pL hs c,pL ht c,Option.map_some,Option.some.injEq] at this;exact this
 · intro h
   apply List.ext_getElem?
   intro i
   by_cases hi:i<256
   · have hc:(UInt8.ofNat i).toNat=i:=by simp;omega
     have h1:=pL hs (UInt8.ofNat i);have h2:=pL ht (UInt8.ofNat i);rw[hc] at h1 h2;rw[List.getElem?_map,List.getElem?_map,h1,h2,Option.map_some,Option.map_some,h]
   · rw[List.getElem?_eq_none (by rw[List.length_map,xJ hs];omega),List.getElem?_eq_none (by rw[List.length_map,xJ ht];omega)]
def Alike (d:b9) (a b:Int):Prop:=∀w,d.fI a w=d.fI b w
theorem Ct {d:b9}(hok:d.Ok) (a:Int) (w:By) : -1<=d.fI a w:=by
 unfold b9.fI;split
 · omega
 · unfold b9.ru;rw[List.getD_eq_getElem?_getD];cases h:d.rule[(d.go w a).toNat]? with
   |none=>decide
   |some x=>exact(hok.ru x (List.mem_of_getElem? h)).1
theorem ju {d:b9}(hok:d.Ok){a:Int}(ha:a<d.next.length):(a<0\/(bO d).getD a.toNat false=false)↔∀w,d.fI a w= -1:=by
 constructor
 · intro h w
   rcases h with h|h
   · exact ko d w h
   · by_cases hn:a<0
     · exact ko d w hn
     · obtain⟨k,rfl⟩:=Int.eq_ofNat_of_zero_le (show 0<=a by omega);have hl:=tS hok (k:=k) (by omega);have hg:=Ct hok (k:Int) w
       by_cases hw:0<=d.fI (k:Int) w
       · rw[Int.toNat_natCast,hl.2 ⟨w,hw⟩] at h;cases h
       · omega
 · intro h
   by_cases hn:a<0
   · exact .inl hn
   · right
     obtain⟨k,rfl⟩:=Int.eq_ofNat_of_zero_le (show 0<=a by omega);have hl:=tS hok (k:=k) (by omega);rw[Int.toNat_natCast];cases hb:(bO d).getD k false with
     |false=>rfl
     |true =>
      obtain⟨w,hw⟩:=hl.1 hb;have:=h w;omega
structure sv (d:b9) (cls:List Int):Prop where
 len:cls.length=d.next.length
 ge:∀k,-1<=cls.getD k 0
 alike:∀s t:Nat,s<d.next.length->t<d.next.length->Alike d s t->cls.getD s 0=cls.getD t 0
 rule:∀s t:Nat,s<d.next.length->t<d.next.length->cls.getD s 0=cls.getD t 0->d.ru s=d.ru t
theorem yD {d:b9}(hok:d.Ok) (k:sv d cls){a b:Int}(ha:a<d.next.length) (hb:b<d.next.length) (h:Alike d a b):cG (bO d) cls a=cG (bO d) cls b:=by
 by_cases hd:a<0\/(bO d).getD a.toNat false=false
 · have hd':b<0\/(bO d).getD b.toNat false=false:=(ju hok hb).2 fun w=>by rw[<-h w];exact(ju hok ha).1 hd w
   rw[cG,if_pos hd,cG,if_pos hd']
 · have hd':¬(b<0\/(bO d).getD b.toNat false=false):=fun e=>hd ((ju hok ha).2 fun w=>by rw[h w];exact(ju hok hb).1 e w)
   rw[cG,if_neg hd,cG,if_neg hd']
   have ha0:0<=a:=by
    by_cases e:a<0
    · exact absurd (.inl e) hd
    · omega
   have hb0:0<=b:=by
    by_cases e:b<0
    · exact absurd (.inl e) hd'
    · omega
   exact k.alike a.toNat b.toNat (by omega) (by omega) (by rw[Int.toNat_of_nonneg ha0,Int.toNat_of_nonneg hb0];exact h)
theorem DQ {d:b9}(hok:d.Ok) (k:sv d cls){t:Nat}(hs:s<d.next.length) (ht:t<d.next.length) (h:Alike d s t):fj d (bO d) cls s=fj d (bO d) cls t:=by
 unfold fj;rw[k.alike s t hs ht h,(Cx hs ht _).2 fun c=>yD hok k (b9.pg hok c).2 (b9.pg hok c).2 fun w=>by rw[<-eB,<-eB];exact h (c::w)]
theorem Aj {d:b9}{t:Nat}(h:fj d live cls s=fj d live cls t):cls.getD s 0=cls.getD t 0:=by
 unfold fj at h;exact(List.cons.inj h).1
theorem E0 {d:b9}(hok:d.Ok) (k:sv d cls):sv d (bI d (bO d) cls d.next.length 0 [] []).2:=by
 have hend:=eT d (bO d) cls;refine⟨hend.len,fun j=>?_,fun s t hs ht h=>(jY hs ht).2 (DQ hok k hs ht h),fun s t hs ht h=>k.rule s t hs ht (Aj ((jY hs ht).1 h))⟩;rw[List.getD_eq_getElem?_getD];cases hx:(bI d (bO d) cls d.next.length 0 [] []).2[j]? with
 |none=>decide
 |some x=>have:=hend.bound x (List.mem_of_getElem? hx);show -1<=x;omega
theorem sF {d:b9}(hok:d.Ok) (hs:s<d.next.length):d.rule.getD s 0=d.ru s:=by
 have hl:=hok.len;unfold b9.ru;rw[List.getD_eq_getElem?_getD,List.getD_eq_getElem?_getD,List.getElem?_eq_getElem (by omega)];rfl
theorem ET {d:b9}(hok:d.Ok):sv d d.rule:=by
 refine⟨hok.len,fun k=>?_,fun s t hs ht h=>?_,fun s t hs ht h=>?_⟩
 · rw[List.getD_eq_getElem?_getD];cases hx:d.rule[k]? with
   |none=>decide
   |some x=>exact(hok.ru x (List.mem_of_getElem? hx)).1
 · rw[sF hok hs,sF hok ht];have:=h []
   rwa [dW,dW] at this
 · rwa [sF hok hs,sF hok ht] at h
theorem pF {d:b9}(hok:d.Ok){cls:List Int}(k:sv d cls) (hst:∀s t,s<d.next.length->t<d.next.length->cls.getD s 0=cls.getD t 0->fj d (bO d) cls s=fj d (bO d) cls t):∀(w:By) (s t:Nat),s<d.next.length->t<d.next.length->cls.getD s 0=cls.getD t 0->d.fI (s:Int) w=d.fI (t:Int) w
 | [],s,t,hs,ht,h=>by rw[dW,dW];exact k.rule s t hs ht h
 |c::w,s,t,hs,ht,h=>by
  rw[eB,eB];have hk:=hst s t hs ht h;unfold fj at hk;have hb:=(Cx hs ht _).1 (List.cons.inj hk).2 c;have ha:=(b9.pg hok (s:=s) c).2;have hb2:=(b9.pg hok (s:=t) c).2;generalize d.to s c=a at *;generalize d.to t c=b at *
  by_cases hd:a<0\/(bO d).getD a.toNat false=false
  · have hd':b<0\/(bO d).getD b.toNat false=false:=by
     by_cases e:b<0\/(bO d).getD b.toNat false=false
     · exact e
     · rw[cG,if_pos hd,cG,if_neg e] at hb;have:=k.ge b.toNat;omega
    rw[(ju hok ha).1 hd w,(ju hok hb2).1 hd' w]
  · by_cases hd':b<0\/(bO d).getD b.toNat false=false
    · rw[cG,if_neg hd,cG,if_pos hd'] at hb;have:=k.ge a.toNat;omega
    · rw[cG,if_neg hd,cG,if_neg hd'] at hb
      have ha0:0<=a:=by
       by_cases e:a<0
       · exact absurd (.inl e) hd
       · omega
      have hb0:0<=b:=by
       by_cases e:b<0
       · exact absurd (.inl e) hd'
       · omega
      have ih:=pF hok k hst w a.toNat b.toNat (by omega) (by omega) hb
      rwa [Int.toNat_of_nonneg ha0,Int.toNat_of_nonneg hb0] at ih
theorem sd {d:b9}(hok:d.Ok):∀(n many:Nat) (cls:List Int),sv d cls->jA many cls->many<=d.next.length->d.next.length+1<=n+many->sv d (jZ d (bO d) n many cls)/\∀s t:Nat,s<d.next.length->t<d.next.length->(jZ d (bO d) n many cls).getD s 0=(jZ d (bO d) n many cls).getD t 0->Alike d s t
 | 0,many,cls,k,hc,hm,hf=>by omega
 |n+1,many,cls,k,hc,hm,hf=>by
  have hend:=eT d (bO d) cls;have hmore:=mQ (live:=bO d) hc k.len;have hp:=E0 hok k;rw[jZ];split
  · rename_i he;refine⟨hp,fun s t hs ht h w=>?_⟩;have hkey:=(jY hs ht).1 h;refine pF hok k (fun s t hs ht h=>?_) w s t hs ht (Aj hkey)
    have hcov:jA many ((bI d (bO d) cls d.next.length 0 [] []).1.map fun s=>s.getD 0 0):=fun i hi=>by
     obtain⟨k',hk'⟩:=List.getElem?_of_mem (hc i hi);have hkl:=(List.getElem?_eq_some_iff.1 hk').1;have:=hend.all k' (by have:=k.len;omega);refine List.mem_map.2 ⟨_,this,?_⟩;simp[fj,List.getD_eq_getElem?_getD,hk']
    have hon:=rY many _ hcov (by simpa using he);obtain⟨i,hi⟩:=List.getElem?_of_mem (hend.all s hs);obtain⟨j,hj⟩:=List.getElem?_of_mem (hend.all t ht);have h1:((bI d (bO d) cls d.next.length 0 [] []).1.map fun s=>s.getD 0 0)[i]? =some (cls.getD s 0):=by rw[List.getElem?_map,hi];rfl
    have h2:((bI d (bO d) cls d.next.length 0 [] []).1.map fun s=>s.getD 0 0)[j]? =some (cls.getD s 0):=by rw[List.getElem?_map,hj,h];rfl
    obtain⟨hi1,hi2⟩:=List.getElem?_eq_some_iff.1 h1;obtain⟨hj1,hj2⟩:=List.getElem?_eq_some_iff.1 h2
    have hij:i=j:=by
     rcases Nat.lt_trichotomy i j with e|e|e
     · exact absurd (hi2.trans hj2.symm) (List.pairwise_iff_getElem.1 hon i j hi1 hj1 e)
     · exact e
     · exact absurd (hj2.trans hi2.symm) (List.pairwise_iff_getElem.1 hon j i hj1 hi1 e)
    subst hij;rw[hi] at hj;exact Option.some.inj hj
  · rename_i hne;have hsz:=hend.size;exact sd hok n _ _ hp hend.nums hsz (by omega)
theorem mR {d:b9}(hok:d.Ok){t:Nat}(hs:s<d.next.length) (ht:t<d.next.length):(ei d (bO d)).getD s 0=(ei d (bO d)).getD t 0↔Alike d s t:=by
 have h:=sd hok (d.next.length+1) 0 d.rule (ET hok) (fun i hi=>absurd hi (Nat.not_lt_zero _)) (Nat.zero_le _) (by omega);exact⟨h.2 s t hs ht,h.1.alike s t hs ht⟩
def Gh (d e:b9) (a b:Int):Prop:=∀w,d.fI a w=e.fI b w
inductive Ck (d e:b9):List Nat->List Nat->Prop
 |nil:Ck d e [] []
 |cons {x y:Nat}{o p:List Nat}:x<d.next.length->y<e.next.length->Gh d e x y->Ck d e o p->Ck d e (x::o) (y::p)
theorem zK:of <+: (cW live cls of t).1:=by
 unfold cW;split
 · exact List.prefix_refl _
 · split
   · exact List.prefix_refl _
   · exact List.prefix_append _ _
theorem oz {live:List Bool}{cls:List Int}:∀(r:List Int) (of:List Nat) (row:List Int),of <+: (fK live cls r of row).1
 | [],of,row=>List.prefix_refl _
 |t::r,of,row=>by
  rw[fK];exact zK.trans (oz r _ _)
theorem Iq {d:b9}(hd:d.Ok) (k:Nat):∀t∈d.row k,t<(d.next.length:Int):=fun t ht=>by
 obtain⟨c,rfl⟩:=EU ht;exact(b9.pg hd c).2
def oX (d:b9) (of:List Nat) (t y:Int):Prop:=((∀w,d.fI t w= -1)/\y= -1)\/((∃w,0<=d.fI t w)/\∃(i x:Nat),y=(i:Int)/\of[i]? =some x/\Alike d t x)
theorem oX.mono {d:b9}{of':List Nat}{y:Int}(k:oX d of t y) (h:of <+: of'):oX d of' t y:=by
 rcases k with k|⟨k,i,x,e,hi,ha⟩
 · exact .inl k
 · obtain⟨l,rfl⟩:=h;exact .inr ⟨k,i,x,e,by rw[List.getElem?_append_left (List.getElem?_eq_some_iff.1 hi).1];exact hi,ha⟩
def KK (d:b9) (of:List Nat):Prop:=∀(i j x y:Nat),of[i]? =some x->of[j]? =some y->Alike d x y->i=j
structure KF (d:b9) (of:List Nat):Prop where
 ok:AQ d.next.length of
 apart:KK d of
theorem zJ {d:b9}(hd:d.Ok) (k:KF d of) (ht:t<d.next.length) :
 KF d (cW (bO d) (ei d (bO d)) of t).1/\oX d (cW (bO d) (ei d (bO d)) of t).1 t (cW (bO d) (ei d (bO d)) of t).2:=by
 have hdead:=ju hd ht;have hok:=tK (live:=bO d) (cls:=ei d (bO d)) k.ok ht
 revert hok
 unfold cW;split
 · rename_i h;exact fun _=>⟨k,.inl ⟨hdead.1 h,rfl⟩⟩
 · rename_i h
   have halive:∃w,0<=d.fI t w:=by
    by_cases q:∃w,0<=d.fI t w
    · exact q
    · refine absurd (hdead.2 fun w=>?_) h;have h1:=Ct hd t w;have h2:¬0<=d.fI t w:=fun z=>q ⟨w,z⟩
      omega
   obtain⟨n,rfl⟩:=Int.eq_ofNat_of_zero_le (show 0<=t by omega);simp only[Int.toNat_natCast];split
   · rename_i i hi;intro _;obtain⟨_,x,hx,he⟩:=uE of 0 i _ hi;have hxl:=k.ok.lt x (List.mem_of_getElem? hx);exact⟨k,.inr ⟨halive,i,x,rfl,by simpa using hx,(mR hd (by omega) hxl).1 he⟩⟩
   · rename_i hi;intro hok;have hne:=oK of 0 _ hi;refine⟨⟨hok,fun i j x y hx hy ha=>?_⟩,.inr ⟨halive,of.length,n,rfl,by simp,fun w=>rfl⟩⟩
     have hcase:∀(i x:Nat),(of++[n])[i]? =some x->(i<of.length/\of[i]? =some x)\/(i=of.length/\x=n):=fun i x hx=>by
      rcases Nat.lt_or_ge i of.length with hl|hl
      · rw[List.getElem?_append_left hl] at hx;exact .inl ⟨hl,hx⟩
      · have:=(List.getElem?_eq_some_iff.1 hx).1;simp at this;have hil:i=of.length:=by omega
        subst hil;simp only[List.getElem?_concat_length,Option.some.injEq] at hx;exact .inr ⟨rfl,hx.symm⟩
     rcases hcase i x hx with ⟨h1,h2⟩|⟨h1,h2⟩<;>rcases hcase j y hy with ⟨h3,h4⟩|⟨h3,h4⟩
     · exact k.apart i j x y h2 h4 ha
     · subst h4;have hxm:=List.mem_of_getElem? h2;exact absurd ((mR hd (by omega) (k.ok.lt x hxm)).2 fun w=>(ha w).symm) (hne x hxm)
     · subst h2;have hym:=List.mem_of_getElem? h4;exact absurd ((mR hd (by omega) (k.ok.lt y hym)).2 ha) (hne y hym)
     · omega
theorem tL {d:b9}(hd:d.Ok):∀(r:List Int) (of:List Nat) (row:List Int),KF d of->(∀t∈r,t<(d.next.length:Int)) ->
 KF d (fK (bO d) (ei d (bO d)) r of row).1/\∃ys,(fK (bO d) (ei d (bO d)) r of row).2=row++ys/\ys.length=r.length/\∀(j:Nat) (t y:Int),r[j]? =some t->ys[j]? =some y->oX d (fK (bO d) (ei d (bO d)) r of row).1 t y
 | [],of,row,k,_=>⟨k,[],by simp[fK],rfl,fun j t y h=>by simp at h⟩
 |t::r,of,row,k,h=>by
  obtain⟨h1,h2⟩:=zJ hd k (h t (by simp));obtain⟨k1,ys,k3,k4,k5⟩:=tL hd r (cW (bO d) (ei d (bO d)) of t).1 (row++[(cW (bO d) (ei d (bO d)) of t).2]) h1 (fun u hu=>h u (by simp[hu]));rw[fK];refine⟨k1,(cW (bO d) (ei d (bO d)) of t).2::ys,by rw[k3];simp,by simp[k4],fun j u y hu hy=>?_⟩;cases j with
  |zero =>
   simp only[List.getElem?_cons_zero,Option.some.injEq] at hu hy;subst hu;subst hy;exact h2.mono (oz _ _ _)
  |succ j=>exact k5 j u y (by simpa using hu) (by simpa using hy)
structure vb (d:b9) (of:List Nat) (m:b9):Prop where
 rep:KF d of
 first:of[0]? =some 0
 rlen:m.rule.length=m.next.length
 row:∀(k:Nat) (r:Row) (x:Nat),m.next[k]? =some r->of[k]? =some x->∀(c:UInt8) (y:Int),r.v[c.toNat]? =some y->oX d of (d.to x c) y
 rule:∀(k:Nat) (y:Int) (x:Nat),m.rule[k]? =some y->of[k]? =some x->y=d.ru x
theorem zL {d:b9}(hd:d.Ok):∀(n i:Nat) (of:List Nat) (next:List Row) (rule:List Int),vb d of ⟨next,rule⟩->next.length=i->i<=of.length->n+i=d.next.length+1 ->
 ∃of',vb d of' (zM d (bO d) (ei d (bO d)) n i of next rule)/\of'.length=(zM d (bO d) (ei d (bO d)) n i of next rule).next.length
 | 0,i,of,next,rule,h,hi,hio,hn=>by have:=h.rep.ok.len;omega
 |n+1,i,of,next,rule,h,hi,hio,hn=>by
  rw[zM];split
  · rename_i hnone;have:=List.getElem?_eq_none_iff.1 hnone;exact⟨of,h,by show of.length=next.length;omega⟩
  · rename_i x hx;have hxl:=h.rep.ok.lt x (List.mem_of_getElem? hx);obtain⟨k1,ys,k3,k4,k5⟩:=tL hd (d.row x) of [] h.rep (Iq hd x);have hpre:=oz (live:=bO d) (cls:=ei d (bO d)) (d.row x) of [];rw[xJ hxl] at k4;have hol:=(List.getElem?_eq_some_iff.1 hx).1;generalize fK (bO d) (ei d (bO d)) (d.row x) of []=q at *
    have hb:∀(j y:Nat),j<of.length->q.1[j]? =some y->of[j]? =some y:=fun j y hj hy=>by
     obtain⟨t,ht⟩:=hpre;rw[<-ht,List.getElem?_append_left hj] at hy;exact hy
    have hf:∀(j y:Nat),of[j]? =some y->q.1[j]? =some y:=fun j y hy=>by
     obtain⟨t,ht⟩:=hpre;rw[<-ht,List.getElem?_append_left (List.getElem?_eq_some_iff.1 hy).1];exact hy
    have hrl:rule.length=next.length:=h.rlen
    have hlen:=hpre.length_le;refine zL hd n (i+1) _ _ _ ⟨k1,hf _ _ h.first,by simp[hrl],fun k r z hr hz c y hy=>?_,fun k y z hy hz=>?_⟩ (by simp[hi]) (by omega) (by omega)
    · rcases Nat.lt_or_ge k next.length with hk|hk
      · rw[List.getElem?_append_left hk] at hr;exact(h.row k r z hr (hb k z (by omega) hz) c y hy).mono hpre
      · have hkn:k=next.length:=by
         have:=(List.getElem?_eq_some_iff.1 hr).1;simp at this;omega
        subst hkn;simp only[List.getElem?_concat_length,Option.some.injEq] at hr;subst hr;have hzx:=hb _ z (by omega) hz;rw[hi,hx] at hzx;cases hzx;rw[k3,List.nil_append,sH k4] at hy;exact k5 c.toNat _ y (pL hxl c) hy
    · rcases Nat.lt_or_ge k rule.length with hk|hk
      · rw[List.getElem?_append_left hk] at hy;exact h.rule k y z hy (hb k z (by omega) hz)
      · have hkn:k=rule.length:=by
         have:=(List.getElem?_eq_some_iff.1 hy).1;simp at this;omega
        subst hkn;simp only[List.getElem?_concat_length,Option.some.injEq] at hy;subst hy;have hzx:=hb _ z (by omega) hz;rw[hrl,hi,hx] at hzx;cases hzx;rfl
theorem DF {d:b9}(hd:d.Ok) (hn:0<d.next.length):∃of,vb d of (lf d)/\of.length=(lf d).next.length:=by
 unfold lf;rw[if_neg (by omega)];refine zL hd _ 0 [0] [] [] ⟨⟨⟨by simp,fun x hx=>by simp at hx;omega⟩,fun i j x y hx hy _=>?_⟩,rfl,rfl,fun k r x hr=>by simp at hr,fun k y x hy=>by simp at hy⟩ rfl (by simp) (by omega);have h1:=(List.getElem?_eq_some_iff.1 hx).1;have h2:=(List.getElem?_eq_some_iff.1 hy).1;simp at h1 h2;omega
theorem vb.to {d m:b9}{of:List Nat}(k:vb d of m) (hl:of.length=m.next.length){s x:Nat}(hx:of[s]? =some x) (c:UInt8):oX d of (d.to x c) (m.to s c):=by
 have hs:=(List.getElem?_eq_some_iff.1 hx).1;have hr:m.next[s]? =some (m.next[s]'(by omega)):=List.getElem?_eq_getElem _
 obtain⟨y,hy,he,_⟩:=(m.next[s]'(by omega)).at c;unfold b9.to;rw[hr];simp only;rw[he];exact k.row s _ x hr hx c y hy
theorem vb.ru {d m:b9}{of:List Nat}(k:vb d of m) (hl:of.length=m.next.length){s x:Nat}(hx:of[s]? =some x):m.ru s=d.ru x:=by
 have hs:=(List.getElem?_eq_some_iff.1 hx).1;have hlt:s<m.rule.length:=by rw[k.rlen];omega
 have hr:m.rule[s]? =some (m.rule[s]'hlt):=List.getElem?_eq_getElem _;have:=k.rule s _ x hr hx;unfold b9.ru at this ⊢;rw[List.getD_eq_getElem?_getD,hr];exact this
theorem vb.fI {d m:b9}{of:List Nat}(k:vb d of m) (hl:of.length=m.next.length):∀(w:By) (s x:Nat),of[s]? =some x->m.fI (s:Int) w=d.fI (x:Int) w
 | [],s,x,hx=>by rw[dW,dW,k.ru hl hx]
 |c::w,s,x,hx=>by
  rw[eB,eB]
  rcases k.to hl hx c with ⟨h1,h2⟩|⟨_,i,y,h2,h3,h4⟩
  · rw[h2,ko m w (by decide),h1]
  · rw[h2,k.fI hl w i y h3,h4]
theorem vb.LP {d m:b9}(hd:d.Ok) (k:vb d of m) (hl:of.length=m.next.length):m.Ok:=by
 refine⟨k.rlen,by have:=k.rep.ok.len;have:=hd.size;omega,fun r hr x hx=>?_,fun x hx=>?_⟩
 · obtain⟨i,hi⟩:=List.getElem?_of_mem hr;obtain⟨j,hj⟩:=List.getElem?_of_mem hx;have hil:=(List.getElem?_eq_some_iff.1 hi).1;have hjl:=(List.getElem?_eq_some_iff.1 hj).1;rw[r.len] at hjl;have hc:(UInt8.ofNat j).toNat=j:=by simp;omega
   obtain⟨y,hy⟩:∃y,of[i]? =some y:=⟨_,List.getElem?_eq_getElem (by omega)⟩
   rcases k.row i r y hi hy (UInt8.ofNat j) x (by rw[hc];exact hj) with ⟨_,rfl⟩|⟨_,a,z,rfl,h3,_⟩
   · omega
   · have:=(List.getElem?_eq_some_iff.1 h3).1;omega
 · obtain⟨i,hi⟩:=List.getElem?_of_mem hx;have hil:=(List.getElem?_eq_some_iff.1 hi).1;have:=k.rlen;obtain⟨y,hy⟩:∃y,of[i]? =some y:=⟨_,List.getElem?_eq_getElem (by omega)⟩
   rw[k.rule i x y hi hy];unfold b9.ru;rw[List.getD_eq_getElem?_getD];cases h:d.rule[y]? with
   |none=>show -1<=(-1:Int)/\(-1:Int)<=1000000;omega
   |some v=>exact hd.ru v (List.mem_of_getElem? h)
def Trim (m:b9):Prop:=∀(s:Nat) (c:UInt8),s<m.next.length->0<=m.to s c->∃w,0<=m.fI (m.to s c) w
theorem wD {d:b9}(hd:d.Ok) (hn:0<d.next.length):(lf d).Ok/\0<(lf d).next.length/\(lf d).next.length<=d.next.length/\Gh (lf d) d 0 0/\Trim (lf d):=by
 obtain⟨of,k,hl⟩:=DF hd hn;have h0:=(List.getElem?_eq_some_iff.1 k.first).1;refine⟨k.LP hd hl,by omega,by have:=k.rep.ok.len;omega,fun w=>k.fI hl w 0 0 k.first,fun s c hs h=>?_⟩;obtain⟨x,hx⟩:∃x,of[s]? =some x:=⟨_,List.getElem?_eq_getElem (by omega)⟩
 rcases k.to hl hx c with ⟨h1,h2⟩|⟨⟨w,hw⟩,i,y,h2,h3,h4⟩
 · rw[h2] at h;omega
 · exact⟨w,by rw[h2,k.fI hl w i y h3,<-h4];exact hw⟩
theorem qh (d:b9):∀(l:By) (s k:Nat) (b:Int×Int),(∀w,d.fI (s:Int) w= -1)->(bw d l s k b).1=b.1/\(bw d l s k b).2.1=b.2/\(k:Int)<=(bw d l s k b).2.2
 | [],s,k,b,h=>by
  have h0:=h [];rw[dW] at h0;rw[bw,if_neg (by omega)];exact⟨rfl,rfl,Int.le_refl _⟩
 |c::l,s,k,b,h=>by
  have h0:=h [];rw[dW] at h0;rw[bw,if_neg (by omega:¬0<=d.ru s),if_neg (by omega:¬0<=d.ru s)];split
  · rename_i hp;have:=qh d l (d.to s c).toNat (k+1) b (fun w=>by rw[Int.toNat_of_nonneg hp,<-eB];exact h (c::w));exact⟨this.1,this.2.1,by have:=this.2.2;omega⟩
  · exact⟨rfl,rfl,Int.le_refl _⟩
theorem qg {d m:b9}(hd:d.Ok) (hm:m.Ok) (ht:Trim m):∀(l:By) (s t k:Nat) (b:Int×Int),s<d.next.length->t<m.next.length->Gh d m s t ->
 (bw d l s k b).1=(bw m l t k b).1/\(bw d l s k b).2.1=(bw m l t k b).2.1/\(bw m l t k b).2.2<=(bw d l s k b).2.2
 | [],s,t,k,b,hs,htl,h=>by
  have h0:=h [];rw[dW,dW] at h0;rw[bw,bw,h0];exact⟨rfl,rfl,Int.le_refl _⟩
 |c::l,s,t,k,b,hs,htl,h=>by
  have h0:=h [];rw[dW,dW] at h0;have hl:Gh d m (d.to s c) (m.to t c):=fun w=>by rw[<-eB,<-eB];exact h _
  have h1:=b9.pg hd (s:=s) c;have h2:=b9.pg hm (s:=t) c;rw[bw,bw,h0]
  by_cases hmt:0<=m.to t c
  · obtain⟨w,hw⟩:=ht t c htl hmt
    have hdt:0<=d.to s c:=by
     by_cases e:d.to s c<0
     · rw[<-hl w,ko d w e] at hw;omega
     · omega
    rw[if_pos hmt,if_pos hdt];exact qg hd hm ht l _ _ _ _ (by omega) (by omega) (fun w=>by rw[Int.toNat_of_nonneg hmt,Int.toNat_of_nonneg hdt];exact hl w)
  · rw[if_neg hmt]
    by_cases hdt:0<=d.to s c
    · rw[if_pos hdt];have hdd:=qh d l (d.to s c).toNat (k+1) (if 0<=m.ru t then ((k:Int),m.ru t) else b) (fun w=>by rw[Int.toNat_of_nonneg hdt,hl w];exact ko m w (by omega));obtain⟨d1,d2,d3⟩:=hdd;rw[d1,d2];generalize (bw d l (d.to s c).toNat (k+1) (if 0<=m.ru t then ((k:Int),m.ru t) else b)).2.2=z at *;split
      · exact⟨rfl,rfl,by show (k:Int)<=_;omega⟩
      · exact⟨rfl,rfl,by show (k:Int)<=_;omega⟩
    · rw[if_neg hdt];exact⟨rfl,rfl,Int.le_refl _⟩
theorem A5 {d m:b9}(hd:d.Ok) (hm:m.Ok) (ht:Trim m) (hd0:0<d.next.length) (hm0:0<m.next.length) (hl:Gh d m 0 0) (s:By) (a:Int) :
 (dx d s a).1=(dx m s a).1/\(dx d s a).2.1=(dx m s a).2.1/\(dx m s a).2.2<=(dx d s a).2.2:=by
 unfold dx
 by_cases ha:a<0\/(s.length:Int)<a
 · rw[if_pos (.inr ha),if_pos (.inr ha)];exact⟨rfl,rfl,Int.le_refl _⟩
 · rw[if_neg (by omega),if_neg (by omega)];exact qg hd hm ht (s.drop a.toNat) 0 0 0 (0,-1) hd0 hm0 hl
theorem ni.to {ss:List bQ}{nR:Nat}{L:List (List Nat)}{d:b9}(k:ni ss nR L d) (hL:L.length=d.next.length){st:Nat}{now:List Nat}(hn:L[st]? =some now) (c:UInt8):vh L (cU ss c now) (d.to st c):=by
 have hl:=(List.getElem?_eq_some_iff.1 hn).1;have hr:d.next[st]? =some (d.next[st]'(by omega)):=List.getElem?_eq_getElem _
 obtain⟨x,hx,he,hm⟩:=(d.next[st]'(by omega)).at c;unfold b9.to;rw[hr];simp only;rw[he];have:=k.row st _ now hr hn c.toNat x hx
 rwa [UInt8.ofNat_toNat] at this
theorem ni.ru {ss:List bQ}{nR:Nat}{L:List (List Nat)}{d:b9}(k:ni ss nR L d) (hL:L.length=d.next.length){st:Nat}{now:List Nat}(hn:L[st]? =some now):d.ru st=bJ ss now:=by
 have hl:=(List.getElem?_eq_some_iff.1 hn).1;have hlt:st<d.rule.length:=by rw[k.rlen];omega
 have hr:d.rule[st]? =some (d.rule[st]'hlt):=List.getElem?_eq_getElem _;have:=k.rule st _ now hr hn;unfold b9.ru;rw[List.getD_eq_getElem?_getD,hr];exact this
theorem rU {ss:List bQ}{nR:Nat}{L:List (List Nat)}{d:b9}(k:ni ss nR L d) (hL:L.length=d.next.length):∀(l:By) (st j:Nat) (now:List Nat) (b:Int×Int),L[st]? =some now->now.length≠0 ->
 ((bw d l st j b).1,(bw d l st j b).2.1)=jo ss l now j b
 | [],st,j,now,b,hn,h0=>by
  rw[bw,jo,if_neg h0,k.ru hL hn];split<;>rfl
 |c::l,st,j,now,b,hn,h0=>by
  rw[bw,jo,if_neg h0,k.ru hL hn]
  rcases k.to hL hn c with ⟨e,h⟩|⟨e,i,h,hi⟩
  · rw[h,if_neg (by decide),tM e];split<;>rfl
  · rw[h,if_pos (by omega),Int.toNat_natCast];exact rU k hL l i (j+1) _ _ hi e
theorem qi {d:b9}(h:gu ss st= .inr d) (hs:ss.length≠0) (l:By):((bw d l 0 0 (0,-1)).1,(bw d l 0 0 (0,-1)).2.1)=dN ss st l:=by
 obtain⟨h0,L,h1,h2,_⟩:=jb h;rw[dN,if_neg hs];exact rU h1 h2 l 0 0 _ _ h1.first h0
theorem tB {α:Type}[DecidableEq α]:∀(l m:List α),l.Nodup->(∀x∈l,x∈m)->l.length<=m.length
 | [],m,_,_=>Nat.zero_le _
 |a::l,m,h,hs=>by
  rw[List.nodup_cons] at h;have ha:=hs a (by simp);have:=tB l (m.erase a) h.2 (fun x hx=>(List.mem_erase_of_ne (fun e=>h.1 (by rw[<-e];exact hx))).2 (hs x (by simp[hx])));have h2:=List.length_erase_of_mem ha;have h3:=List.length_pos_of_mem ha;simp only[List.length_cons];omega
def G7 (ss:List bQ) (S:List (List Nat)):Prop:=∀T∈S,∀c:UInt8,(cU ss c T).length=0\/cU ss c T∈S
theorem Cy {ss:List bQ}{S:List (List Nat)}{cur:List Nat}(hS:G7 ss S) (hc:cur∈S):∀(n b:Nat) (lists:List (List Nat)) (row:List Int),(∀T∈lists,T∈S)->∀T∈(kX ss cur n b lists row).1,T∈S
 | 0,b,lists,row,h=>h
 |n+1,b,lists,row,h=>by
  rw[kX];refine Cy hS hc n (b+1) _ _ fun T hT=>?_
  unfold dL at hT;split at hT
  · exact h T hT
  · rename_i hne;split at hT
    · exact h T hT
    · rcases List.mem_append.1 hT with k|k
      · exact h T k
      · rw[List.mem_singleton.1 k];exact(hS cur hc (UInt8.ofNat b)).resolve_left hne
theorem rW {ss:List bQ}{S:List (List Nat)}(hS:G7 ss S) (hlen:S.length<=2000):∀(n k:Nat) (lists:List (List Nat)) (next:List Row) (rule:List Int),lists.Nodup->(∀T∈lists,T∈S)->k<=lists.length->2002<=n+k->∃d,jW ss n k lists next rule=some d
 | 0,k,lists,next,rule,hn,hin,hk,hf=>by
  have:=tB lists S hn hin;omega
 |n+1,k,lists,next,rule,hn,hin,hk,hf=>by
  rw[jW];split
  · exact⟨_,rfl⟩
  · rename_i cur hcur;have hkl:=(List.getElem?_eq_some_iff.1 hcur).1;obtain⟨h1,h2,_⟩:=qE ss cur 256 0 lists [] hn;have h3:=Cy hS (hin cur (List.mem_of_getElem? hcur)) 256 0 lists [] hin;have h4:=tB _ S h2 h3;have h5:=h1.length_le;rw[if_neg (by omega)];exact rW hS hlen n (k+1) _ _ _ h2 h3 (by omega) (by omega)
theorem Ax {S:List (List Nat)}(hS:G7 ss S) (hlen:S.length<=2000) (h0:(cI ss st).length≠0) (hst:cI ss st∈S):∃d,gu ss st= .inr d:=by
 obtain⟨d,hd⟩:=rW hS hlen 2002 0 [cI ss st] [] [] (by simp) (fun T hT=>by rw[List.mem_singleton.1 hT];exact hst) (Nat.zero_le _) (Nat.le_refl _);refine⟨d,?_⟩;unfold gu;rw[if_neg h0,hd]
theorem qy {ss:List bQ}{c r:UInt8}(h:∀x∈ss,x.set.testBit c.toNat=x.set.testBit r.toNat):∀(l a:List Nat),stepG ss c l a=stepG ss r l a
 | [],a=>rfl
 |j::l,a=>by
  rw[stepG,stepG];cases hx:ss[j]? with
  |none=>exact qy h l a
  |some x =>
   simp only;rw[show jh x c=jh x r by unfold jh;rw[h x (List.mem_of_getElem? hx)]];exact qy h l _
theorem Dd {c r:UInt8}(h:∀x∈ss,x.set.testBit c.toNat=x.set.testBit r.toNat) (T:List Nat):cU ss c T=cU ss r T:=by
 unfold cU;rw[qy h]
def yh:List (List Nat×Nat)->List Nat->Option Nat
 | [],_=>none
 |(T,h)::l,U=>if T=U then some h else yh l U
theorem ur:∀{l:List (List Nat×Nat)}{U:List Nat}{h:Nat},yh l U=some h->(U,h)∈l
 | [],U,h,e=>by cases e
 |(T,h')::l,U,h,e=>by
  rw[yh] at e;split at e
  · rename_i k;cases e;subst k;simp
  · exact List.mem_cons_of_mem _ (ur e)
def CS (ss:List bQ) (H:List (List Nat×Nat)) (T:List Nat) (h:Nat) (r:UInt8):Bool :=
 (cU ss r T).isEmpty ||match yh H (cU ss r T) with
  |none=>false
  |some h'=>decide (0<=bJ ss (cU ss r T)) ||decide ((if 0<=bJ ss T then 0 else h)+1<=h')
def oU (ss:List bQ) (H:List (List Nat×Nat)) (reps:List UInt8):Bool:=H.all fun p=>decide (p.2<=2) && reps.all fun r=>CS ss H p.1 p.2 r
def jc (ss:List bQ) (tab:List UInt8) (reps:List UInt8):Bool:=decide (tab.length=256) && (List.range 256).all fun b=>reps.contains (tab.getD b 0) && ss.all fun x=>x.set.testBit b ==x.set.testBit (tab.getD b 0).toNat
theorem G2 (h:jc ss tab reps=true) (c:UInt8):∃r∈reps,∀x∈ss,x.set.testBit c.toNat=x.set.testBit r.toNat:=by
 unfold jc at h;rw[Bool.and_eq_true] at h;have h2:=List.all_eq_true.1 h.2 c.toNat (List.mem_range.2 c.toNat_lt);rw[Bool.and_eq_true] at h2;exact⟨_,by simpa using h2.1,fun x hx=>by simpa using List.all_eq_true.1 h2.2 x hx⟩
theorem AA {H:List (List Nat×Nat)}(hr:jc ss tab reps=true) (ha:oU ss H reps=true){T:List Nat}{h:Nat}(hT:(T,h)∈H) (c:UInt8) :
 (cU ss c T).length=0\/∃h',(cU ss c T,h')∈H/\h'<=2/\(0<=bJ ss (cU ss c T)\/(if 0<=bJ ss T then 0 else h)+1<=h'):=by
 obtain⟨r,hrm,hx⟩:=G2 hr c;rw[Dd hx];have h1:=List.all_eq_true.1 ha _ hT;rw[Bool.and_eq_true] at h1;have h2:=List.all_eq_true.1 h1.2 r hrm;simp only[CS,Bool.or_eq_true,List.isEmpty_iff] at h2
 rcases h2 with h2|h2
 · left;rw[h2];rfl
 · right
   cases hh:yh H (cU ss r T) with
   |none=>rw[hh] at h2;cases h2
   |some h' =>
    rw[hh] at h2;simp only[Bool.or_eq_true,decide_eq_true_eq] at h2;have hm:=ur hh;have h3:=List.all_eq_true.1 ha _ hm;rw[Bool.and_eq_true] at h3;exact⟨h',hm,of_decide_eq_true h3.1,h2⟩
theorem FV {H:List (List Nat×Nat)}(hr:jc ss tab reps=true) (ha:oU ss H reps=true):G7 ss (H.map (·.1)):=fun T hT c=>by
 obtain⟨⟨T',h⟩,hm,rfl⟩:=List.mem_map.1 hT
 rcases AA hr ha hm c with k|⟨h',k,_⟩
 · exact .inl k
 · exact .inr (List.mem_map.2 ⟨_,k,rfl⟩)
theorem vW {ss:List bQ}{nR:Nat}{L:List (List Nat)}{d:b9}(k:ni ss nR L d) (hL:L.length=d.next.length){H:List (List Nat×Nat)}{tab reps:List UInt8}(hr:jc ss tab reps=true) (ha:oU ss H reps=true):∀(l:By) (s j:Nat) (b:Int×Int) (T:List Nat) (h:Nat),
 L[s]? =some T->(T,h)∈H->(j:Int)<=(if 0<=bJ ss T then (j:Int) else b.1+h)->(bw d l s j b).2.2<=(bw d l s j b).1+2
 | [],s,j,b,T,h,hs,hm,hj=>by
  have h2:=List.all_eq_true.1 ha _ hm;rw[Bool.and_eq_true] at h2;have h3:=of_decide_eq_true h2.1;rw[bw,k.ru hL hs];split
  · show (j:Int)<=j+2;omega
  · rename_i hn;rw[if_neg hn] at hj
    show (j:Int)<=b.1+2
    simp only at h3;omega
 |c::l,s,j,b,T,h,hs,hm,hj=>by
  have h2:=List.all_eq_true.1 ha _ hm;rw[Bool.and_eq_true] at h2;have h3:=of_decide_eq_true h2.1;simp only at h3;rw[bw,k.ru hL hs]
  rcases k.to hL hs c with ⟨h1,e1⟩|⟨h1,i,e1,hi⟩
  · rw[e1,if_neg (by decide)];split
    · show (j:Int)<=j+2;omega
    · rename_i hn;rw[if_neg hn] at hj
      show (j:Int)<=b.1+2
      omega
  · rw[e1,if_pos (by omega),Int.toNat_natCast]
    rcases AA hr ha hm c with q|⟨h',q1,q2,q3⟩
    · exact absurd q h1
    · refine vW k hL hr ha l i (j+1) _ _ h' hi q1 ?_
      by_cases hacc:0<=bJ ss (cU ss c T)
      · rw[if_pos hacc];omega
      · rw[if_neg hacc];have q4:=q3.resolve_left hacc
        by_cases ht:0<=bJ ss T
        · rw[if_pos ht] at q4;rw[if_pos ht]
          show ((j+1:Nat):Int)<=(j:Int)+h'
          omega
        · rw[if_neg ht] at q4 hj;rw[if_neg ht];omega
end
end Go.Proofs.YtiigijehmmcfgaaGreatDoor
namespace Go.Proofs.YtiigijehmmcfgaaGreatDoor
open Go
set_option maxRecDepth 100000
def Bg:List By:=[[91,32,92,116,92,114,93,43],[92,110],[91,97,45,122,65,45,90,95,93,91,97,45,122,65,45,90,48,45,57,95,93,42],[91,48,45,57,93,43,40,92,46,91,48,45,57,93,43,41,63,40,91,101,69,93,91,92,43,92,45,93,63,91,48,45,57,93,43,41,63],[47,47,91,94,92,110,93,42],[47,92,42],[34],[91,92,40,92,91,123,93],[91,92,41,92,93,125,93],[91,92,43,92,45,92,42,47,37,60,62,33,61,44,59,58,92,46,93,124,61,61,124,33,61,124,60,61,124,62,61,124,38,38,124,92,124,92,124,124,92,45,62]]
def xE:List bQ:=[⟨2,0,[],0⟩,⟨0,0,[2,0],0⟩,⟨1,4294976000,[1],0⟩,⟨2,0,[],1⟩,⟨1,1024,[3],0⟩,⟨2,0,[],2⟩,⟨0,0,[7,5],0⟩,⟨1,10633823849912963253799171395480977408,[6],0⟩,⟨1,10633823849912963253511222494305976320,[6],0⟩,⟨2,0,[],3⟩,⟨0,0,[11,9],0⟩,⟨1,287948901175001088,[10],0⟩,⟨1,43980465111040,[11],0⟩,⟨0,0,[12,11],0⟩,⟨1,2535301201046754613352112062464,[13],0⟩,⟨0,0,[14,9],0⟩,⟨0,0,[17,15],0⟩,⟨1,287948901175001088,[16],0⟩,⟨1,70368744177664,[17],0⟩,⟨0,0,[18,15],0⟩,⟨0,0,[21,19],0⟩,⟨1,287948901175001088,[20],0⟩,⟨2,0,[],4⟩,⟨0,0,[24,22],0⟩,⟨1,115792089237316195423570985008687907853269984665640564039457584007913129638911,[23],0⟩,⟨1,140737488355328,[23],0⟩,⟨1,140737488355328,[25],0⟩,⟨2,0,[],5⟩,⟨1,4398046511104,[27],0⟩,⟨1,140737488355328,[28],0⟩,⟨2,0,[],6⟩,⟨1,17179869184,[30],0⟩,⟨2,0,[],7⟩,⟨1,10633823968755207061801218131552632832,[32],0⟩,⟨2,0,[],8⟩,⟨1,42535295875020828247204870327187275776,[34],0⟩,⟨2,0,[],9⟩,⟨1,8935418883662151680,[36],0⟩,⟨1,2305843009213693952,[36],0⟩,⟨1,2305843009213693952,[38],0⟩,⟨1,2305843009213693952,[36],0⟩,⟨1,8589934592,[40],0⟩,⟨1,2305843009213693952,[36],0⟩,⟨1,1152921504606846976,[42],0⟩,⟨1,2305843009213693952,[36],0⟩,⟨1,4611686018427387904,[44],0⟩,⟨1,274877906944,[36],0⟩,⟨1,274877906944,[46],0⟩,⟨1,21267647932558653966460912964485513216,[36],0⟩,⟨1,21267647932558653966460912964485513216,[48],0⟩,⟨1,4611686018427387904,[36],0⟩,⟨1,35184372088832,[50],0⟩,⟨0,0,[37,39,41,43,45,47,49,51],0⟩,⟨0,0,[2,4,8,21,26,29,31,33,35,52],0⟩]
theorem Lt:eX Bg= .inr (xE,53):=rfl
def HY:List (List Nat×Nat):=[([2,4,8,21,26,29,31,33,35,37,39,41,43,45,47,49,51],0),([0,2],0),([3],0),([36,40],0),([30],0),([36],0),([46],1),([32],0),([34],0),([36,50],0),([25,28,36],0),([9,14,18,21],0),([36,42],0),([36,38],0),([36,44],0),([5,7],0),([48],1),([27],0),([22,24],0),([17],1),([11,12],1),([9,14,17],0),([11],2),([9,11],0)]
def KV:List UInt8:=[0,0,0,0,0,0,0,0,0,9,10,0,0,9,0,0,0,0,0,0,0,0,0,0,0,0,0,0,0,0,0,0,9,33,34,0,0,37,38,0,40,41,42,43,37,45,46,47,48,48,48,48,48,48,48,48,48,48,37,37,60,61,62,0,0,65,65,65,65,69,65,65,65,65,65,65,65,65,65,65,65,65,65,65,65,65,65,65,65,65,65,40,0,41,0,65,0,65,65,65,65,69,65,65,65,65,65,65,65,65,65,65,65,65,65,65,65,65,65,65,65,65,65,40,124,41]++List.replicate 130 0
def HD:List UInt8:=[0,9,10,33,34,37,38,40,41,42,43,45,46,47,48,60,61,62,65,69,124]
def Bf:List By:=[[91,94,34,92,92,92,110,93,43],[92,92,91,110,114,116,34,92,92,48,93],[34],[92,110]]
def xD:List bQ:=[⟨2,0,[],0⟩,⟨0,0,[2,0],0⟩,⟨1,115792089237316195423570985008687907853269984665635612279300442486796353272831,[1],0⟩,⟨2,0,[],1⟩,⟨1,105144016337090416619545142419783680,[3],0⟩,⟨1,4951760157141521099596496896,[4],0⟩,⟨2,0,[],2⟩,⟨1,17179869184,[6],0⟩,⟨2,0,[],3⟩,⟨1,1024,[8],0⟩,⟨0,0,[2,5,7,9],0⟩]
theorem GH:eX Bf= .inr (xD,10):=rfl
def Lu:List (List Nat×Nat):=[([2,5,7,9],0),([0,2],0),([8],0),([6],0),([4],1),([3],0)]
def KU:List UInt8:=[0,0,0,0,0,0,0,0,0,0,10,0,0,0,0,0,0,0,0,0,0,0,0,0,0,0,0,0,0,0,0,0,0,0,34,0,0,0,0,0,0,0,0,0,0,0,0,0,48]++List.replicate 43 0++[92,0,0,0,0,0,0,0,0,0,0,0,0,0,0,0,0,0,48,0,0,0,48,0,48]++List.replicate 139 0
def HC:List UInt8:=[0,10,34,48,92]
def Be:List By:=[[47,92,42],[92,42,47],[91,94,92,42,47,93,43],[91,92,42,47,93]]
def xC:List bQ:=[⟨2,0,[],0⟩,⟨1,4398046511104,[0],0⟩,⟨1,140737488355328,[1],0⟩,⟨2,0,[],1⟩,⟨1,140737488355328,[3],0⟩,⟨1,4398046511104,[4],0⟩,⟨2,0,[],2⟩,⟨0,0,[8,6],0⟩,⟨1,115792089237316195423570985008687907853269984665640564039457583862777594773503,[7],0⟩,⟨2,0,[],3⟩,⟨1,145135534866432,[9],0⟩,⟨0,0,[2,5,8,10],0⟩]
theorem Ls:eX Be= .inr (xC,11):=rfl
def GX:List (List Nat×Nat):=[([2,5,8,10],0),([6,8],0),([4,9],0),([1,9],0),([3],0),([0],0)]
def KT:List UInt8:=List.replicate 42 0++[42,0,0,0,0,47]++List.replicate 208 0
def HB:List UInt8:=[0,42,47]
theorem Ku:jc xE KV HD=true:=by decide +kernel
theorem Kx:oU xE HY HD=true:=by decide +kernel
theorem Kr:yh HY (cI xE 53)=some 0/\cI xE 53≠[]/\¬0<=bJ xE (cI xE 53):=by decide +kernel
theorem Kt:jc xD KU HC=true:=by decide +kernel
theorem Kw:oU xD Lu HC=true:=by decide +kernel
theorem Kq:yh Lu (cI xD 10)=some 0/\cI xD 10≠[]/\¬0<=bJ xD (cI xD 10):=by decide +kernel
theorem Ks:jc xC KT HB=true:=by decide +kernel
theorem Kv:oU xC GX HB=true:=by decide +kernel
theorem Kp:yh GX (cI xC 11)=some 0/\cI xC 11≠[]/\¬0<=bJ xC (cI xC 11):=by decide +kernel
end Go.Proofs.YtiigijehmmcfgaaGreatDoor

/- What the proof of the statement leans on (part 19). -/
import Derived.Lib.ItoaLen
import Derived.Test.YtdihgdeciopfpaaGreatDoorQr

namespace Go.Proofs.YtdihgdeciopfpaaGreatDoor
open Go
section
variable {live:List Bool}{cls:List Int}{of:List Nat}{ss:List bM}{st:Nat}{tab reps:List UInt8}
def fk (l:List Int):By:=l.flatMap fun n=>Lib.itoa n++[32]
theorem oz (u:Nat):∀c∈Lib.decDigits u,48<=c.toNat/\c.toNat<=57:=by
 induction u using Nat.strongRecOn with
 |_ u ih =>
  intro c hc;rw[Lib.decDigits] at hc;split at hc
  · rename_i h;simp at hc;subst hc;simp;omega
  · rename_i h
    rcases List.mem_append.1 hc with k|k
    · exact ih (u / 10) (by omega) c k
    · simp at k;subst k;have:u%10<10:=Nat.mod_lt _ (by decide);simp;omega
def GA (l:By):Nat:=l.foldl (fun a c=>a*10+(c.toNat-48)) 0
theorem qv (u:Nat):GA (Lib.decDigits u)=u:=by
 induction u using Nat.strongRecOn with
 |_ u ih =>
  rw[Lib.decDigits];split
  · rename_i h;simp[GA];omega
  · rename_i h;have h1:=ih (u / 10) (by omega);unfold GA at h1 ⊢;rw[List.foldl_append,h1];have:u%10<10:=Nat.mod_lt _ (by decide);simp;omega
theorem sx (n:Int):∀c∈Lib.itoa n,c≠32:=by
 intro c hc e;subst e;unfold Lib.itoa at hc;split at hc
 · rcases List.mem_cons.1 hc with k|k
   · cases k
   · have:=(oz _ _ k).1;simp at this
 · have:=(oz _ _ hc).1;simp at this
theorem F7 {m n:Int}(h:Lib.itoa m=Lib.itoa n):m=n:=by
 have neg:∀a b:Nat,45::Lib.decDigits a≠Lib.decDigits b:=fun a b e=>by
  have:(45:UInt8)∈Lib.decDigits b:=by rw[<-e];exact List.mem_cons_self
  have:=(oz _ _ this).1;simp at this
 unfold Lib.itoa at h;split at h<;>split at h
 · have h:=congrArg GA (List.cons.inj h).2;rw[qv,qv] at h;omega
 · exact absurd h (neg _ _)
 · exact absurd h.symm (neg _ _)
 · have h:=congrArg GA h;rw[qv,qv] at h;omega
theorem pV:∀(a b r s:By),(∀c∈a,c≠32)->(∀c∈b,c≠32)->a++32::r=b++32::s->a=b/\r=s
 | [],[],r,s,_,_,h=>by simpa using h
 | [],d::b,r,s,_,hb,h=>by
  simp only[List.nil_append,List.cons_append,List.cons.injEq] at h;exact absurd h.1.symm (hb d List.mem_cons_self)
 |c::a,[],r,s,ha,_,h=>by
  simp only[List.nil_append,List.cons_append,List.cons.injEq] at h;exact absurd h.1 (ha c List.mem_cons_self)
 |c::a,d::b,r,s,ha,hb,h=>by
  simp only[List.cons_append,List.cons.injEq] at h;have:=pV a b r s (fun x hx=>ha x (List.mem_cons_of_mem _ hx)) (fun x hx=>hb x (List.mem_cons_of_mem _ hx)) h.2;exact⟨by rw[h.1,this.1],this.2⟩
theorem key_inj:∀{l m:List Int},fk l=fk m->l=m
 | [],[],_=>rfl
 | [],n::m,h=>by
  have:=congrArg List.length h;simp[fk] at this
 |n::l,[],h=>by
  have:=congrArg List.length h;simp[fk] at this
 |n::l,k::m,h=>by
  have h':Lib.itoa n++32::fk l=Lib.itoa k++32::fk m:=by simpa [fk] using h
  obtain⟨h1,h2⟩:=pV _ _ _ _ (sx n) (sx k) h';rw[F7 h1,key_inj h2]
theorem wN:∀(l:List Int),(∀n∈l,-9223372036854775808<=n/\n<=9223372036854775807)->(fk l).length<=22*l.length
 | [],_=>by simp[fk]
 |n::l,h=>by
  have h1:=wN l (fun x hx=>h x (List.mem_cons_of_mem _ hx));have hn:=h n List.mem_cons_self;have h2:=Lib.itoa_length_le n hn.1 hn.2;have e:fk (n::l)=Lib.itoa n++[32]++fk l:=rfl;have h3:(fk (n::l)).length=(Lib.itoa n).length+1+(fk l).length:=by rw[e,List.length_append,List.length_append];rfl
  rw[h3,List.length_cons];omega
theorem F5 (l:List Int) (n:Int):fk (l++[n])=fk l++Lib.itoa n++[32]:=by simp[fk]
structure Row where
 v:List Int
 len:v.length=256
structure cV where
 next:List Row
 rule:List Int
def cV.to (d:cV) (s:Nat) (c:UInt8):Int:=match d.next[s]? with|some r=>r.v.getD c.toNat (-1)|none=> -1
def cV.ru (d:cV) (s:Nat):Int:=d.rule.getD s (-1)
structure cV.Ok (d:cV):Prop where
 len:d.rule.length=d.next.length
 size:d.next.length<=2000
 to:∀r∈d.next,∀x∈r.v,-1<=x/\x<d.next.length
 ru:∀x∈d.rule,-1<=x/\x<=1000000
theorem Row.at {r:Row}(c:UInt8):∃x,r.v[c.toNat]? =some x/\r.v.getD c.toNat (-1)=x/\x∈r.v:=by
 have h:=r.len;have hc:=c.toNat_lt;have hx:r.v[c.toNat]? =some (r.v[c.toNat]'(by omega)):=List.getElem?_eq_getElem (by omega);exact⟨_,hx,by rw[List.getD_eq_getElem?_getD,hx];rfl,List.getElem_mem _⟩
def cv (d:cV):By->Nat->Nat->Int×Int->Int×Int×Int
 | [],st,k,b=>if 0<=d.ru st then (k,d.ru st,k) else (b.1,b.2,k)
 |c::l,st,k,b =>
  if 0<=d.to st c then cv d l (d.to st c).toNat (k+1) (if 0<=d.ru st then (k,d.ru st) else b)
  else if 0<=d.ru st then (k,d.ru st,k) else (b.1,b.2,k)
def wO (l:List Nat):By:=fk (l.map Int.ofNat)
theorem F6 {l m:List Nat}(h:wO l=wO m):l=m:=by
 have:=key_inj h
 have hi:∀a b:List Nat,a.map Int.ofNat=b.map Int.ofNat->a=b:=by
  intro a
  induction a with
  |nil=>intro b h;cases b with
   |nil=>rfl
   |cons y b=>simp at h
  |cons x a ih=>intro b h;cases b with
   |nil=>simp at h
   |cons y b =>
    simp only[List.map_cons,List.cons.injEq] at h;rw[ih b h.2];have:=h.1;simp only[Int.ofNat_eq_natCast] at this;rw[show x=y by omega]
 exact hi _ _ this
def mg:Nat->List (List Nat)->List Nat->Option Nat
 |_,[],_=>none
 |i,x::r,l=>if l=x then some i else mg (i+1) r l
theorem mK:∀(ls:List (List Nat)) (i j:Nat) (l:List Nat),mg i ls l=some j->i<=j/\ls[j-i]? =some l
 | [],i,j,l,h=>by cases h
 |x::r,i,j,l,h=>by
  rw[mg] at h;split at h
  · rename_i e;cases h;subst e;exact⟨Nat.le_refl _,by simp⟩
  · have:=mK r (i+1) j l h;refine⟨by omega,?_⟩;rw[show j-i=(j-(i+1))+1 by omega,List.getElem?_cons_succ];exact this.2
theorem sJ:∀(ls:List (List Nat)) (i:Nat) (l:List Nat),mg i ls l=none->l∉ls
 | [],i,l,_=>List.not_mem_nil
 |x::r,i,l,h=>by
  rw[mg] at h;split at h
  · cases h
  · rename_i e;have:=sJ r (i+1) l h;simp only[List.mem_cons,not_or];exact⟨e,this⟩
def cS (ss:List bM) (cur:List Nat) (lists:List (List Nat)) (b:Nat):List (List Nat)×Int :=
 if (cz ss (UInt8.ofNat b) cur).length=0 then (lists,-1)
 else match mg 0 lists (cz ss (UInt8.ofNat b) cur) with
  |some i=>(lists,(i:Int))
  |none=>(lists++[cz ss (UInt8.ofNat b) cur],(lists.length:Int))
def jA (ss:List bM) (cur:List Nat):Nat->Nat->List (List Nat)->List Int->List (List Nat)×List Int
 | 0,_,lists,row=>(lists,row)
 |n+1,b,lists,row=>jA ss cur n (b+1) (cS ss cur lists b).1 (row++[(cS ss cur lists b).2])
def iI (l:List Int):Row:=⟨(l++List.replicate 256 (-1)).take 256,by rw[List.length_take,List.length_append,List.length_replicate];omega⟩
theorem wH {l:List Int}(h:l.length=256):(iI l).v=l:=by
 unfold iI;simp only;rw[List.take_append_of_le_length (by omega),List.take_of_length_le (by omega)]
def iV (ss:List bM):Nat->Nat->List (List Nat)->List Row->List Int->Option cV
 | 0,_,_,_,_=>none
 |n+1,k,lists,next,rule =>
  match lists[k]? with
  |none=>some ⟨next,rule⟩
  |some cur =>
   if 2000<(jA ss cur 256 0 lists []).1.length then none
   else iV ss n (k+1) (jA ss cur 256 0 lists []).1 (next++[iI (jA ss cur 256 0 lists []).2]) (rule++[bz ss cur])
def eY (ss:List bM) (st:Nat):Int ⊕ cV :=
 if (cg ss st).length=0 then .inl 1
 else match iV ss 2002 0 [cg ss st] [] [] with
  |none=>.inl 70
  |some d=>.inr d
def cV.row (d:cV) (k:Nat):List Int:=match d.next[k]? with|some r=>r.v|none=>[]
def fL (out:List Bool) (t:Int):Bool:=decide (0<=t) && out.getD t.toNat false
def fM (d:cV) (out:List Bool) (k:Nat):Bool:=decide (0<=d.ru k) ||(d.row k).any (fL out)
def cG (d:cV):Nat->Nat->List Bool->Bool->List Bool×Bool
 | 0,_,out,ag=>(out,ag)
 |n+1,k,out,ag=>if out.getD k false=true then cG d n (k+1) out ag else cG d n (k+1) (out.set k (fM d out k)) (ag ||fM d out k)
def gx (out:List Bool):Nat:=(out.filter fun b=> !b).length
def u9 (d:cV):Nat->List Bool->List Bool
 | 0,out=>out
 |n+1,out=>if (cG d d.next.length 0 out false).2=true then u9 d n (cG d d.next.length 0 out false).1 else (cG d d.next.length 0 out false).1
def pq (d:cV):List Bool:=u9 d (d.next.length+1) (List.replicate d.next.length false)
theorem sN:∀(out:List Bool) (k:Nat) (b:Bool),out[k]? =some false->gx (out.set k b)+(if b then 1 else 0)=gx out
 | [],k,b,h=>by simp at h
 |x::r,0,b,h=>by simp at h;subst h;cases b<;>simp[gx]
 |x::r,k+1,b,h=>by
  have:=sN r k b (by simpa using h);unfold gx at this ⊢;rw[List.set_cons_succ];cases x<;>simp at this ⊢ <;>omega
theorem gM (d:cV):∀(n k:Nat) (out:List Bool) (ag:Bool),(cG d n k out ag).1.length=out.length
 | 0,_,_,_=>rfl
 |n+1,k,out,ag=>by
  rw[cG];split
  · exact gM d n _ _ _
  · rw[gM d n];simp
theorem iT (d:cV):∀(n k:Nat) (out:List Bool) (ag:Bool),k+n<=out.length->gx (cG d n k out ag).1<=gx out/\((cG d n k out ag).2=true->ag=true\/gx (cG d n k out ag).1<gx out)
 | 0,_,out,ag,_=>⟨Nat.le_refl _,fun h=>.inl h⟩
 |n+1,k,out,ag,hk=>by
  rw[cG];split
  · exact iT d n (k+1) out ag (by omega)
  · rename_i h
    have hf:out[k]? =some false:=by
     rw[List.getD_eq_getElem?_getD,List.getElem?_eq_getElem (by omega)] at h;rw[List.getElem?_eq_getElem (by omega)];simpa using h
    have h1:=sN out k (fM d out k) hf;have h2:=iT d n (k+1) (out.set k (fM d out k)) (ag ||fM d out k) (by simp;omega);refine⟨by omega,fun ht=>?_⟩
    rcases h2.2 ht with h3|h3
    · cases hb:fM d out k with
      |true=>rw[hb,if_pos rfl] at h1;right;rw[hb] at h2;omega
      |false=>rw[hb,Bool.or_false] at h3;exact .inl h3
    · right;omega
def jZ:Nat->List (List Int)->List Int->Option Nat
 |_,[],_=>none
 |i,x::r,l=>if l=x then some i else jZ (i+1) r l
theorem sK:∀(ls:List (List Int)) (i j:Nat) (l:List Int),jZ i ls l=some j->i<=j/\ls[j-i]? =some l
 | [],i,j,l,h=>by cases h
 |x::r,i,j,l,h=>by
  rw[jZ] at h;split at h
  · rename_i e;cases h;subst e;exact⟨Nat.le_refl _,by simp⟩
  · have:=sK r (i+1) j l h;refine⟨by omega,?_⟩;rw[show j-i=(j-(i+1))+1 by omega,List.getElem?_cons_succ];exact this.2
def dm (live:List Bool) (cls:List Int) (t:Int):Int:=if t<0\/live.getD t.toNat false=false then -2 else cls.getD t.toNat 0
def ni (d:cV) (live:List Bool) (cls:List Int) (k:Nat):List Int:=cls.getD k 0::(d.row k).map (dm live cls)
def cm (d:cV) (live:List Bool) (cls:List Int):Nat->Nat->List (List Int)->List Int->List (List Int)×List Int
 | 0,_,seen,after=>(seen,after)
 |n+1,k,seen,after =>
  match jZ 0 seen (ni d live cls k) with
  |some i=>cm d live cls n (k+1) seen (after++[(i:Int)])
  |none=>cm d live cls n (k+1) (seen++[ni d live cls k]) (after++[(seen.length:Int)])
def oC (d:cV) (live:List Bool):Nat->Nat->List Int->List Int
 | 0,_,cls=>cls
 |n+1,many,cls =>
  if (cm d live cls d.next.length 0 [] []).1.length=many then (cm d live cls d.next.length 0 [] []).2
  else oC d live n (cm d live cls d.next.length 0 [] []).1.length (cm d live cls d.next.length 0 [] []).2
def tf (d:cV) (live:List Bool):List Int:=oC d live (d.next.length+1) 0 d.rule
def oN (m:Nat) (l:List Int):Prop:=∀i,i<m->(i:Int)∈l
theorem sV:∀(m:Nat) (l:List Int),oN m l->m<=l.length
 | 0,_,_=>Nat.zero_le _
 |m+1,l,h=>by
  have hm:=h m (Nat.lt_succ_self m);have h1:oN m (l.erase (m:Int)):=fun i hi=>(List.mem_erase_of_ne (by omega)).2 (h i (by omega))
  have h2:=sV m _ h1;have h3:=List.length_erase_of_mem hm;have h4:0<l.length:=List.length_pos_of_mem hm;omega
structure Cx (d:cV) (live:List Bool) (cls:List Int) (k:Nat) (seen:List (List Int)) (after:List Int):Prop where
 len:after.length=k
 size:seen.length<=k
 nums:oN seen.length after
 bound:∀x∈after,0<=x/\x<seen.length
 all:∀j,j<k->ni d live cls j∈seen
theorem jK {d:cV}{live:List Bool}{cls:List Int}:∀(n k:Nat) (seen:List (List Int)) (after:List Int),Cx d live cls k seen after->Cx d live cls (k+n) (cm d live cls n k seen after).1 (cm d live cls n k seen after).2
 | 0,k,seen,after,h=>h
 |n+1,k,seen,after,h=>by
  rw[cm,show k+(n+1)=(k+1)+n by omega];split
  · rename_i i hi;have hi':=sK seen 0 i _ hi;have hil:=(List.getElem?_eq_some_iff.1 hi'.2).1
    exact jK n (k+1) _ _ ⟨by simp[h.len],by have:=h.size;omega,fun j hj=>List.mem_append_left _ (h.nums j hj),fun x hx=>by
     rcases List.mem_append.1 hx with e|e
     · exact h.bound x e
     · have:x=(i:Int):=by simpa using e
       rw[this];omega,fun j hj=>by
     by_cases e:j=k
     · subst e;exact List.mem_of_getElem? hi'.2
     · exact h.all j (by omega)⟩
  · exact jK n (k+1) _ _ ⟨by simp[h.len],by have:=h.size;simp;omega,fun j hj=>by
     simp only[List.length_append,List.length_singleton] at hj
     by_cases e:j=seen.length
     · subst e;simp
     · exact List.mem_append_left _ (h.nums j (by omega)),fun x hx=>by
     simp only[List.length_append,List.length_singleton]
     rcases List.mem_append.1 hx with e|e
     · have:=h.bound x e;omega
     · have:x=(seen.length:Int):=by simpa using e
       omega,fun j hj=>by
     by_cases e:j=k
     · subst e;simp
     · exact List.mem_append_left _ (h.all j (by omega))⟩
theorem fW (d:cV) (live:List Bool) (cls:List Int):Cx d live cls d.next.length (cm d live cls d.next.length 0 [] []).1 (cm d live cls d.next.length 0 [] []).2:=by
 have:=jK (d:=d) (live:=live) (cls:=cls) d.next.length 0 [] [] ⟨rfl,Nat.le_refl _,fun i hi=>absurd hi (Nat.not_lt_zero _),fun x hx=>(by cases hx),fun j hj=>absurd hj (Nat.not_lt_zero _)⟩
 rwa [Nat.zero_add] at this
theorem s8 {d:cV}{many:Nat}(hc:oN many cls) (hl:cls.length=d.next.length):many<=(cm d live cls d.next.length 0 [] []).1.length:=by
 have h:=fW d live cls
 have:oN many ((cm d live cls d.next.length 0 [] []).1.map fun s=>s.getD 0 0):=fun i hi=>by
  obtain⟨k,hk⟩:=List.getElem?_of_mem (hc i hi);have hkl:=(List.getElem?_eq_some_iff.1 hk).1;have:=h.all k (by omega);refine List.mem_map.2 ⟨_,this,?_⟩;simp[ni,List.getD_eq_getElem?_getD,hk]
 have:=sV _ _ this;simpa using this
def pL (cls:List Int):Nat->List Nat->Int->Option Nat
 |_,[],_=>none
 |i,x::r,c=>if c=cls.getD x 0 then some i else pL cls (i+1) r c
theorem sM {cls:List Int}:∀(of:List Nat) (i:Nat) (c:Int),pL cls i of c=none->∀x∈of,c≠cls.getD x 0
 | [],i,c,h,x,hx=>by cases hx
 |y::r,i,c,h,x,hx=>by
  rw[pL] at h;split at h
  · cases h
  · rename_i hn
    rcases List.mem_cons.1 hx with e|e
    · subst e;exact hn
    · exact sM r (i+1) c h x e
def eF (live:List Bool) (cls:List Int) (of:List Nat) (t:Int):List Nat×Int :=
 if t<0\/live.getD t.toNat false=false then (of,-1) else
  match pL cls 0 of (cls.getD t.toNat 0) with
  |some i=>(of,(i:Int))
  |none=>(of++[t.toNat],(of.length:Int))
def kT (live:List Bool) (cls:List Int):List Int->List Nat->List Int->List Nat×List Int
 | [],of,row=>(of,row)
 |t::r,of,row=>kT live cls r (eF live cls of t).1 (row++[(eF live cls of t).2])
def FM (d:cV) (live:List Bool) (cls:List Int):Nat->Nat->List Nat->List Row->List Int->cV
 | 0,_,_,next,rule=>⟨next,rule⟩
 |n+1,i,of,next,rule =>
  match of[i]? with
  |none=>⟨next,rule⟩
  |some k=>FM d live cls n (i+1) (kT live cls (d.row k) of []).1 (next++[iI (kT live cls (d.row k) of []).2]) (rule++[d.ru k])
def BG (d:cV):cV:=if d.next.length=0 then ⟨[],[]⟩ else FM d (pq d) (tf d (pq d)) (d.next.length+1) 0 [0] [] []
structure AX (n:Nat) (of:List Nat):Prop where
 once:of.Nodup
 lt:∀x∈of,x<n
theorem zf:∀(n:Nat) (l:List Nat),l.Nodup->(∀x∈l,x<n)->l.length<=n
 | 0,[],_,_=>Nat.le_refl _
 | 0,x::l,_,h=>absurd (h x (by simp)) (Nat.not_lt_zero _)
 |n+1,l,hl,h=>by
  have h1:=zf n (l.erase n) (hl.erase n) (fun x hx=>by
   have:=(hl.mem_erase_iff).1 hx;have:=h x this.2;omega)
  by_cases hn:n∈l
  · have:=List.length_erase_of_mem hn;omega
  · rw[List.erase_of_not_mem hn] at h1;omega
theorem AX.len {n:Nat}(k:AX n of):of.length<=n:=zf n of k.once k.lt
theorem BE {n:Nat}{t:Int}(k:AX n of) (ht:t<n):AX n (eF live cls of t).1:=by
 unfold eF;split
 · exact k
 · rename_i hn;split
   · exact k
   · rename_i hf;have hne:=sM of 0 _ hf;refine⟨List.nodup_append.2 ⟨k.once,by simp,fun a ha b hb e=>?_⟩,fun x hx=>?_⟩
     · have:b=t.toNat:=by simpa using hb
       subst e;subst this;exact hne _ ha rfl
     · rcases List.mem_append.1 hx with e|e
       · exact k.lt x e
       · have:x=t.toNat:=by simpa using e
         omega
theorem BF {t:Int}:of.length<=(eF live cls of t).1.length/\∀(i x:Nat),of[i]? =some x->(eF live cls of t).1[i]? =some x:=by
 unfold eF;split
 · exact⟨Nat.le_refl _,fun _ _ h=>h⟩
 · split
   · exact⟨Nat.le_refl _,fun _ _ h=>h⟩
   · exact⟨by simp,fun i x h=>by rw[List.getElem?_append_left (List.getElem?_eq_some_iff.1 h).1];exact h⟩
def tU (L:List (List Nat)) (l:List Nat) (to:Int):Prop:=(l.length=0/\to= -1)\/(l.length≠0/\∃i:Nat,to=(i:Int)/\L[i]? =some l)
theorem tU.mono {L L':List (List Nat)}{l:List Nat}{to:Int}(k:tU L l to) (h:L <+: L'):tU L' l to:=by
 rcases k with k|⟨k,i,e,hi⟩
 · exact .inl k
 · obtain⟨t,rfl⟩:=h;exact .inr ⟨k,i,e,by rw[List.getElem?_append_left (List.getElem?_eq_some_iff.1 hi).1];exact hi⟩
theorem wq (ss:List bM) (cur:List Nat) (lists:List (List Nat)) (b:Nat) (hn:lists.Nodup) :
 lists <+: (cS ss cur lists b).1/\(cS ss cur lists b).1.Nodup/\tU (cS ss cur lists b).1 (cz ss (UInt8.ofNat b) cur) (cS ss cur lists b).2:=by
 unfold cS;split
 · rename_i h;exact⟨List.prefix_refl _,hn,.inl ⟨h,rfl⟩⟩
 · rename_i h;split
   · rename_i i hi;exact⟨List.prefix_refl _,hn,.inr ⟨h,i,rfl,(mK lists 0 i _ hi).2⟩⟩
   · rename_i hi;refine⟨List.prefix_append _ _,List.nodup_append.2 ⟨hn,by simp,fun x hx y hy e=>?_⟩,.inr ⟨h,lists.length,rfl,by simp⟩⟩;have:y=cz ss (UInt8.ofNat b) cur:=by simpa using hy
     exact sJ lists 0 _ hi (by rw[<-this,<-e];exact hx)
theorem oq (ss:List bM) (cur:List Nat):∀(n b:Nat) (lists:List (List Nat)) (row:List Int),lists.Nodup ->
 lists <+: (jA ss cur n b lists row).1/\(jA ss cur n b lists row).1.Nodup/\∃ys,(jA ss cur n b lists row).2=row++ys/\ys.length=n/\∀(j:Nat) (y:Int),ys[j]? =some y->tU (jA ss cur n b lists row).1 (cz ss (UInt8.ofNat (b+j)) cur) y
 | 0,b,lists,row,hn=>⟨List.prefix_refl _,hn,[],by simp[jA],rfl,fun j y h=>by simp at h⟩
 |n+1,b,lists,row,hn=>by
  obtain⟨h1,h2,h3⟩:=wq ss cur lists b hn;obtain⟨k1,k2,ys,k3,k4,k5⟩:=oq ss cur n (b+1) (cS ss cur lists b).1 (row++[(cS ss cur lists b).2]) h2;rw[jA];refine⟨h1.trans k1,k2,(cS ss cur lists b).2::ys,by rw[k3];simp,by simp[k4],fun j y hy=>?_⟩;cases j with
  |zero =>
   simp only[List.getElem?_cons_zero,Option.some.injEq] at hy;subst hy;exact h3.mono k1
  |succ j =>
   rw[List.getElem?_cons_succ] at hy;have:=k5 j y hy
   rwa [show b+(j+1)=b+1+j by omega]
structure js (ss:List bM) (st:Nat) (lists:List (List Nat)) (d:cV):Prop where
 first:lists[0]? =some (cg ss st)
 once:lists.Nodup
 size:lists.length<=2000
 rlen:d.rule.length=d.next.length
 row:∀(k:Nat) (r:Row) (l:List Nat),d.next[k]? =some r->lists[k]? =some l->∀(b:Nat) (y:Int),r.v[b]? =some y->tU lists (cz ss (UInt8.ofNat b) l) y
 rule:∀(k:Nat) (x:Int) (l:List Nat),d.rule[k]? =some x->lists[k]? =some l->x=bz ss l
theorem pP {ss:List bM}{st:Nat}:∀(n k:Nat) (lists:List (List Nat)) (next:List Row) (rule:List Int) (d:cV),js ss st lists ⟨next,rule⟩->next.length=k->k<=lists.length->iV ss n k lists next rule=some d->∃L,lists <+: L/\js ss st L d/\L.length=d.next.length
 | 0,k,lists,next,rule,d,h,hk,hkl,hd=>by cases hd
 |n+1,k,lists,next,rule,d,h,hk,hkl,hd=>by
  rw[iV] at hd;split at hd
  · rename_i hn;cases hd;have:=List.getElem?_eq_none_iff.1 hn;exact⟨lists,List.prefix_refl _,h,by show lists.length=next.length;omega⟩
  · rename_i cur hcur;obtain⟨h1,h2,ys,h3,h4,h5⟩:=oq ss cur 256 0 lists [] h.once;split at hd
    · cases hd
    · rename_i hsz;have hkl2:=(List.getElem?_eq_some_iff.1 hcur).1
      have hpre:∀(i:Nat) (l:List Nat),i<lists.length->(jA ss cur 256 0 lists []).1[i]? =some l->lists[i]? =some l:=fun i l hi hl=>by
       obtain⟨t,ht⟩:=h1;rw[<-ht,List.getElem?_append_left hi] at hl;exact hl
      have hpre2:∀(i:Nat) (l:List Nat),lists[i]? =some l->(jA ss cur 256 0 lists []).1[i]? =some l:=fun i l hl=>by
       obtain⟨t,ht⟩:=h1;rw[<-ht,List.getElem?_append_left (List.getElem?_eq_some_iff.1 hl).1];exact hl
      have hlen:=h1.length_le;have hrl:rule.length=next.length:=h.rlen
      obtain⟨L,g1,g2,g3⟩:=pP (st:=st) n (k+1) _ _ _ d ⟨hpre2 _ _ h.first,h2,by omega,by simp[hrl],fun i r l hr hl b y hy=>by
       rcases Nat.lt_or_ge i next.length with hi|hi
       · rw[List.getElem?_append_left hi] at hr;exact(h.row i r l hr (hpre i l (by omega) hl) b y hy).mono h1
       · have hik:i=next.length:=by
          have:=(List.getElem?_eq_some_iff.1 hr).1;simp at this;omega
         subst hik;simp only[List.getElem?_concat_length,Option.some.injEq] at hr;subst hr;have hlc:=hpre _ l (by omega) hl;rw[hk] at hlc;rw[hcur] at hlc;cases hlc;rw[h3,List.nil_append,wH h4] at hy;have:=h5 b y hy
         rwa [Nat.zero_add] at this,fun i x l hx hl=>by
       rcases Nat.lt_or_ge i rule.length with hi|hi
       · rw[List.getElem?_append_left hi] at hx;exact h.rule i x l hx (hpre i l (by omega) hl)
       · have hik:i=rule.length:=by
          have:=(List.getElem?_eq_some_iff.1 hx).1;simp at this;omega
         subst hik;simp only[List.getElem?_concat_length,Option.some.injEq] at hx;subst hx;have hlc:=hpre _ l (by omega) hl;rw[hrl,hk,hcur] at hlc;cases hlc;rfl⟩ (by simp[hk]) (by omega) hd
      exact⟨L,h1.trans g1,g2,g3⟩
theorem tK {ss:List bM}(hr:∀x∈ss,x.rule<=1000000):∀(l:List Nat) (b:Int),-1<=b/\b<=1000000-> -1<=mQ ss l b/\mQ ss l b<=1000000
 | [],b,h=>h
 |j::r,b,h=>by
  rw[mQ];refine tK hr r _ ?_;split
  · rename_i x hx;split
    · have:=hr x (List.mem_of_getElem? hx);omega
    · exact h
  · exact h
theorem tI (hr:∀x∈ss,x.rule<=1000000) (l:List Nat) : -1<=bz ss l/\bz ss l<=1000000:=by
 unfold bz;split
 · omega
 · exact tK hr l (-1) (by omega)
theorem js.ok {L:List (List Nat)}{d:cV}(k:js ss st L d) (hL:L.length=d.next.length) (hr:∀x∈ss,x.rule<=1000000):d.Ok:=by
 refine⟨k.rlen,by rw[<-hL];exact k.size,fun r hrm x hx=>?_,fun x hx=>?_⟩
 · obtain⟨i,hi⟩:=List.getElem?_of_mem hrm;obtain⟨j,hj⟩:=List.getElem?_of_mem hx;have hil:=(List.getElem?_eq_some_iff.1 hi).1;have hl:L[i]? =some (L[i]'(by omega)):=List.getElem?_eq_getElem _
   rcases k.row i r _ hi hl j x hj with ⟨_,rfl⟩|⟨_,i2,rfl,h2⟩
   · omega
   · have:=(List.getElem?_eq_some_iff.1 h2).1;omega
 · obtain⟨i,hi⟩:=List.getElem?_of_mem hx;have hil:=(List.getElem?_eq_some_iff.1 hi).1;have hl:L[i]? =some (L[i]'(by rw[hL,<-k.rlen];exact hil)):=List.getElem?_eq_getElem _;rw[k.rule i x _ hi hl];exact tI hr _
theorem gQ {d:cV}(h:eY ss st= .inr d):(cg ss st).length≠0/\∃L,js ss st L d/\L.length=d.next.length/\0<L.length:=by
 unfold eY at h;split at h
 · cases h
 · rename_i hs;refine⟨hs,?_⟩;split at h
   · cases h
   · rename_i d' hd;cases h;obtain⟨L,h1,h2,h3⟩:=pP (st:=st) 2002 0 [cg ss st] [] [] d ⟨rfl,by simp,by simp,rfl,fun k r l hr=>by simp at hr,fun k x l hx=>by simp at hx⟩ rfl (by simp) hd;exact⟨L,h2,h3,by have:=(List.getElem?_eq_some_iff.1 h2.first).1;omega⟩
theorem Ek {d:cV}(h:eY ss st= .inr d) (hr:∀x∈ss,x.rule<=1000000):d.Ok:=by
 obtain⟨_,L,h1,h2,_⟩:=gQ h;exact h1.ok h2 hr
def cV.go (d:cV):By->Int->Int
 | [],s=>s
 |c::l,s=>cV.go d l (if s<0 then -1 else d.to s.toNat c)
def cV.iO (d:cV) (s:Int) (w:By):Int:=if d.go w s<0 then -1 else d.ru (d.go w s).toNat
theorem go_neg (d:cV):∀(w:By) (s:Int),s<0->d.go w s<0
 | [],s,h=>h
 |c::l,s,h=>by
  rw[cV.go,if_pos h];exact go_neg d l (-1) (by decide)
theorem yM (d:cV) (w:By){s:Int}(h:s<0):d.iO s w= -1:=by rw[cV.iO,if_pos (go_neg d w s h)]
theorem rm (d:cV) (k:Nat):d.iO (k:Int) []=d.ru k:=by
 rw[cV.iO,cV.go,if_neg (by omega),Int.toNat_natCast]
theorem oh (d:cV) (k:Nat) (c:UInt8) (w:By):d.iO (k:Int) (c::w)=d.iO (d.to k c) w:=by
 have h:¬((k:Int)<0):=by omega
 rw[cV.iO,cV.iO,cV.go,if_neg h,Int.toNat_natCast]
def Alike (d:cV) (a b:Int):Prop:=∀w,d.iO a w=d.iO b w
def OO (d e:cV) (a b:Int):Prop:=∀w,d.iO a w=e.iO b w
inductive CA (d e:cV):List Nat->List Nat->Prop
 |nil:CA d e [] []
 |cons {x y:Nat}{o p:List Nat}:x<d.next.length->y<e.next.length->OO d e x y->CA d e o p->CA d e (x::o) (y::p)
def He (d:cV) (of:List Nat) (t y:Int):Prop:=((∀w,d.iO t w= -1)/\y= -1)\/((∃w,0<=d.iO t w)/\∃(i x:Nat),y=(i:Int)/\of[i]? =some x/\Alike d t x)
def Nw (d:cV) (of:List Nat):Prop:=∀(i j x y:Nat),of[i]? =some x->of[j]? =some y->Alike d x y->i=j
structure Pc (d:cV) (of:List Nat):Prop where
 ok:AX d.next.length of
 apart:Nw d of
structure EI (d:cV) (of:List Nat) (m:cV):Prop where
 rep:Pc d of
 first:of[0]? =some 0
 rlen:m.rule.length=m.next.length
 row:∀(k:Nat) (r:Row) (x:Nat),m.next[k]? =some r->of[k]? =some x->∀(c:UInt8) (y:Int),r.v[c.toNat]? =some y->He d of (d.to x c) y
 rule:∀(k:Nat) (y:Int) (x:Nat),m.rule[k]? =some y->of[k]? =some x->y=d.ru x
theorem EI.to {d m:cV}{of:List Nat}(k:EI d of m) (hl:of.length=m.next.length){s x:Nat}(hx:of[s]? =some x) (c:UInt8):He d of (d.to x c) (m.to s c):=by
 have hs:=(List.getElem?_eq_some_iff.1 hx).1;have hr:m.next[s]? =some (m.next[s]'(by omega)):=List.getElem?_eq_getElem _
 obtain⟨y,hy,he,_⟩:=(m.next[s]'(by omega)).at c;unfold cV.to;rw[hr];simp only;rw[he];exact k.row s _ x hr hx c y hy
theorem EI.ru {d m:cV}{of:List Nat}(k:EI d of m) (hl:of.length=m.next.length){s x:Nat}(hx:of[s]? =some x):m.ru s=d.ru x:=by
 have hs:=(List.getElem?_eq_some_iff.1 hx).1;have hlt:s<m.rule.length:=by rw[k.rlen];omega
 have hr:m.rule[s]? =some (m.rule[s]'hlt):=List.getElem?_eq_getElem _;have:=k.rule s _ x hr hx;unfold cV.ru at this ⊢;rw[List.getD_eq_getElem?_getD,hr];exact this
theorem EI.iO {d m:cV}{of:List Nat}(k:EI d of m) (hl:of.length=m.next.length):∀(w:By) (s x:Nat),of[s]? =some x->m.iO (s:Int) w=d.iO (x:Int) w
 | [],s,x,hx=>by rw[rm,rm,k.ru hl hx]
 |c::w,s,x,hx=>by
  rw[oh,oh]
  rcases k.to hl hx c with ⟨h1,h2⟩|⟨_,i,y,h2,h3,h4⟩
  · rw[h2,yM m w (by decide),h1]
  · rw[h2,k.iO hl w i y h3,h4]
theorem js.to {ss:List bM}{st0:Nat}{L:List (List Nat)}{d:cV}(k:js ss st0 L d) (hL:L.length=d.next.length){st:Nat}{now:List Nat}(hn:L[st]? =some now) (c:UInt8):tU L (cz ss c now) (d.to st c):=by
 have hl:=(List.getElem?_eq_some_iff.1 hn).1;have hr:d.next[st]? =some (d.next[st]'(by omega)):=List.getElem?_eq_getElem _
 obtain⟨x,hx,he,hm⟩:=(d.next[st]'(by omega)).at c;unfold cV.to;rw[hr];simp only;rw[he];have:=k.row st _ now hr hn c.toNat x hx
 rwa [UInt8.ofNat_toNat] at this
theorem js.ru {ss:List bM}{st0:Nat}{L:List (List Nat)}{d:cV}(k:js ss st0 L d) (hL:L.length=d.next.length){st:Nat}{now:List Nat}(hn:L[st]? =some now):d.ru st=bz ss now:=by
 have hl:=(List.getElem?_eq_some_iff.1 hn).1;have hlt:st<d.rule.length:=by rw[k.rlen];omega
 have hr:d.rule[st]? =some (d.rule[st]'hlt):=List.getElem?_eq_getElem _;have:=k.rule st _ now hr hn;unfold cV.ru;rw[List.getD_eq_getElem?_getD,hr];exact this
theorem pO {ss:List bM}{st0:Nat}{L:List (List Nat)}{d:cV}(k:js ss st0 L d) (hL:L.length=d.next.length):∀(l:By) (st j:Nat) (now:List Nat) (b:Int×Int),L[st]? =some now->now.length≠0 ->
 ((cv d l st j b).1,(cv d l st j b).2.1)=ic ss l now j b
 | [],st,j,now,b,hn,h0=>by
  rw[cv,ic,if_neg h0,k.ru hL hn];split<;>rfl
 |c::l,st,j,now,b,hn,h0=>by
  rw[cv,ic,if_neg h0,k.ru hL hn]
  rcases k.to hL hn c with ⟨e,h⟩|⟨e,i,h,hi⟩
  · rw[h,if_neg (by decide),rT e];split<;>rfl
  · rw[h,if_pos (by omega),Int.toNat_natCast];exact pO k hL l i (j+1) _ _ hi e
theorem wZ {d:cV}(h:eY ss st= .inr d) (hs:ss.length≠0) (l:By):((cv d l 0 0 (0,-1)).1,(cv d l 0 0 (0,-1)).2.1)=cQ ss st l:=by
 obtain⟨h0,L,h1,h2,_⟩:=gQ h;rw[cQ,if_neg hs];exact pO h1 h2 l 0 0 _ _ h1.first h0
theorem qS (ss:List bM):∀(w:By) (T:List Nat),T.length=0->(w.foldl (fun T c=>cz ss c T) T).length=0
 | [],T,h=>h
 |c::w,T,h=>qS ss w _ (by
  rw[List.length_eq_zero_iff.1 h];simp only[uL];rfl)
theorem js.iO {ss:List bM}{st0:Nat}{L:List (List Nat)}{d:cV}(k:js ss st0 L d) (hL:L.length=d.next.length):∀(w:By) (s:Nat) (T:List Nat),L[s]? =some T->d.iO (s:Int) w=bz ss (w.foldl (fun T c=>cz ss c T) T)
 | [],s,T,h=>by rw[rm,k.ru hL h];rfl
 |c::w,s,T,h=>by
  rw[oh,List.foldl_cons]
  rcases k.to hL h c with ⟨h1,h2⟩|⟨h1,i,h2,h3⟩
  · rw[h2,yM d w (by decide),List.length_eq_zero_iff.1 (qS ss w _ h1)];simp[bz,mQ]
  · rw[h2,k.iO hL w i _ h3]
theorem rK {α:Type}[DecidableEq α]:∀(l m:List α),l.Nodup->(∀x∈l,x∈m)->l.length<=m.length
 | [],m,_,_=>Nat.zero_le _
 |a::l,m,h,hs=>by
  rw[List.nodup_cons] at h;have ha:=hs a (by simp);have:=rK l (m.erase a) h.2 (fun x hx=>(List.mem_erase_of_ne (fun e=>h.1 (by rw[<-e];exact hx))).2 (hs x (by simp[hx])));have h2:=List.length_erase_of_mem ha;have h3:=List.length_pos_of_mem ha;simp only[List.length_cons];omega
def IL (ss:List bM) (S:List (List Nat)):Prop:=∀T∈S,∀c:UInt8,(cz ss c T).length=0\/cz ss c T∈S
theorem CV {ss:List bM}{S:List (List Nat)}{cur:List Nat}(hS:IL ss S) (hc:cur∈S):∀(n b:Nat) (lists:List (List Nat)) (row:List Int),(∀T∈lists,T∈S)->∀T∈(jA ss cur n b lists row).1,T∈S
 | 0,b,lists,row,h=>h
 |n+1,b,lists,row,h=>by
  rw[jA];refine CV hS hc n (b+1) _ _ fun T hT=>?_
  unfold cS at hT;split at hT
  · exact h T hT
  · rename_i hne;split at hT
    · exact h T hT
    · rcases List.mem_append.1 hT with k|k
      · exact h T k
      · rw[List.mem_singleton.1 k];exact(hS cur hc (UInt8.ofNat b)).resolve_left hne
theorem pQ {ss:List bM}{S:List (List Nat)}(hS:IL ss S) (hlen:S.length<=2000):∀(n k:Nat) (lists:List (List Nat)) (next:List Row) (rule:List Int),lists.Nodup->(∀T∈lists,T∈S)->k<=lists.length->2002<=n+k->∃d,iV ss n k lists next rule=some d
 | 0,k,lists,next,rule,hn,hin,hk,hf=>by
  have:=rK lists S hn hin;omega
 |n+1,k,lists,next,rule,hn,hin,hk,hf=>by
  rw[iV];split
  · exact⟨_,rfl⟩
  · rename_i cur hcur;have hkl:=(List.getElem?_eq_some_iff.1 hcur).1;obtain⟨h1,h2,_⟩:=oq ss cur 256 0 lists [] hn;have h3:=CV hS (hin cur (List.mem_of_getElem? hcur)) 256 0 lists [] hin;have h4:=rK _ S h2 h3;have h5:=h1.length_le;rw[if_neg (by omega)];exact pQ hS hlen n (k+1) _ _ _ h2 h3 (by omega) (by omega)
theorem Ae {S:List (List Nat)}(hS:IL ss S) (hlen:S.length<=2000) (h0:(cg ss st).length≠0) (hst:cg ss st∈S):∃d,eY ss st= .inr d:=by
 obtain⟨d,hd⟩:=pQ hS hlen 2002 0 [cg ss st] [] [] (by simp) (fun T hT=>by rw[List.mem_singleton.1 hT];exact hst) (Nat.zero_le _) (Nat.le_refl _);refine⟨d,?_⟩;unfold eY;rw[if_neg h0,hd]
theorem n7 {ss:List bM}{c r:UInt8}(h:∀x∈ss,x.set.testBit c.toNat=x.set.testBit r.toNat):∀(l a:List Nat),stepG ss c l a=stepG ss r l a
 | [],a=>rfl
 |j::l,a=>by
  rw[stepG,stepG];cases hx:ss[j]? with
  |none=>exact n7 h l a
  |some x =>
   simp only;rw[show gY x c=gY x r by unfold gY;rw[h x (List.mem_of_getElem? hx)]];exact n7 h l _
theorem DE {c r:UInt8}(h:∀x∈ss,x.set.testBit c.toNat=x.set.testBit r.toNat) (T:List Nat):cz ss c T=cz ss r T:=by
 unfold cz;rw[n7 h]
def wS:List (List Nat×Nat)->List Nat->Option Nat
 | [],_=>none
 |(T,h)::l,U=>if T=U then some h else wS l U
theorem sB:∀{l:List (List Nat×Nat)}{U:List Nat}{h:Nat},wS l U=some h->(U,h)∈l
 | [],U,h,e=>by cases e
 |(T,h')::l,U,h,e=>by
  rw[wS] at e;split at e
  · rename_i k;cases e;subst k;simp
  · exact List.mem_cons_of_mem _ (sB e)
def Df (ss:List bM) (H:List (List Nat×Nat)) (T:List Nat) (h:Nat) (r:UInt8):Bool :=
 (cz ss r T).isEmpty ||match wS H (cz ss r T) with
  |none=>false
  |some h'=>decide (0<=bz ss (cz ss r T)) ||decide ((if 0<=bz ss T then 0 else h)+1<=h')
def mP (ss:List bM) (H:List (List Nat×Nat)) (reps:List UInt8):Bool:=H.all fun p=>decide (p.2<=2) && reps.all fun r=>Df ss H p.1 p.2 r
def gR (ss:List bM) (tab:List UInt8) (reps:List UInt8):Bool:=decide (tab.length=256) && (List.range 256).all fun b=>reps.contains (tab.getD b 0) && ss.all fun x=>x.set.testBit b ==x.set.testBit (tab.getD b 0).toNat
theorem Iz (h:gR ss tab reps=true) (c:UInt8):∃r∈reps,∀x∈ss,x.set.testBit c.toNat=x.set.testBit r.toNat:=by
 unfold gR at h;rw[Bool.and_eq_true] at h;have h2:=List.all_eq_true.1 h.2 c.toNat (List.mem_range.2 c.toNat_lt);rw[Bool.and_eq_true] at h2;exact⟨_,by simpa using h2.1,fun x hx=>by simpa using List.all_eq_true.1 h2.2 x hx⟩
theorem Ai {H:List (List Nat×Nat)}(hr:gR ss tab reps=true) (ha:mP ss H reps=true){T:List Nat}{h:Nat}(hT:(T,h)∈H) (c:UInt8) :
 (cz ss c T).length=0\/∃h',(cz ss c T,h')∈H/\h'<=2/\(0<=bz ss (cz ss c T)\/(if 0<=bz ss T then 0 else h)+1<=h'):=by
 obtain⟨r,hrm,hx⟩:=Iz hr c;rw[DE hx];have h1:=List.all_eq_true.1 ha _ hT;rw[Bool.and_eq_true] at h1;have h2:=List.all_eq_true.1 h1.2 r hrm;simp only[Df,Bool.or_eq_true,List.isEmpty_iff] at h2
 rcases h2 with h2|h2
 · left;rw[h2];rfl
 · right
   cases hh:wS H (cz ss r T) with
   |none=>rw[hh] at h2;cases h2
   |some h' =>
    rw[hh] at h2;simp only[Bool.or_eq_true,decide_eq_true_eq] at h2;have hm:=sB hh;have h3:=List.all_eq_true.1 ha _ hm;rw[Bool.and_eq_true] at h3;exact⟨h',hm,of_decide_eq_true h3.1,h2⟩
theorem GH {H:List (List Nat×Nat)}(hr:gR ss tab reps=true) (ha:mP ss H reps=true):IL ss (H.map (·.1)):=fun T hT c=>by
 obtain⟨⟨T',h⟩,hm,rfl⟩:=List.mem_map.1 hT
 rcases Ai hr ha hm c with k|⟨h',k,_⟩
 · exact .inl k
 · exact .inr (List.mem_map.2 ⟨_,k,rfl⟩)
theorem uK {ss:List bM}{st0:Nat}{L:List (List Nat)}{d:cV}(k:js ss st0 L d) (hL:L.length=d.next.length){H:List (List Nat×Nat)}{tab reps:List UInt8}(hr:gR ss tab reps=true) (ha:mP ss H reps=true):∀(l:By) (s j:Nat) (b:Int×Int) (T:List Nat) (h:Nat),
 L[s]? =some T->(T,h)∈H->(j:Int)<=(if 0<=bz ss T then (j:Int) else b.1+h)->(cv d l s j b).2.2<=(cv d l s j b).1+2
 | [],s,j,b,T,h,hs,hm,hj=>by
  have h2:=List.all_eq_true.1 ha _ hm;rw[Bool.and_eq_true] at h2;have h3:=of_decide_eq_true h2.1;rw[cv,k.ru hL hs];split
  · show (j:Int)<=j+2;omega
  · rename_i hn;rw[if_neg hn] at hj
    show (j:Int)<=b.1+2
    simp only at h3;omega
 |c::l,s,j,b,T,h,hs,hm,hj=>by
  have h2:=List.all_eq_true.1 ha _ hm;rw[Bool.and_eq_true] at h2;have h3:=of_decide_eq_true h2.1;simp only at h3;rw[cv,k.ru hL hs]
  rcases k.to hL hs c with ⟨h1,e1⟩|⟨h1,i,e1,hi⟩
  · rw[e1,if_neg (by decide)];split
    · show (j:Int)<=j+2;omega
    · rename_i hn;rw[if_neg hn] at hj
      show (j:Int)<=b.1+2
      omega
  · rw[e1,if_pos (by omega),Int.toNat_natCast]
    rcases Ai hr ha hm c with q|⟨h',q1,q2,q3⟩
    · exact absurd q h1
    · refine uK k hL hr ha l i (j+1) _ _ h' hi q1 ?_
      by_cases hacc:0<=bz ss (cz ss c T)
      · rw[if_pos hacc];omega
      · rw[if_neg hacc];have q4:=q3.resolve_left hacc
        by_cases ht:0<=bz ss T
        · rw[if_pos ht] at q4;rw[if_pos ht]
          show ((j+1:Nat):Int)<=(j:Int)+h'
          omega
        · rw[if_neg ht] at q4 hj;rw[if_neg ht];omega
end
end Go.Proofs.YtdihgdeciopfpaaGreatDoor
namespace Go.Proofs.YtdihgdeciopfpaaGreatDoor
open Go
set_option maxRecDepth 100000
def Bp:List By:=[[91,32,92,116,92,114,93,43],[92,110],[91,97,45,122,65,45,90,95,93,91,97,45,122,65,45,90,48,45,57,95,93,42],[91,48,45,57,93,43,40,92,46,91,48,45,57,93,43,41,63,40,91,101,69,93,91,92,43,92,45,93,63,91,48,45,57,93,43,41,63],[47,47,91,94,92,110,93,42],[47,92,42],[34],[91,92,40,92,91,123,93],[91,92,41,92,93,125,93],[91,92,43,92,45,92,42,47,37,60,62,33,61,44,59,58,92,46,93,124,61,61,124,33,61,124,60,61,124,62,61,124,38,38,124,92,124,92,124,124,92,45,62]]
def vZ:List bM:=[⟨2,0,[],0⟩,⟨0,0,[2,0],0⟩,⟨1,4294976000,[1],0⟩,⟨2,0,[],1⟩,⟨1,1024,[3],0⟩,⟨2,0,[],2⟩,⟨0,0,[7,5],0⟩,⟨1,10633823849912963253799171395480977408,[6],0⟩,⟨1,10633823849912963253511222494305976320,[6],0⟩,⟨2,0,[],3⟩,⟨0,0,[11,9],0⟩,⟨1,287948901175001088,[10],0⟩,⟨1,43980465111040,[11],0⟩,⟨0,0,[12,11],0⟩,⟨1,2535301201046754613352112062464,[13],0⟩,⟨0,0,[14,9],0⟩,⟨0,0,[17,15],0⟩,⟨1,287948901175001088,[16],0⟩,⟨1,70368744177664,[17],0⟩,⟨0,0,[18,15],0⟩,⟨0,0,[21,19],0⟩,⟨1,287948901175001088,[20],0⟩,⟨2,0,[],4⟩,⟨0,0,[24,22],0⟩,⟨1,115792089237316195423570985008687907853269984665640564039457584007913129638911,[23],0⟩,⟨1,140737488355328,[23],0⟩,⟨1,140737488355328,[25],0⟩,⟨2,0,[],5⟩,⟨1,4398046511104,[27],0⟩,⟨1,140737488355328,[28],0⟩,⟨2,0,[],6⟩,⟨1,17179869184,[30],0⟩,⟨2,0,[],7⟩,⟨1,10633823968755207061801218131552632832,[32],0⟩,⟨2,0,[],8⟩,⟨1,42535295875020828247204870327187275776,[34],0⟩,⟨2,0,[],9⟩,⟨1,8935418883662151680,[36],0⟩,⟨1,2305843009213693952,[36],0⟩,⟨1,2305843009213693952,[38],0⟩,⟨1,2305843009213693952,[36],0⟩,⟨1,8589934592,[40],0⟩,⟨1,2305843009213693952,[36],0⟩,⟨1,1152921504606846976,[42],0⟩,⟨1,2305843009213693952,[36],0⟩,⟨1,4611686018427387904,[44],0⟩,⟨1,274877906944,[36],0⟩,⟨1,274877906944,[46],0⟩,⟨1,21267647932558653966460912964485513216,[36],0⟩,⟨1,21267647932558653966460912964485513216,[48],0⟩,⟨1,4611686018427387904,[36],0⟩,⟨1,35184372088832,[50],0⟩,⟨0,0,[37,39,41,43,45,47,49,51],0⟩,⟨0,0,[2,4,8,21,26,29,31,33,35,52],0⟩]
theorem NB:dV Bp= .inr (vZ,53):=rfl
def Ld:List (List Nat×Nat):=[([2,4,8,21,26,29,31,33,35,37,39,41,43,45,47,49,51],0),([0,2],0),([3],0),([36,40],0),([30],0),([36],0),([46],1),([32],0),([34],0),([36,50],0),([25,28,36],0),([9,14,18,21],0),([36,42],0),([36,38],0),([36,44],0),([5,7],0),([48],1),([27],0),([22,24],0),([17],1),([11,12],1),([9,14,17],0),([11],2),([9,11],0)]
def NU:List UInt8:=[0,0,0,0,0,0,0,0,0,9,10,0,0,9,0,0,0,0,0,0,0,0,0,0,0,0,0,0,0,0,0,0,9,33,34,0,0,37,38,0,40,41,42,43,37,45,46,47,48,48,48,48,48,48,48,48,48,48,37,37,60,61,62,0,0,65,65,65,65,69,65,65,65,65,65,65,65,65,65,65,65,65,65,65,65,65,65,65,65,65,65,40,0,41,0,65,0,65,65,65,65,69,65,65,65,65,65,65,65,65,65,65,65,65,65,65,65,65,65,65,65,65,65,40,124,41]++List.replicate 130 0
def Jd:List UInt8:=[0,9,10,33,34,37,38,40,41,42,43,45,46,47,48,60,61,62,65,69,124]
def Bo:List By:=[[91,94,34,92,92,92,110,93,43],[92,92,91,110,114,116,34,92,92,48,93],[34],[92,110]]
def vY:List bM:=[⟨2,0,[],0⟩,⟨0,0,[2,0],0⟩,⟨1,115792089237316195423570985008687907853269984665635612279300442486796353272831,[1],0⟩,⟨2,0,[],1⟩,⟨1,105144016337090416619545142419783680,[3],0⟩,⟨1,4951760157141521099596496896,[4],0⟩,⟨2,0,[],2⟩,⟨1,17179869184,[6],0⟩,⟨2,0,[],3⟩,⟨1,1024,[8],0⟩,⟨0,0,[2,5,7,9],0⟩]
theorem Hr:dV Bo= .inr (vY,10):=rfl
def ND:List (List Nat×Nat):=[([2,5,7,9],0),([0,2],0),([8],0),([6],0),([4],1),([3],0)]
def NT:List UInt8:=[0,0,0,0,0,0,0,0,0,0,10,0,0,0,0,0,0,0,0,0,0,0,0,0,0,0,0,0,0,0,0,0,0,0,34,0,0,0,0,0,0,0,0,0,0,0,0,0,48]++List.replicate 43 0++[92,0,0,0,0,0,0,0,0,0,0,0,0,0,0,0,0,0,48,0,0,0,48,0,48]++List.replicate 139 0
def Jc:List UInt8:=[0,10,34,48,92]
def Bn:List By:=[[47,92,42],[92,42,47],[91,94,92,42,47,93,43],[91,92,42,47,93]]
def vX:List bM:=[⟨2,0,[],0⟩,⟨1,4398046511104,[0],0⟩,⟨1,140737488355328,[1],0⟩,⟨2,0,[],1⟩,⟨1,140737488355328,[3],0⟩,⟨1,4398046511104,[4],0⟩,⟨2,0,[],2⟩,⟨0,0,[8,6],0⟩,⟨1,115792089237316195423570985008687907853269984665640564039457583862777594773503,[7],0⟩,⟨2,0,[],3⟩,⟨1,145135534866432,[9],0⟩,⟨0,0,[2,5,8,10],0⟩]
theorem NA:dV Bn= .inr (vX,11):=rfl
def Hs:List (List Nat×Nat):=[([2,5,8,10],0),([6,8],0),([4,9],0),([1,9],0),([3],0),([0],0)]
def NS:List UInt8:=List.replicate 42 0++[42,0,0,0,0,47]++List.replicate 208 0
def Jb:List UInt8:=[0,42,47]
theorem J0:gR vZ NU Jd=true:=by decide +kernel
theorem J3:mP vZ Ld Jd=true:=by decide +kernel
theorem JX:wS Ld (cg vZ 53)=some 0/\cg vZ 53≠[]/\¬0<=bz vZ (cg vZ 53):=by decide +kernel
theorem JZ:gR vY NT Jc=true:=by decide +kernel
theorem J2:mP vY ND Jc=true:=by decide +kernel
theorem JW:wS ND (cg vY 10)=some 0/\cg vY 10≠[]/\¬0<=bz vY (cg vY 10):=by decide +kernel
theorem JY:gR vX NS Jb=true:=by decide +kernel
theorem J1:mP vX Hs Jb=true:=by decide +kernel
theorem JV:wS Hs (cg vX 11)=some 0/\cg vX 11≠[]/\¬0<=bz vX (cg vX 11):=by decide +kernel
end Go.Proofs.YtdihgdeciopfpaaGreatDoor

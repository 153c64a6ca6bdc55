/- What the proof of the statement leans on (part 21). -/
import Derived.Lib.ItoaLen
import Derived.Test.YtckomlgchbkekaaGreatDoorQt

namespace Go.Proofs.YtckomlgchbkekaaGreatDoor
open Go
section
variable {live:List Bool}{cls:List Int}{of:List Nat}{ss:List cL}{st:Nat}{tab reps:List UInt8}
def fD (l:List Int):By:=l.flatMap fun n=>Lib.itoa n++[32]
theorem oZ (u:Nat):∀c∈Lib.decDigits u,48<=c.toNat/\c.toNat<=57:=by
 induction u using Nat.strongRecOn with
 |_ u ih =>
  intro c hc;rw[Lib.decDigits] at hc;split at hc
  · rename_i h;simp at hc;subst hc;simp;omega
  · rename_i h
    rcases List.mem_append.1 hc with k|k
    · exact ih (u / 10) (by omega) c k
    · simp at k;subst k;have:u%10<10:=Nat.mod_lt _ (by decide);simp;omega
def Hs (l:By):Nat:=l.foldl (fun a c=>a*10+(c.toNat-48)) 0
theorem qR (u:Nat):Hs (Lib.decDigits u)=u:=by
 induction u using Nat.strongRecOn with
 |_ u ih =>
  rw[Lib.decDigits];split
  · rename_i h;simp[Hs];omega
  · rename_i h;have h1:=ih (u / 10) (by omega);unfold Hs at h1 ⊢;rw[List.foldl_append,h1];have:u%10<10:=Nat.mod_lt _ (by decide);simp;omega
theorem sS (n:Int):∀c∈Lib.itoa n,c≠32:=by
 intro c hc e;subst e;unfold Lib.itoa at hc;split at hc
 · rcases List.mem_cons.1 hc with k|k
   · cases k
   · have:=(oZ _ _ k).1;simp at this
 · have:=(oZ _ _ hc).1;simp at this
theorem G2 {m n:Int}(h:Lib.itoa m=Lib.itoa n):m=n:=by
 have neg:∀a b:Nat,45::Lib.decDigits a≠Lib.decDigits b:=fun a b e=>by
  have:(45:UInt8)∈Lib.decDigits b:=by rw[<-e];exact List.mem_cons_self
  have:=(oZ _ _ this).1;simp at this
 unfold Lib.itoa at h;split at h<;>split at h
 · have h:=congrArg Hs (List.cons.inj h).2;rw[qR,qR] at h;omega
 · exact absurd h (neg _ _)
 · exact absurd h.symm (neg _ _)
 · have h:=congrArg Hs h;rw[qR,qR] at h;omega
theorem qt:∀(a b r s:By),(∀c∈a,c≠32)->(∀c∈b,c≠32)->a++32::r=b++32::s->a=b/\r=s
 | [],[],r,s,_,_,h=>by simpa using h
 | [],d::b,r,s,_,hb,h=>by
  simp only[List.nil_append,List.cons_append,List.cons.injEq] at h;exact absurd h.1.symm (hb d List.mem_cons_self)
 |c::a,[],r,s,ha,_,h=>by
  simp only[List.nil_append,List.cons_append,List.cons.injEq] at h;exact absurd h.1 (ha c List.mem_cons_self)
 |c::a,d::b,r,s,ha,hb,h=>by
  simp only[List.cons_append,List.cons.injEq] at h;have:=qt a b r s (fun x hx=>ha x (List.mem_cons_of_mem _ hx)) (fun x hx=>hb x (List.mem_cons_of_mem _ hx)) h.2;exact⟨by rw[h.1,this.1],this.2⟩
theorem key_inj:∀{l m:List Int},fD l=fD m->l=m
 | [],[],_=>rfl
 | [],n::m,h=>by
  have:=congrArg List.length h;simp[fD] at this
 |n::l,[],h=>by
  have:=congrArg List.length h;simp[fD] at this
 |n::l,k::m,h=>by
  have h':Lib.itoa n++32::fD l=Lib.itoa k++32::fD m:=by simpa [fD] using h
  obtain⟨h1,h2⟩:=qt _ _ _ _ (sS n) (sS k) h';rw[G2 h1,key_inj h2]
theorem xZ:∀(l:List Int),(∀n∈l,-9223372036854775808<=n/\n<=9223372036854775807)->(fD l).length<=22*l.length
 | [],_=>by simp[fD]
 |n::l,h=>by
  have h1:=xZ l (fun x hx=>h x (List.mem_cons_of_mem _ hx));have hn:=h n List.mem_cons_self;have h2:=Lib.itoa_length_le n hn.1 hn.2;have e:fD (n::l)=Lib.itoa n++[32]++fD l:=rfl;have h3:(fD (n::l)).length=(Lib.itoa n).length+1+(fD l).length:=by rw[e,List.length_append,List.length_append];rfl
  rw[h3,List.length_cons];omega
theorem GZ (l:List Int) (n:Int):fD (l++[n])=fD l++Lib.itoa n++[32]:=by simp[fD]
structure Row where
 v:List Int
 len:v.length=256
structure gY where
 next:List Row
 rule:List Int
def gY.ru (d:gY) (s:Nat):Int:=d.rule.getD s (-1)
structure gY.Ok (d:gY):Prop where
 len:d.rule.length=d.next.length
 size:d.next.length<=2000
 to:∀r∈d.next,∀x∈r.v,-1<=x/\x<d.next.length
 ru:∀x∈d.rule,-1<=x/\x<=1000000
def yb (l:List Nat):By:=fD (l.map Int.ofNat)
theorem G0 {l m:List Nat}(h:yb l=yb m):l=m:=by
 have:=key_inj h
 have hi:∀a b:List Nat,a.map Int.ofNat=b.map Int.ofNat->a=b:=by
  intro a
  induction a with
  |nil=>intro b h;cases b with
   |nil=>rfl
   |cons y b=>simp at h
  |cons x a ih=>intro b h;cases b with
   |nil=>simp at h
   |cons y b =>
    simp only[List.map_cons,List.cons.injEq] at h;rw[ih b h.2];have:=h.1;simp only[Int.ofNat_eq_natCast] at this;rw[show x=y by omega]
 exact hi _ _ this
def mP:Nat->List (List Nat)->List Nat->Option Nat
 |_,[],_=>none
 |i,x::r,l=>if l=x then some i else mP (i+1) r l
theorem nq:∀(ls:List (List Nat)) (i j:Nat) (l:List Nat),mP i ls l=some j->i<=j/\ls[j-i]? =some l
 | [],i,j,l,h=>by cases h
 |x::r,i,j,l,h=>by
  rw[mP] at h;split at h
  · rename_i e;cases h;subst e;exact⟨Nat.le_refl _,by simp⟩
  · have:=nq r (i+1) j l h;refine⟨by omega,?_⟩;rw[show j-i=(j-(i+1))+1 by omega,List.getElem?_cons_succ];exact this.2
theorem tq:∀(ls:List (List Nat)) (i:Nat) (l:List Nat),mP i ls l=none->l∉ls
 | [],i,l,_=>List.not_mem_nil
 |x::r,i,l,h=>by
  rw[mP] at h;split at h
  · cases h
  · rename_i e;have:=tq r (i+1) l h;simp only[List.mem_cons,not_or];exact⟨e,this⟩
def cH (ss:List cL) (cur:List Nat) (lists:List (List Nat)) (b:Nat):List (List Nat)×Int :=
 if (dy ss (UInt8.ofNat b) cur).length=0 then (lists,-1)
 else match mP 0 lists (dy ss (UInt8.ofNat b) cur) with
  |some i=>(lists,(i:Int))
  |none=>(lists++[dy ss (UInt8.ofNat b) cur],(lists.length:Int))
def jP (ss:List cL) (cur:List Nat):Nat->Nat->List (List Nat)->List Int->List (List Nat)×List Int
 | 0,_,lists,row=>(lists,row)
 |n+1,b,lists,row=>jP ss cur n (b+1) (cH ss cur lists b).1 (row++[(cH ss cur lists b).2])
def iS (l:List Int):Row:=⟨(l++List.replicate 256 (-1)).take 256,by rw[List.length_take,List.length_append,List.length_replicate];omega⟩
theorem xU {l:List Int}(h:l.length=256):(iS l).v=l:=by
 unfold iS;simp only;rw[List.take_append_of_le_length (by omega),List.take_of_length_le (by omega)]
def je (ss:List cL):Nat->Nat->List (List Nat)->List Row->List Int->Option gY
 | 0,_,_,_,_=>none
 |n+1,k,lists,next,rule =>
  match lists[k]? with
  |none=>some ⟨next,rule⟩
  |some cur =>
   if 2000<(jP ss cur 256 0 lists []).1.length then none
   else je ss n (k+1) (jP ss cur 256 0 lists []).1 (next++[iS (jP ss cur 256 0 lists []).2]) (rule++[bQ ss cur])
def iH (ss:List cL) (st:Nat):Int ⊕ gY :=
 if (b9 ss st).length=0 then .inl 1
 else match je ss 2002 0 [b9 ss st] [] [] with
  |none=>.inl 70
  |some d=>.inr d
def gY.row (d:gY) (k:Nat):List Int:=match d.next[k]? with|some r=>r.v|none=>[]
def gk (out:List Bool) (t:Int):Bool:=decide (0<=t) && out.getD t.toNat false
def gm (d:gY) (out:List Bool) (k:Nat):Bool:=decide (0<=d.ru k) ||(d.row k).any (gk out)
def cm (d:gY):Nat->Nat->List Bool->Bool->List Bool×Bool
 | 0,_,out,ag=>(out,ag)
 |n+1,k,out,ag=>if out.getD k false=true then cm d n (k+1) out ag else cm d n (k+1) (out.set k (gm d out k)) (ag ||gm d out k)
def gX (out:List Bool):Nat:=(out.filter fun b=> !b).length
def vX (d:gY):Nat->List Bool->List Bool
 | 0,out=>out
 |n+1,out=>if (cm d d.next.length 0 out false).2=true then vX d n (cm d d.next.length 0 out false).1 else (cm d d.next.length 0 out false).1
def pZ (d:gY):List Bool:=vX d (d.next.length+1) (List.replicate d.next.length false)
theorem tC:∀(out:List Bool) (k:Nat) (b:Bool),out[k]? =some false->gX (out.set k b)+(if b then 1 else 0)=gX out
 | [],k,b,h=>by simp at h
 |x::r,0,b,h=>by simp at h;subst h;cases b<;>simp[gX]
 |x::r,k+1,b,h=>by
  have:=tC r k b (by simpa using h);unfold gX at this ⊢;rw[List.set_cons_succ];cases x<;>simp at this ⊢ <;>omega
theorem iq (d:gY):∀(n k:Nat) (out:List Bool) (ag:Bool),(cm d n k out ag).1.length=out.length
 | 0,_,_,_=>rfl
 |n+1,k,out,ag=>by
  rw[cm];split
  · exact iq d n _ _ _
  · rw[iq d n];simp
theorem jb (d:gY):∀(n k:Nat) (out:List Bool) (ag:Bool),k+n<=out.length->gX (cm d n k out ag).1<=gX out/\((cm d n k out ag).2=true->ag=true\/gX (cm d n k out ag).1<gX out)
 | 0,_,out,ag,_=>⟨Nat.le_refl _,fun h=>.inl h⟩
 |n+1,k,out,ag,hk=>by
  rw[cm];split
  · exact jb d n (k+1) out ag (by omega)
  · rename_i h
    have hf:out[k]? =some false:=by
     rw[List.getD_eq_getElem?_getD,List.getElem?_eq_getElem (by omega)] at h;rw[List.getElem?_eq_getElem (by omega)];simpa using h
    have h1:=tC out k (gm d out k) hf;have h2:=jb d n (k+1) (out.set k (gm d out k)) (ag ||gm d out k) (by simp;omega);refine⟨by omega,fun ht=>?_⟩
    rcases h2.2 ht with h3|h3
    · cases hb:gm d out k with
      |true=>rw[hb,if_pos rfl] at h1;right;rw[hb] at h2;omega
      |false=>rw[hb,Bool.or_false] at h3;exact .inl h3
    · right;omega
def kQ:Nat->List (List Int)->List Int->Option Nat
 |_,[],_=>none
 |i,x::r,l=>if l=x then some i else kQ (i+1) r l
theorem tr:∀(ls:List (List Int)) (i j:Nat) (l:List Int),kQ i ls l=some j->i<=j/\ls[j-i]? =some l
 | [],i,j,l,h=>by cases h
 |x::r,i,j,l,h=>by
  rw[kQ] at h;split at h
  · rename_i e;cases h;subst e;exact⟨Nat.le_refl _,by simp⟩
  · have:=tr r (i+1) j l h;refine⟨by omega,?_⟩;rw[show j-i=(j-(i+1))+1 by omega,List.getElem?_cons_succ];exact this.2
def de (live:List Bool) (cls:List Int) (t:Int):Int:=if t<0\/live.getD t.toNat false=false then -2 else cls.getD t.toNat 0
def nL (d:gY) (live:List Bool) (cls:List Int) (k:Nat):List Int:=cls.getD k 0::(d.row k).map (de live cls)
def bO (d:gY) (live:List Bool) (cls:List Int):Nat->Nat->List (List Int)->List Int->List (List Int)×List Int
 | 0,_,seen,after=>(seen,after)
 |n+1,k,seen,after =>
  match kQ 0 seen (nL d live cls k) with
  |some i=>bO d live cls n (k+1) seen (after++[(i:Int)])
  |none=>bO d live cls n (k+1) (seen++[nL d live cls k]) (after++[(seen.length:Int)])
def o7 (d:gY) (live:List Bool):Nat->Nat->List Int->List Int
 | 0,_,cls=>cls
 |n+1,many,cls =>
  if (bO d live cls d.next.length 0 [] []).1.length=many then (bO d live cls d.next.length 0 [] []).2
  else o7 d live n (bO d live cls d.next.length 0 [] []).1.length (bO d live cls d.next.length 0 [] []).2
def tN (d:gY) (live:List Bool):List Int:=o7 d live (d.next.length+1) 0 d.rule
def pK (m:Nat) (l:List Int):Prop:=∀i,i<m->(i:Int)∈l
theorem tJ:∀(m:Nat) (l:List Int),pK m l->m<=l.length
 | 0,_,_=>Nat.zero_le _
 |m+1,l,h=>by
  have hm:=h m (Nat.lt_succ_self m);have h1:pK m (l.erase (m:Int)):=fun i hi=>(List.mem_erase_of_ne (by omega)).2 (h i (by omega))
  have h2:=tJ m _ h1;have h3:=List.length_erase_of_mem hm;have h4:0<l.length:=List.length_pos_of_mem hm;omega
structure Dm (d:gY) (live:List Bool) (cls:List Int) (k:Nat) (seen:List (List Int)) (after:List Int):Prop where
 len:after.length=k
 size:seen.length<=k
 nums:pK seen.length after
 bound:∀x∈after,0<=x/\x<seen.length
 all:∀j,j<k->nL d live cls j∈seen
theorem j9 {d:gY}{live:List Bool}{cls:List Int}:∀(n k:Nat) (seen:List (List Int)) (after:List Int),Dm d live cls k seen after->Dm d live cls (k+n) (bO d live cls n k seen after).1 (bO d live cls n k seen after).2
 | 0,k,seen,after,h=>h
 |n+1,k,seen,after,h=>by
  rw[bO,show k+(n+1)=(k+1)+n by omega];split
  · rename_i i hi;have hi':=tr seen 0 i _ hi;have hil:=(List.getElem?_eq_some_iff.1 hi'.2).1
    exact j9 n (k+1) _ _ ⟨by simp[h.len],by have:=h.size;omega,fun j hj=>List.mem_append_left _ (h.nums j hj),fun x hx=>by
     rcases List.mem_append.1 hx with e|e
     · exact h.bound x e
     · have:x=(i:Int):=by simpa using e
       rw[this];omega,fun j hj=>by
     by_cases e:j=k
     · subst e;exact List.mem_of_getElem? hi'.2
     · exact h.all j (by omega)⟩
  · exact j9 n (k+1) _ _ ⟨by simp[h.len],by have:=h.size;simp;omega,fun j hj=>by
     simp only[List.length_append,List.length_singleton] at hj
     by_cases e:j=seen.length
     · subst e;simp
     · exact List.mem_append_left _ (h.nums j (by omega)),fun x hx=>by
     simp only[List.length_append,List.length_singleton]
     rcases List.mem_append.1 hx with e|e
     · have:=h.bound x e;omega
     · have:x=(seen.length:Int):=by simpa using e
       omega,fun j hj=>by
     by_cases e:j=k
     · subst e;simp
     · exact List.mem_append_left _ (h.all j (by omega))⟩
theorem gK (d:gY) (live:List Bool) (cls:List Int):Dm d live cls d.next.length (bO d live cls d.next.length 0 [] []).1 (bO d live cls d.next.length 0 [] []).2:=by
 have:=j9 (d:=d) (live:=live) (cls:=cls) d.next.length 0 [] [] ⟨rfl,Nat.le_refl _,fun i hi=>absurd hi (Nat.not_lt_zero _),fun x hx=>(by cases hx),fun j hj=>absurd hj (Nat.not_lt_zero _)⟩
 rwa [Nat.zero_add] at this
theorem tM {d:gY}{many:Nat}(hc:pK many cls) (hl:cls.length=d.next.length):many<=(bO d live cls d.next.length 0 [] []).1.length:=by
 have h:=gK d live cls
 have:pK many ((bO d live cls d.next.length 0 [] []).1.map fun s=>s.getD 0 0):=fun i hi=>by
  obtain⟨k,hk⟩:=List.getElem?_of_mem (hc i hi);have hkl:=(List.getElem?_eq_some_iff.1 hk).1;have:=h.all k (by omega);refine List.mem_map.2 ⟨_,this,?_⟩;simp[nL,List.getD_eq_getElem?_getD,hk]
 have:=tJ _ _ this;simpa using this
def qi (cls:List Int):Nat->List Nat->Int->Option Nat
 |_,[],_=>none
 |i,x::r,c=>if c=cls.getD x 0 then some i else qi cls (i+1) r c
theorem tw {cls:List Int}:∀(of:List Nat) (i:Nat) (c:Int),qi cls i of c=none->∀x∈of,c≠cls.getD x 0
 | [],i,c,h,x,hx=>by cases hx
 |y::r,i,c,h,x,hx=>by
  rw[qi] at h;split at h
  · cases h
  · rename_i hn
    rcases List.mem_cons.1 hx with e|e
    · subst e;exact hn
    · exact tw r (i+1) c h x e
def eU (live:List Bool) (cls:List Int) (of:List Nat) (t:Int):List Nat×Int :=
 if t<0\/live.getD t.toNat false=false then (of,-1) else
  match qi cls 0 of (cls.getD t.toNat 0) with
  |some i=>(of,(i:Int))
  |none=>(of++[t.toNat],(of.length:Int))
def lN (live:List Bool) (cls:List Int):List Int->List Nat->List Int->List Nat×List Int
 | [],of,row=>(of,row)
 |t::r,of,row=>lN live cls r (eU live cls of t).1 (row++[(eU live cls of t).2])
def GJ (d:gY) (live:List Bool) (cls:List Int):Nat->Nat->List Nat->List Row->List Int->gY
 | 0,_,_,next,rule=>⟨next,rule⟩
 |n+1,i,of,next,rule =>
  match of[i]? with
  |none=>⟨next,rule⟩
  |some k=>GJ d live cls n (i+1) (lN live cls (d.row k) of []).1 (next++[iS (lN live cls (d.row k) of []).2]) (rule++[d.ru k])
def Cs (d:gY):gY:=if d.next.length=0 then ⟨[],[]⟩ else GJ d (pZ d) (tN d (pZ d)) (d.next.length+1) 0 [0] [] []
structure Dp (n:Nat) (of:List Nat):Prop where
 once:of.Nodup
 lt:∀x∈of,x<n
theorem AA:∀(n:Nat) (l:List Nat),l.Nodup->(∀x∈l,x<n)->l.length<=n
 | 0,[],_,_=>Nat.le_refl _
 | 0,x::l,_,h=>absurd (h x (by simp)) (Nat.not_lt_zero _)
 |n+1,l,hl,h=>by
  have h1:=AA n (l.erase n) (hl.erase n) (fun x hx=>by
   have:=(hl.mem_erase_iff).1 hx;have:=h x this.2;omega)
  by_cases hn:n∈l
  · have:=List.length_erase_of_mem hn;omega
  · rw[List.erase_of_not_mem hn] at h1;omega
theorem Dp.len {n:Nat}(k:Dp n of):of.length<=n:=AA n of k.once k.lt
theorem Cq {n:Nat}{t:Int}(k:Dp n of) (ht:t<n):Dp n (eU live cls of t).1:=by
 unfold eU;split
 · exact k
 · rename_i hn;split
   · exact k
   · rename_i hf;have hne:=tw of 0 _ hf;refine⟨List.nodup_append.2 ⟨k.once,by simp,fun a ha b hb e=>?_⟩,fun x hx=>?_⟩
     · have:b=t.toNat:=by simpa using hb
       subst e;subst this;exact hne _ ha rfl
     · rcases List.mem_append.1 hx with e|e
       · exact k.lt x e
       · have:x=t.toNat:=by simpa using e
         omega
theorem Cr {t:Int}:of.length<=(eU live cls of t).1.length/\∀(i x:Nat),of[i]? =some x->(eU live cls of t).1[i]? =some x:=by
 unfold eU;split
 · exact⟨Nat.le_refl _,fun _ _ h=>h⟩
 · split
   · exact⟨Nat.le_refl _,fun _ _ h=>h⟩
   · exact⟨by simp,fun i x h=>by rw[List.getElem?_append_left (List.getElem?_eq_some_iff.1 h).1];exact h⟩
def wG (L:List (List Nat)) (l:List Nat) (to:Int):Prop:=(l.length=0/\to= -1)\/(l.length≠0/\∃i:Nat,to=(i:Int)/\L[i]? =some l)
theorem wG.mono {L L':List (List Nat)}{l:List Nat}{to:Int}(k:wG L l to) (h:L <+: L'):wG L' l to:=by
 rcases k with k|⟨k,i,e,hi⟩
 · exact .inl k
 · obtain⟨t,rfl⟩:=h;exact .inr ⟨k,i,e,by rw[List.getElem?_append_left (List.getElem?_eq_some_iff.1 hi).1];exact hi⟩
theorem xG (ss:List cL) (cur:List Nat) (lists:List (List Nat)) (b:Nat) (hn:lists.Nodup) :
 lists <+: (cH ss cur lists b).1/\(cH ss cur lists b).1.Nodup/\wG (cH ss cur lists b).1 (dy ss (UInt8.ofNat b) cur) (cH ss cur lists b).2:=by
 unfold cH;split
 · rename_i h;exact⟨List.prefix_refl _,hn,.inl ⟨h,rfl⟩⟩
 · rename_i h;split
   · rename_i i hi;exact⟨List.prefix_refl _,hn,.inr ⟨h,i,rfl,(nq lists 0 i _ hi).2⟩⟩
   · rename_i hi;refine⟨List.prefix_append _ _,List.nodup_append.2 ⟨hn,by simp,fun x hx y hy e=>?_⟩,.inr ⟨h,lists.length,rfl,by simp⟩⟩;have:y=dy ss (UInt8.ofNat b) cur:=by simpa using hy
     exact tq lists 0 _ hi (by rw[<-this,<-e];exact hx)
theorem oU (ss:List cL) (cur:List Nat):∀(n b:Nat) (lists:List (List Nat)) (row:List Int),lists.Nodup ->
 lists <+: (jP ss cur n b lists row).1/\(jP ss cur n b lists row).1.Nodup/\∃ys,(jP ss cur n b lists row).2=row++ys/\ys.length=n/\∀(j:Nat) (y:Int),ys[j]? =some y->wG (jP ss cur n b lists row).1 (dy ss (UInt8.ofNat (b+j)) cur) y
 | 0,b,lists,row,hn=>⟨List.prefix_refl _,hn,[],by simp[jP],rfl,fun j y h=>by simp at h⟩
 |n+1,b,lists,row,hn=>by
  obtain⟨h1,h2,h3⟩:=xG ss cur lists b hn;obtain⟨k1,k2,ys,k3,k4,k5⟩:=oU ss cur n (b+1) (cH ss cur lists b).1 (row++[(cH ss cur lists b).2]) h2;rw[jP];refine⟨h1.trans k1,k2,(cH ss cur lists b).2::ys,by rw[k3];simp,by simp[k4],fun j y hy=>?_⟩;cases j with
  |zero =>
   simp only[List.getElem?_cons_zero,Option.some.injEq] at hy;subst hy;exact h3.mono k1
  |succ j =>
   rw[List.getElem?_cons_succ] at hy;have:=k5 j y hy
   rwa [show b+(j+1)=b+1+j by omega]
structure BN (ss:List cL) (st:Nat) (lists:List (List Nat)) (d:gY):Prop where
 first:lists[0]? =some (b9 ss st)
 once:lists.Nodup
 size:lists.length<=2000
 rlen:d.rule.length=d.next.length
 row:∀(k:Nat) (r:Row) (l:List Nat),d.next[k]? =some r->lists[k]? =some l->∀(b:Nat) (y:Int),r.v[b]? =some y->wG lists (dy ss (UInt8.ofNat b) l) y
 rule:∀(k:Nat) (x:Int) (l:List Nat),d.rule[k]? =some x->lists[k]? =some l->x=bQ ss l
theorem qk {ss:List cL}{st:Nat}:∀(n k:Nat) (lists:List (List Nat)) (next:List Row) (rule:List Int) (d:gY),BN ss st lists ⟨next,rule⟩->next.length=k->k<=lists.length->je ss n k lists next rule=some d->∃L,lists <+: L/\BN ss st L d/\L.length=d.next.length
 | 0,k,lists,next,rule,d,h,hk,hkl,hd=>by cases hd
 |n+1,k,lists,next,rule,d,h,hk,hkl,hd=>by
  rw[je] at hd;split at hd
  · rename_i hn;cases hd;have:=List.getElem?_eq_none_iff.1 hn;exact⟨lists,List.prefix_refl _,h,by show lists.length=next.length;omega⟩
  · rename_i cur hcur;obtain⟨h1,h2,ys,h3,h4,h5⟩:=oU ss cur 256 0 lists [] h.once;split at hd
    · cases hd
    · rename_i hsz;have hkl2:=(List.getElem?_eq_some_iff.1 hcur).1
      have hpre:∀(i:Nat) (l:List Nat),i<lists.length->(jP ss cur 256 0 lists []).1[i]? =some l->lists[i]? =some l:=fun i l hi hl=>by
       obtain⟨t,ht⟩:=h1;rw[<-ht,List.getElem?_append_left hi] at hl;exact hl
      have hpre2:∀(i:Nat) (l:List Nat),lists[i]? =some l->(jP ss cur 256 0 lists []).1[i]? =some l:=fun i l hl=>by
       obtain⟨t,ht⟩:=h1;rw[<-ht,List.getElem?_append_left (List.getElem?_eq_some_iff.1 hl).1];exact hl
      have hlen:=h1.length_le;have hrl:rule.length=next.length:=h.rlen
      obtain⟨L,g1,g2,g3⟩:=qk (st:=st) n (k+1) _ _ _ d ⟨hpre2 _ _ h.first,h2,by omega,by simp[hrl],fun i r l hr hl b y hy=>by
       rcases Nat.lt_or_ge i next.length with hi|hi
       · rw[List.getElem?_append_left hi] at hr;exact(h.row i r l hr (hpre i l (by omega) hl) b y hy).mono h1
       · have hik:i=next.length:=by
          have:=(List.getElem?_eq_some_iff.1 hr).1;simp at this;omega
         subst hik;simp only[List.getElem?_concat_length,Option.some.injEq] at hr;subst hr;have hlc:=hpre _ l (by omega) hl;rw[hk] at hlc;rw[hcur] at hlc;cases hlc;rw[h3,List.nil_append,xU h4] at hy;have:=h5 b y hy
         rwa [Nat.zero_add] at this,fun i x l hx hl=>by
       rcases Nat.lt_or_ge i rule.length with hi|hi
       · rw[List.getElem?_append_left hi] at hx;exact h.rule i x l hx (hpre i l (by omega) hl)
       · have hik:i=rule.length:=by
          have:=(List.getElem?_eq_some_iff.1 hx).1;simp at this;omega
         subst hik;simp only[List.getElem?_concat_length,Option.some.injEq] at hx;subst hx;have hlc:=hpre _ l (by omega) hl;rw[hrl,hk,hcur] at hlc;cases hlc;rfl⟩ (by simp[hk]) (by omega) hd
      exact⟨L,h1.trans g1,g2,g3⟩
theorem uh {ss:List cL}(hr:∀x∈ss,x.rule<=1000000):∀(l:List Nat) (b:Int),-1<=b/\b<=1000000-> -1<=zo ss l b/\zo ss l b<=1000000
 | [],b,h=>h
 |j::r,b,h=>by
  rw[zo];refine uh hr r _ ?_;split
  · rename_i x hx;split
    · have:=hr x (List.mem_of_getElem? hx);omega
    · exact h
  · exact h
theorem ug (hr:∀x∈ss,x.rule<=1000000) (l:List Nat) : -1<=bQ ss l/\bQ ss l<=1000000:=by
 unfold bQ;split
 · omega
 · exact uh hr l (-1) (by omega)
theorem BN.ok {L:List (List Nat)}{d:gY}(k:BN ss st L d) (hL:L.length=d.next.length) (hr:∀x∈ss,x.rule<=1000000):d.Ok:=by
 refine⟨k.rlen,by rw[<-hL];exact k.size,fun r hrm x hx=>?_,fun x hx=>?_⟩
 · obtain⟨i,hi⟩:=List.getElem?_of_mem hrm;obtain⟨j,hj⟩:=List.getElem?_of_mem hx;have hil:=(List.getElem?_eq_some_iff.1 hi).1;have hl:L[i]? =some (L[i]'(by omega)):=List.getElem?_eq_getElem _
   rcases k.row i r _ hi hl j x hj with ⟨_,rfl⟩|⟨_,i2,rfl,h2⟩
   · omega
   · have:=(List.getElem?_eq_some_iff.1 h2).1;omega
 · obtain⟨i,hi⟩:=List.getElem?_of_mem hx;have hil:=(List.getElem?_eq_some_iff.1 hi).1;have hl:L[i]? =some (L[i]'(by rw[hL,<-k.rlen];exact hil)):=List.getElem?_eq_getElem _;rw[k.rule i x _ hi hl];exact ug hr _
theorem yE {d:gY}(h:iH ss st= .inr d):(b9 ss st).length≠0/\∃L,BN ss st L d/\L.length=d.next.length/\0<L.length:=by
 unfold iH at h;split at h
 · cases h
 · rename_i hs;refine⟨hs,?_⟩;split at h
   · cases h
   · rename_i d' hd;cases h;obtain⟨L,h1,h2,h3⟩:=qk (st:=st) 2002 0 [b9 ss st] [] [] d ⟨rfl,by simp,by simp,rfl,fun k r l hr=>by simp at hr,fun k x l hx=>by simp at hx⟩ rfl (by simp) hd;exact⟨L,h2,h3,by have:=(List.getElem?_eq_some_iff.1 h2.first).1;omega⟩
theorem sj {α:Type}[DecidableEq α]:∀(l m:List α),l.Nodup->(∀x∈l,x∈m)->l.length<=m.length
 | [],m,_,_=>Nat.zero_le _
 |a::l,m,h,hs=>by
  rw[List.nodup_cons] at h;have ha:=hs a (by simp);have:=sj l (m.erase a) h.2 (fun x hx=>(List.mem_erase_of_ne (fun e=>h.1 (by rw[<-e];exact hx))).2 (hs x (by simp[hx])));have h2:=List.length_erase_of_mem ha;have h3:=List.length_pos_of_mem ha;simp only[List.length_cons];omega
def Jp (ss:List cL) (S:List (List Nat)):Prop:=∀T∈S,∀c:UInt8,(dy ss c T).length=0\/dy ss c T∈S
theorem DG {ss:List cL}{S:List (List Nat)}{cur:List Nat}(hS:Jp ss S) (hc:cur∈S):∀(n b:Nat) (lists:List (List Nat)) (row:List Int),(∀T∈lists,T∈S)->∀T∈(jP ss cur n b lists row).1,T∈S
 | 0,b,lists,row,h=>h
 |n+1,b,lists,row,h=>by
  rw[jP];refine DG hS hc n (b+1) _ _ fun T hT=>?_
  unfold cH at hT;split at hT
  · exact h T hT
  · rename_i hne;split at hT
    · exact h T hT
    · rcases List.mem_append.1 hT with k|k
      · exact h T k
      · rw[List.mem_singleton.1 k];exact(hS cur hc (UInt8.ofNat b)).resolve_left hne
theorem ql {ss:List cL}{S:List (List Nat)}(hS:Jp ss S) (hlen:S.length<=2000):∀(n k:Nat) (lists:List (List Nat)) (next:List Row) (rule:List Int),lists.Nodup->(∀T∈lists,T∈S)->k<=lists.length->2002<=n+k->∃d,je ss n k lists next rule=some d
 | 0,k,lists,next,rule,hn,hin,hk,hf=>by
  have:=sj lists S hn hin;omega
 |n+1,k,lists,next,rule,hn,hin,hk,hf=>by
  rw[je];split
  · exact⟨_,rfl⟩
  · rename_i cur hcur;have hkl:=(List.getElem?_eq_some_iff.1 hcur).1;obtain⟨h1,h2,_⟩:=oU ss cur 256 0 lists [] hn;have h3:=DG hS (hin cur (List.mem_of_getElem? hcur)) 256 0 lists [] hin;have h4:=sj _ S h2 h3;have h5:=h1.length_le;rw[if_neg (by omega)];exact ql hS hlen n (k+1) _ _ _ h2 h3 (by omega) (by omega)
theorem Bf {S:List (List Nat)}(hS:Jp ss S) (hlen:S.length<=2000) (h0:(b9 ss st).length≠0) (hst:b9 ss st∈S):∃d,iH ss st= .inr d:=by
 obtain⟨d,hd⟩:=ql hS hlen 2002 0 [b9 ss st] [] [] (by simp) (fun T hT=>by rw[List.mem_singleton.1 hT];exact hst) (Nat.zero_le _) (Nat.le_refl _);refine⟨d,?_⟩;unfold iH;rw[if_neg h0,hd]
theorem oN {ss:List cL}{c r:UInt8}(h:∀x∈ss,x.set.testBit c.toNat=x.set.testBit r.toNat):∀(l a:List Nat),stepG ss c l a=stepG ss r l a
 | [],a=>rfl
 |j::l,a=>by
  rw[stepG,stepG];cases hx:ss[j]? with
  |none=>exact oN h l a
  |some x =>
   simp only;rw[show mX x c=mX x r by unfold mX;rw[h x (List.mem_of_getElem? hx)]];exact oN h l _
theorem Eu {c r:UInt8}(h:∀x∈ss,x.set.testBit c.toNat=x.set.testBit r.toNat) (T:List Nat):dy ss c T=dy ss r T:=by
 unfold dy;rw[oN h]
def yj:List (List Nat×Nat)->List Nat->Option Nat
 | [],_=>none
 |(T,h)::l,U=>if T=U then some h else yj l U
theorem sX:∀{l:List (List Nat×Nat)}{U:List Nat}{h:Nat},yj l U=some h->(U,h)∈l
 | [],U,h,e=>by cases e
 |(T,h')::l,U,h,e=>by
  rw[yj] at e;split at e
  · rename_i k;cases e;subst k;simp
  · exact List.mem_cons_of_mem _ (sX e)
def D5 (ss:List cL) (H:List (List Nat×Nat)) (T:List Nat) (h:Nat) (r:UInt8):Bool :=
 (dy ss r T).isEmpty ||match yj H (dy ss r T) with
  |none=>false
  |some h'=>decide (0<=bQ ss (dy ss r T)) ||decide ((if 0<=bQ ss T then 0 else h)+1<=h')
def o8 (ss:List cL) (H:List (List Nat×Nat)) (reps:List UInt8):Bool:=H.all fun p=>decide (p.2<=2) && reps.all fun r=>D5 ss H p.1 p.2 r
def iW (ss:List cL) (tab:List UInt8) (reps:List UInt8):Bool:=decide (tab.length=256) && (List.range 256).all fun b=>reps.contains (tab.getD b 0) && ss.all fun x=>x.set.testBit b ==x.set.testBit (tab.getD b 0).toNat
theorem I8 (h:iW ss tab reps=true) (c:UInt8):∃r∈reps,∀x∈ss,x.set.testBit c.toNat=x.set.testBit r.toNat:=by
 unfold iW at h;rw[Bool.and_eq_true] at h;have h2:=List.all_eq_true.1 h.2 c.toNat (List.mem_range.2 c.toNat_lt);rw[Bool.and_eq_true] at h2;exact⟨_,by simpa using h2.1,fun x hx=>by simpa using List.all_eq_true.1 h2.2 x hx⟩
theorem Hy {H:List (List Nat×Nat)}(hr:iW ss tab reps=true) (ha:o8 ss H reps=true){T:List Nat}{h:Nat}(hT:(T,h)∈H) (c:UInt8) :
 (dy ss c T).length=0\/∃h',(dy ss c T,h')∈H/\h'<=2/\(0<=bQ ss (dy ss c T)\/(if 0<=bQ ss T then 0 else h)+1<=h'):=by
 obtain⟨r,hrm,hx⟩:=I8 hr c;rw[Eu hx];have h1:=List.all_eq_true.1 ha _ hT;rw[Bool.and_eq_true] at h1;have h2:=List.all_eq_true.1 h1.2 r hrm;simp only[D5,Bool.or_eq_true,List.isEmpty_iff] at h2
 rcases h2 with h2|h2
 · left;rw[h2];rfl
 · right
   cases hh:yj H (dy ss r T) with
   |none=>rw[hh] at h2;cases h2
   |some h' =>
    rw[hh] at h2;simp only[Bool.or_eq_true,decide_eq_true_eq] at h2;have hm:=sX hh;have h3:=List.all_eq_true.1 ha _ hm;rw[Bool.and_eq_true] at h3;exact⟨h',hm,of_decide_eq_true h3.1,h2⟩
theorem Hz {H:List (List Nat×Nat)}(hr:iW ss tab reps=true) (ha:o8 ss H reps=true):Jp ss (H.map (·.1)):=fun T hT c=>by
 obtain⟨⟨T',h⟩,hm,rfl⟩:=List.mem_map.1 hT
 rcases Hy hr ha hm c with k|⟨h',k,_⟩
 · exact .inl k
 · exact .inr (List.mem_map.2 ⟨_,k,rfl⟩)
end
end Go.Proofs.YtckomlgchbkekaaGreatDoor
namespace Go.Proofs.YtckomlgchbkekaaGreatDoor
open Go
set_option maxRecDepth 100000
def Gi:List By:=[[91,32,92,116,92,114,93,43],[92,110],[91,97,45,122,65,45,90,95,93,91,97,45,122,65,45,90,48,45,57,95,93,42],[91,48,45,57,93,43,40,92,46,91,48,45,57,93,43,41,63,40,91,101,69,93,91,92,43,92,45,93,63,91,48,45,57,93,43,41,63],[47,47,91,94,92,110,93,42],[47,92,42],[34],[91,92,40,92,91,123,93],[91,92,41,92,93,125,93],[91,92,43,92,45,92,42,47,37,60,62,33,61,44,59,58,92,46,93,124,61,61,124,33,61,124,60,61,124,62,61,124,38,38,124,92,124,92,124,124,92,45,62]]
def zY:List cL:=[⟨2,0,[],0⟩,⟨0,0,[2,0],0⟩,⟨1,4294976000,[1],0⟩,⟨2,0,[],1⟩,⟨1,1024,[3],0⟩,⟨2,0,[],2⟩,⟨0,0,[7,5],0⟩,⟨1,10633823849912963253799171395480977408,[6],0⟩,⟨1,10633823849912963253511222494305976320,[6],0⟩,⟨2,0,[],3⟩,⟨0,0,[11,9],0⟩,⟨1,287948901175001088,[10],0⟩,⟨1,43980465111040,[11],0⟩,⟨0,0,[12,11],0⟩,⟨1,2535301201046754613352112062464,[13],0⟩,⟨0,0,[14,9],0⟩,⟨0,0,[17,15],0⟩,⟨1,287948901175001088,[16],0⟩,⟨1,70368744177664,[17],0⟩,⟨0,0,[18,15],0⟩,⟨0,0,[21,19],0⟩,⟨1,287948901175001088,[20],0⟩,⟨2,0,[],4⟩,⟨0,0,[24,22],0⟩,⟨1,115792089237316195423570985008687907853269984665640564039457584007913129638911,[23],0⟩,⟨1,140737488355328,[23],0⟩,⟨1,140737488355328,[25],0⟩,⟨2,0,[],5⟩,⟨1,4398046511104,[27],0⟩,⟨1,140737488355328,[28],0⟩,⟨2,0,[],6⟩,⟨1,17179869184,[30],0⟩,⟨2,0,[],7⟩,⟨1,10633823968755207061801218131552632832,[32],0⟩,⟨2,0,[],8⟩,⟨1,42535295875020828247204870327187275776,[34],0⟩,⟨2,0,[],9⟩,⟨1,8935418883662151680,[36],0⟩,⟨1,2305843009213693952,[36],0⟩,⟨1,2305843009213693952,[38],0⟩,⟨1,2305843009213693952,[36],0⟩,⟨1,8589934592,[40],0⟩,⟨1,2305843009213693952,[36],0⟩,⟨1,1152921504606846976,[42],0⟩,⟨1,2305843009213693952,[36],0⟩,⟨1,4611686018427387904,[44],0⟩,⟨1,274877906944,[36],0⟩,⟨1,274877906944,[46],0⟩,⟨1,21267647932558653966460912964485513216,[36],0⟩,⟨1,21267647932558653966460912964485513216,[48],0⟩,⟨1,4611686018427387904,[36],0⟩,⟨1,35184372088832,[50],0⟩,⟨0,0,[37,39,41,43,45,47,49,51],0⟩,⟨0,0,[2,4,8,21,26,29,31,33,35,52],0⟩]
theorem Qf:fV Gi= .inr (zY,53):=rfl
def Pb:List (List Nat×Nat):=[([2,4,8,21,26,29,31,33,35,37,39,41,43,45,47,49,51],0),([0,2],0),([3],0),([36,40],0),([30],0),([36],0),([46],1),([32],0),([34],0),([36,50],0),([25,28,36],0),([9,14,18,21],0),([36,42],0),([36,38],0),([36,44],0),([5,7],0),([48],1),([27],0),([22,24],0),([17],1),([11,12],1),([9,14,17],0),([11],2),([9,11],0)]
def OQ:List UInt8:=[0,0,0,0,0,0,0,0,0,9,10,0,0,9,0,0,0,0,0,0,0,0,0,0,0,0,0,0,0,0,0,0,9,33,34,0,0,37,38,0,40,41,42,43,37,45,46,47,48,48,48,48,48,48,48,48,48,48,37,37,60,61,62,0,0,65,65,65,65,69,65,65,65,65,65,65,65,65,65,65,65,65,65,65,65,65,65,65,65,65,65,40,0,41,0,65,0,65,65,65,65,69,65,65,65,65,65,65,65,65,65,65,65,65,65,65,65,65,65,65,65,65,65,40,124,41]++List.replicate 130 0
def JZ:List UInt8:=[0,9,10,33,34,37,38,40,41,42,43,45,46,47,48,60,61,62,65,69,124]
def Gh:List By:=[[91,94,34,92,92,92,110,93,43],[92,92,91,110,114,116,34,92,92,48,93],[34],[92,110]]
def zX:List cL:=[⟨2,0,[],0⟩,⟨0,0,[2,0],0⟩,⟨1,115792089237316195423570985008687907853269984665635612279300442486796353272831,[1],0⟩,⟨2,0,[],1⟩,⟨1,105144016337090416619545142419783680,[3],0⟩,⟨1,4951760157141521099596496896,[4],0⟩,⟨2,0,[],2⟩,⟨1,17179869184,[6],0⟩,⟨2,0,[],3⟩,⟨1,1024,[8],0⟩,⟨0,0,[2,5,7,9],0⟩]
theorem KY:fV Gh= .inr (zX,10):=rfl
def Pa:List (List Nat×Nat):=[([2,5,7,9],0),([0,2],0),([8],0),([6],0),([4],1),([3],0)]
def OP:List UInt8:=[0,0,0,0,0,0,0,0,0,0,10,0,0,0,0,0,0,0,0,0,0,0,0,0,0,0,0,0,0,0,0,0,0,0,34,0,0,0,0,0,0,0,0,0,0,0,0,0,48]++List.replicate 43 0++[92,0,0,0,0,0,0,0,0,0,0,0,0,0,0,0,0,0,48,0,0,0,48,0,48]++List.replicate 139 0
def JY:List UInt8:=[0,10,34,48,92]
def Gg:List By:=[[47,92,42],[92,42,47],[91,94,92,42,47,93,43],[91,92,42,47,93]]
def zW:List cL:=[⟨2,0,[],0⟩,⟨1,4398046511104,[0],0⟩,⟨1,140737488355328,[1],0⟩,⟨2,0,[],1⟩,⟨1,140737488355328,[3],0⟩,⟨1,4398046511104,[4],0⟩,⟨2,0,[],2⟩,⟨0,0,[8,6],0⟩,⟨1,115792089237316195423570985008687907853269984665640564039457583862777594773503,[7],0⟩,⟨2,0,[],3⟩,⟨1,145135534866432,[9],0⟩,⟨0,0,[2,5,8,10],0⟩]
theorem Qe:fV Gg= .inr (zW,11):=rfl
def M6:List (List Nat×Nat):=[([2,5,8,10],0),([6,8],0),([4,9],0),([1,9],0),([3],0),([0],0)]
def OO:List UInt8:=List.replicate 42 0++[42,0,0,0,0,47]++List.replicate 208 0
def JX:List UInt8:=[0,42,47]
theorem Nv:iW zY OQ JZ=true:=by decide +kernel
theorem Nz:o8 zY Pb JZ=true:=by decide +kernel
theorem Ns:yj Pb (b9 zY 53)=some 0/\b9 zY 53≠[]/\¬0<=bQ zY (b9 zY 53):=by decide +kernel
theorem Nu:iW zX OP JY=true:=by decide +kernel
theorem Ny:o8 zX Pa JY=true:=by decide +kernel
theorem Nr:yj Pa (b9 zX 10)=some 0/\b9 zX 10≠[]/\¬0<=bQ zX (b9 zX 10):=by decide +kernel
theorem Nt:iW zW OO JX=true:=by decide +kernel
theorem Nw:o8 zW M6 JX=true:=by decide +kernel
theorem Nq:yj M6 (b9 zW 11)=some 0/\b9 zW 11≠[]/\¬0<=bQ zW (b9 zW 11):=by decide +kernel
end Go.Proofs.YtckomlgchbkekaaGreatDoor

/- What the proof of the statement leans on (part 21). -/
import Derived.Lib.ItoaLen
import Derived.Test.YtdihgdeciopfpaaGreatDoorQt

namespace Go.Proofs.YtdihgdeciopfpaaGreatDoor
open Go
section
variable {s st k:Nat}{live:List Bool}{cls:List Int}{of:List Nat}{t:Int}{ss:List bC}{tab reps:List UInt8}
def gq (l:List Int):By:=l.flatMap fun n=>Lib.itoa n++[32]
theorem rJ (u:Nat):∀c∈Lib.decDigits u,48<=c.toNat/\c.toNat<=57:=by
  induction u using Nat.strongRecOn with
  |_ u ih =>
    intro c hc;rw[Lib.decDigits] at hc;split at hc
    · rename_i h;simp at hc;subst hc;simp;omega
    · rename_i h
      rcases List.mem_append.1 hc with k|k
      · exact ih (u / 10) (by omega) c k
      · simp at k;subst k;have:u%10<10:=Nat.mod_lt _ (by decide);simp;omega
def JE (l:By):Nat:=l.foldl (fun a c=>a*10+(c.toNat-48)) 0
theorem tP (u:Nat):JE (Lib.decDigits u)=u:=by
  induction u using Nat.strongRecOn with
  |_ u ih =>
    rw[Lib.decDigits];split
    · rename_i h;simp[JE];omega
    · rename_i h;have h1:=ih (u / 10) (by omega);unfold JE at h1 ⊢;rw[List.foldl_append,h1];have:u%10<10:=Nat.mod_lt _ (by decide);simp;omega
theorem vT (n:Int):∀c∈Lib.itoa n,c≠32:=by
  intro c hc e;subst e;unfold Lib.itoa at hc;split at hc
  · rcases List.mem_cons.1 hc with k|k
    · cases k
    · have:=(rJ _ _ k).1;simp at this
  · have:=(rJ _ _ hc).1;simp at this
theorem Jj {m n:Int}(h:Lib.itoa m=Lib.itoa n):m=n:=by
  have neg:∀a b:Nat,45::Lib.decDigits a≠Lib.decDigits b:=fun a b e=>by
    have:(45:UInt8)∈Lib.decDigits b:=by rw[<-e];exact List.mem_cons_self
    have:=(rJ _ _ this).1;simp at this
  unfold Lib.itoa at h;split at h<;>split at h
  · have h:=congrArg JE (List.cons.inj h).2;rw[tP,tP] at h;omega
  · exact absurd h (neg _ _)
  · exact absurd h.symm (neg _ _)
  · have h:=congrArg JE h;rw[tP,tP] at h;omega
theorem sY:∀(a b r s:By),(∀c∈a,c≠32)->(∀c∈b,c≠32)->a++32::r=b++32::s->a=b/\r=s
  | [],[],r,s,_,_,h=>by simpa using h
  | [],d::b,r,s,_,hb,h=>by
    simp only[List.nil_append,List.cons_append,List.cons.injEq] at h;exact absurd h.1.symm (hb d List.mem_cons_self)
  |c::a,[],r,s,ha,_,h=>by
    simp only[List.nil_append,List.cons_append,List.cons.injEq] at h;exact absurd h.1 (ha c List.mem_cons_self)
  |c::a,d::b,r,s,ha,hb,h=>by
    simp only[List.cons_append,List.cons.injEq] at h;have:=sY a b r s (fun x hx=>ha x (List.mem_cons_of_mem _ hx)) (fun x hx=>hb x (List.mem_cons_of_mem _ hx)) h.2;exact⟨by rw[h.1,this.1],this.2⟩
theorem key_inj:∀{l m:List Int},gq l=gq m->l=m
  | [],[],_=>rfl
  | [],n::m,h=>by
    have:=congrArg List.length h;simp[gq] at this
  |n::l,[],h=>by
    have:=congrArg List.length h;simp[gq] at this
  |n::l,k::m,h=>by
    have h':Lib.itoa n++32::gq l=Lib.itoa k++32::gq m:=by simpa [gq] using h
    obtain⟨h1,h2⟩:=sY _ _ _ _ (vT n) (vT k) h';rw[Jj h1,key_inj h2]
theorem AU:∀(l:List Int),(∀n∈l,-9223372036854775808<=n/\n<=9223372036854775807)->(gq l).length<=22*l.length
  | [],_=>by simp[gq]
  |n::l,h=>by
    have h1:=AU l (fun x hx=>h x (List.mem_cons_of_mem _ hx));have hn:=h n List.mem_cons_self;have h2:=Lib.itoa_length_le n hn.1 hn.2;have e:gq (n::l)=Lib.itoa n++[32]++gq l:=rfl;have h3:(gq (n::l)).length=(Lib.itoa n).length+1+(gq l).length:=by rw[e,List.length_append,List.length_append];rfl
    rw[h3,List.length_cons];omega
theorem Jh (l:List Int) (n:Int):gq (l++[n])=gq l++Lib.itoa n++[32]:=by simp[gq]
structure Row where
  v:List Int
  len:v.length=256
structure bP where
  next:List Row
  rule:List Int
def bP.to (d:bP) (s:Nat) (c:UInt8):Int:=match d.next[s]? with|some r=>r.v.getD c.toNat (-1)|none=> -1
def bP.ru (d:bP) (s:Nat):Int:=d.rule.getD s (-1)
structure bP.Ok (d:bP):Prop where
  len:d.rule.length=d.next.length
  size:d.next.length<=2000
  to:∀r∈d.next,∀x∈r.v,-1<=x/\x<d.next.length
  ru:∀x∈d.rule,-1<=x/\x<=1000000
theorem Row.at {r:Row}(c:UInt8):∃x,r.v[c.toNat]? =some x/\r.v.getD c.toNat (-1)=x/\x∈r.v:=by
  have h:=r.len;have hc:=c.toNat_lt;have hx:r.v[c.toNat]? =some (r.v[c.toNat]'(by omega)):=List.getElem?_eq_getElem (by omega);exact⟨_,hx,by rw[List.getD_eq_getElem?_getD,hx];rfl,List.getElem_mem _⟩
theorem bP.pS {d:bP}(k:d.Ok) (c:UInt8) : -1<=d.to s c/\d.to s c<d.next.length:=by
  unfold bP.to;cases h:d.next[s]? with
  |none=>simp only;omega
  |some r =>
    obtain⟨x,hx,he,hm⟩:=r.at c;simp only;rw[he];exact k.to r (List.mem_of_getElem? h) x hm
def aP (d:bP):By->Nat->Nat->Int×Int->Int×Int×Int
  | [],st,k,b=>if 0<=d.ru st then (k,d.ru st,k) else (b.1,b.2,k)
  |c::l,st,k,b =>
    if 0<=d.to st c then aP d l (d.to st c).toNat (k+1) (if 0<=d.ru st then (k,d.ru st) else b)
    else if 0<=d.ru st then (k,d.ru st,k) else (b.1,b.2,k)
def cW (d:bP) (s:By) (a:Int):Int×Int×Int:=if d.next.length=0\/a<0\/(s.length:Int)<a then (0,-1,0) else aP d (s.drop a.toNat) 0 0 (0,-1)
def AV (l:List Nat):By:=gq (l.map Int.ofNat)
theorem Ji {l m:List Nat}(h:AV l=AV m):l=m:=by
  have:=key_inj h
  have hi:∀a b:List Nat,a.map Int.ofNat=b.map Int.ofNat->a=b:=by
    intro a
    induction a with
    |nil=>intro b h;cases b with
      |nil=>rfl
      |cons y b=>simp at h
    |cons x a ih=>intro b h;cases b with
      |nil=>simp at h
      |cons y b =>
        simp only[List.map_cons,List.cons.injEq] at h;rw[ih b h.2];have:=h.1;simp only[Int.ofNat_eq_natCast] at this;rw[show x=y by omega]
  exact hi _ _ this
def oq:Nat->List (List Nat)->List Nat->Option Nat
  |_,[],_=>none
  |i,x::r,l=>if l=x then some i else oq (i+1) r l
theorem oX:∀(ls:List (List Nat)) (i j:Nat) (l:List Nat),oq i ls l=some j->i<=j/\ls[j-i]? =some l
  | [],i,j,l,h=>by cases h
  |x::r,i,j,l,h=>by
    rw[oq] at h;split at h
    · rename_i e;cases h;subst e;exact⟨Nat.le_refl _,by simp⟩
    · have:=oX r (i+1) j l h;refine⟨by omega,?_⟩;rw[show j-i=(j-(i+1))+1 by omega,List.getElem?_cons_succ];exact this.2
theorem wj:∀(ls:List (List Nat)) (i:Nat) (l:List Nat),oq i ls l=none->l∉ls
  | [],i,l,_=>List.not_mem_nil
  |x::r,i,l,h=>by
    rw[oq] at h;split at h
    · cases h
    · rename_i e;have:=wj r (i+1) l h;simp only[List.mem_cons,not_or];exact⟨e,this⟩
def dw (ss:List bC) (cur:List Nat) (lists:List (List Nat)) (b:Nat):List (List Nat)×Int :=
  if (cz ss (UInt8.ofNat b) cur).length=0 then (lists,-1)
  else match oq 0 lists (cz ss (UInt8.ofNat b) cur) with
    |some i=>(lists,(i:Int))
    |none=>(lists++[cz ss (UInt8.ofNat b) cur],(lists.length:Int))
def lg (ss:List bC) (cur:List Nat):Nat->Nat->List (List Nat)->List Int->List (List Nat)×List Int
  | 0,_,lists,row=>(lists,row)
  |n+1,b,lists,row=>lg ss cur n (b+1) (dw ss cur lists b).1 (row++[(dw ss cur lists b).2])
def jA (l:List Int):Row:=⟨(l++List.replicate 256 (-1)).take 256,by rw[List.length_take,List.length_append,List.length_replicate];omega⟩
theorem tJ {l:List Int}(h:l.length=256):(jA l).v=l:=by
  unfold jA;simp only;rw[List.take_append_of_le_length (by omega),List.take_of_length_le (by omega)]
def jL (ss:List bC):Nat->Nat->List (List Nat)->List Row->List Int->Option bP
  | 0,_,_,_,_=>none
  |n+1,k,lists,next,rule =>
    match lists[k]? with
    |none=>some ⟨next,rule⟩
    |some cur =>
      if 2000<(lg ss cur 256 0 lists []).1.length then none
      else jL ss n (k+1) (lg ss cur 256 0 lists []).1 (next++[jA (lg ss cur 256 0 lists []).2]) (rule++[bn ss cur])
def fX (ss:List bC) (st:Nat):Int ⊕ bP :=
  if (cg ss st).length=0 then .inl 1
  else match jL ss 2002 0 [cg ss st] [] [] with
    |none=>.inl 70
    |some d=>.inr d
def bP.row (d:bP) (k:Nat):List Int:=match d.next[k]? with|some r=>r.v|none=>[]
def fT (out:List Bool) (t:Int):Bool:=decide (0<=t) && out.getD t.toNat false
def dh (d:bP) (out:List Bool) (k:Nat):Bool:=decide (0<=d.ru k) ||(d.row k).any (fT out)
def bY (d:bP):Nat->Nat->List Bool->Bool->List Bool×Bool
  | 0,_,out,ag=>(out,ag)
  |n+1,k,out,ag=>if out.getD k false=true then bY d n (k+1) out ag else bY d n (k+1) (out.set k (dh d out k)) (ag ||dh d out k)
def fW (out:List Bool):Nat:=(out.filter fun b=> !b).length
def ql (d:bP):Nat->List Bool->List Bool
  | 0,out=>out
  |n+1,out=>if (bY d d.next.length 0 out false).2=true then ql d n (bY d d.next.length 0 out false).1 else (bY d d.next.length 0 out false).1
def bz (d:bP):List Bool:=ql d (d.next.length+1) (List.replicate d.next.length false)
theorem wq:∀(out:List Bool) (k:Nat) (b:Bool),out[k]? =some false->fW (out.set k b)+(if b then 1 else 0)=fW out
  | [],k,b,h=>by simp at h
  |x::r,0,b,h=>by simp at h;subst h;cases b<;>simp[fW]
  |x::r,k+1,b,h=>by
    have:=wq r k b (by simpa using h);unfold fW at this ⊢;rw[List.set_cons_succ];cases x<;>simp at this ⊢ <;>omega
theorem gD (d:bP):∀(n k:Nat) (out:List Bool) (ag:Bool),(bY d n k out ag).1.length=out.length
  | 0,_,_,_=>rfl
  |n+1,k,out,ag=>by
    rw[bY];split
    · exact gD d n _ _ _
    · rw[gD d n];simp
theorem gX (d:bP):∀(n k:Nat) (out:List Bool) (ag:Bool),k+n<=out.length->fW (bY d n k out ag).1<=fW out/\((bY d n k out ag).2=true->ag=true\/fW (bY d n k out ag).1<fW out)
  | 0,_,out,ag,_=>⟨Nat.le_refl _,fun h=>.inl h⟩
  |n+1,k,out,ag,hk=>by
    rw[bY];split
    · exact gX d n (k+1) out ag (by omega)
    · rename_i h
      have hf:out[k]? =some false:=by
        rw[List.getD_eq_getElem?_getD,List.getElem?_eq_getElem (by omega)] at h;rw[List.getElem?_eq_getElem (by omega)];simpa using h
      have h1:=wq out k (dh d out k) hf;have h2:=gX d n (k+1) (out.set k (dh d out k)) (ag ||dh d out k) (by simp;omega);refine⟨by omega,fun ht=>?_⟩
      rcases h2.2 ht with h3|h3
      · cases hb:dh d out k with
        |true=>rw[hb,if_pos rfl] at h1;right;rw[hb] at h2;omega
        |false=>rw[hb,Bool.or_false] at h3;exact .inl h3
      · right;omega
def jB:Nat->List (List Int)->List Int->Option Nat
  |_,[],_=>none
  |i,x::r,l=>if l=x then some i else jB (i+1) r l
theorem oY:∀(ls:List (List Int)) (i j:Nat) (l:List Int),jB i ls l=some j->i<=j/\ls[j-i]? =some l
  | [],i,j,l,h=>by cases h
  |x::r,i,j,l,h=>by
    rw[jB] at h;split at h
    · rename_i e;cases h;subst e;exact⟨Nat.le_refl _,by simp⟩
    · have:=oY r (i+1) j l h;refine⟨by omega,?_⟩;rw[show j-i=(j-(i+1))+1 by omega,List.getElem?_cons_succ];exact this.2
def b9 (live:List Bool) (cls:List Int) (t:Int):Int:=if t<0\/live.getD t.toNat false=false then -2 else cls.getD t.toNat 0
def eY (d:bP) (live:List Bool) (cls:List Int) (k:Nat):List Int:=cls.getD k 0::(d.row k).map (b9 live cls)
def bg (d:bP) (live:List Bool) (cls:List Int):Nat->Nat->List (List Int)->List Int->List (List Int)×List Int
  | 0,_,seen,after=>(seen,after)
  |n+1,k,seen,after =>
    match jB 0 seen (eY d live cls k) with
    |some i=>bg d live cls n (k+1) seen (after++[(i:Int)])
    |none=>bg d live cls n (k+1) (seen++[eY d live cls k]) (after++[(seen.length:Int)])
def jP (d:bP) (live:List Bool):Nat->Nat->List Int->List Int
  | 0,_,cls=>cls
  |n+1,many,cls =>
    if (bg d live cls d.next.length 0 [] []).1.length=many then (bg d live cls d.next.length 0 [] []).2
    else jP d live n (bg d live cls d.next.length 0 [] []).1.length (bg d live cls d.next.length 0 [] []).2
def dN (d:bP) (live:List Bool):List Int:=jP d live (d.next.length+1) 0 d.rule
def jr (m:Nat) (l:List Int):Prop:=∀i,i<m->(i:Int)∈l
theorem pe:∀(m:Nat) (l:List Int),jr m l->m<=l.length
  | 0,_,_=>Nat.zero_le _
  |m+1,l,h=>by
    have hm:=h m (Nat.lt_succ_self m);have h1:jr m (l.erase (m:Int)):=fun i hi=>(List.mem_erase_of_ne (by omega)).2 (h i (by omega))
    have h2:=pe m _ h1;have h3:=List.length_erase_of_mem hm;have h4:0<l.length:=List.length_pos_of_mem hm;omega
structure EY (d:bP) (live:List Bool) (cls:List Int) (k:Nat) (seen:List (List Int)) (after:List Int):Prop where
  len:after.length=k
  size:seen.length<=k
  nums:jr seen.length after
  bound:∀x∈after,0<=x/\x<seen.length
  all:∀j,j<k->eY d live cls j∈seen
theorem lN {d:bP}{live:List Bool}{cls:List Int}:∀(n k:Nat) (seen:List (List Int)) (after:List Int),EY d live cls k seen after->EY d live cls (k+n) (bg d live cls n k seen after).1 (bg d live cls n k seen after).2
  | 0,k,seen,after,h=>h
  |n+1,k,seen,after,h=>by
    rw[bg,show k+(n+1)=(k+1)+n by omega];split
    · rename_i i hi;have hi':=oY seen 0 i _ hi;have hil:=(List.getElem?_eq_some_iff.1 hi'.2).1
      exact lN n (k+1) _ _ ⟨by simp[h.len],by have:=h.size;omega,fun j hj=>List.mem_append_left _ (h.nums j hj),fun x hx=>by
        rcases List.mem_append.1 hx with e|e
        · exact h.bound x e
        · have:x=(i:Int):=by simpa using e
          rw[this];omega,fun j hj=>by
        by_cases e:j=k
        · subst e;exact List.mem_of_getElem? hi'.2
        · exact h.all j (by omega)⟩
    · exact lN n (k+1) _ _ ⟨by simp[h.len],by have:=h.size;simp;omega,fun j hj=>by
        simp only[List.length_append,List.length_singleton] at hj
        by_cases e:j=seen.length
        · subst e;simp
        · exact List.mem_append_left _ (h.nums j (by omega)),fun x hx=>by
        simp only[List.length_append,List.length_singleton]
        rcases List.mem_append.1 hx with e|e
        · have:=h.bound x e;omega
        · have:x=(seen.length:Int):=by simpa using e
          omega,fun j hj=>by
        by_cases e:j=k
        · subst e;simp
        · exact List.mem_append_left _ (h.all j (by omega))⟩
theorem eG (d:bP) (live:List Bool) (cls:List Int):EY d live cls d.next.length (bg d live cls d.next.length 0 [] []).1 (bg d live cls d.next.length 0 [] []).2:=by
  have:=lN (d:=d) (live:=live) (cls:=cls) d.next.length 0 [] [] ⟨rfl,Nat.le_refl _,fun i hi=>absurd hi (Nat.not_lt_zero _),fun x hx=>(by cases hx),fun j hj=>absurd hj (Nat.not_lt_zero _)⟩
  rwa [Nat.zero_add] at this
theorem nh {d:bP}{many:Nat}(hc:jr many cls) (hl:cls.length=d.next.length):many<=(bg d live cls d.next.length 0 [] []).1.length:=by
  have h:=eG d live cls
  have:jr many ((bg d live cls d.next.length 0 [] []).1.map fun s=>s.getD 0 0):=fun i hi=>by
    obtain⟨k,hk⟩:=List.getElem?_of_mem (hc i hi);have hkl:=(List.getElem?_eq_some_iff.1 hk).1;have:=h.all k (by omega);refine List.mem_map.2 ⟨_,this,?_⟩;simp[eY,List.getD_eq_getElem?_getD,hk]
  have:=pe _ _ this;simpa using this
def ou (cls:List Int):Nat->List Nat->Int->Option Nat
  |_,[],_=>none
  |i,x::r,c=>if c=cls.getD x 0 then some i else ou cls (i+1) r c
theorem wo {cls:List Int}:∀(of:List Nat) (i j:Nat) (c:Int),ou cls i of c=some j->i<=j/\∃x,of[j-i]? =some x/\c=cls.getD x 0
  | [],i,j,c,h=>by cases h
  |x::r,i,j,c,h=>by
    rw[ou] at h;split at h
    · rename_i e;cases h;exact⟨Nat.le_refl _,x,by simp,e⟩
    · obtain⟨h1,y,h2,h3⟩:=wo r (i+1) j c h;refine⟨by omega,y,?_,h3⟩;rw[show j-i=(j-(i+1))+1 by omega,List.getElem?_cons_succ];exact h2
theorem oZ {cls:List Int}:∀(of:List Nat) (i:Nat) (c:Int),ou cls i of c=none->∀x∈of,c≠cls.getD x 0
  | [],i,c,h,x,hx=>by cases hx
  |y::r,i,c,h,x,hx=>by
    rw[ou] at h;split at h
    · cases h
    · rename_i hn
      rcases List.mem_cons.1 hx with e|e
      · subst e;exact hn
      · exact oZ r (i+1) c h x e
def cM (live:List Bool) (cls:List Int) (of:List Nat) (t:Int):List Nat×Int :=
  if t<0\/live.getD t.toNat false=false then (of,-1) else
    match ou cls 0 of (cls.getD t.toNat 0) with
    |some i=>(of,(i:Int))
    |none=>(of++[t.toNat],(of.length:Int))
def fD (live:List Bool) (cls:List Int):List Int->List Nat->List Int->List Nat×List Int
  | [],of,row=>(of,row)
  |t::r,of,row=>fD live cls r (cM live cls of t).1 (row++[(cM live cls of t).2])
def Cu (d:bP) (live:List Bool) (cls:List Int):Nat->Nat->List Nat->List Row->List Int->bP
  | 0,_,_,next,rule=>⟨next,rule⟩
  |n+1,i,of,next,rule =>
    match of[i]? with
    |none=>⟨next,rule⟩
    |some k=>Cu d live cls n (i+1) (fD live cls (d.row k) of []).1 (next++[jA (fD live cls (d.row k) of []).2]) (rule++[d.ru k])
def kF (d:bP):bP:=if d.next.length=0 then ⟨[],[]⟩ else Cu d (bz d) (dN d (bz d)) (d.next.length+1) 0 [0] [] []
structure Dn (n:Nat) (of:List Nat):Prop where
  once:of.Nodup
  lt:∀x∈of,x<n
theorem Cj:∀(n:Nat) (l:List Nat),l.Nodup->(∀x∈l,x<n)->l.length<=n
  | 0,[],_,_=>Nat.le_refl _
  | 0,x::l,_,h=>absurd (h x (by simp)) (Nat.not_lt_zero _)
  |n+1,l,hl,h=>by
    have h1:=Cj n (l.erase n) (hl.erase n) (fun x hx=>by
      have:=(hl.mem_erase_iff).1 hx;have:=h x this.2;omega)
    by_cases hn:n∈l
    · have:=List.length_erase_of_mem hn;omega
    · rw[List.erase_of_not_mem hn] at h1;omega
theorem Dn.len {n:Nat}(k:Dn n of):of.length<=n:=Cj n of k.once k.lt
theorem vB {n:Nat}(k:Dn n of) (ht:t<n):Dn n (cM live cls of t).1:=by
  unfold cM;split
  · exact k
  · rename_i hn;split
    · exact k
    · rename_i hf;have hne:=oZ of 0 _ hf;refine⟨List.nodup_append.2 ⟨k.once,by simp,fun a ha b hb e=>?_⟩,fun x hx=>?_⟩
      · have:b=t.toNat:=by simpa using hb
        subst e;subst this;exact hne _ ha rfl
      · rcases List.mem_append.1 hx with e|e
        · exact k.lt x e
        · have:x=t.toNat:=by simpa using e
          omega
theorem Ea:of.length<=(cM live cls of t).1.length/\∀(i x:Nat),of[i]? =some x->(cM live cls of t).1[i]? =some x:=by
  unfold cM;split
  · exact⟨Nat.le_refl _,fun _ _ h=>h⟩
  · split
    · exact⟨Nat.le_refl _,fun _ _ h=>h⟩
    · exact⟨by simp,fun i x h=>by rw[List.getElem?_append_left (List.getElem?_eq_some_iff.1 h).1];exact h⟩
def xy (L:List (List Nat)) (l:List Nat) (to:Int):Prop:=(l.length=0/\to= -1)\/(l.length≠0/\∃i:Nat,to=(i:Int)/\L[i]? =some l)
theorem xy.mono {L L':List (List Nat)}{l:List Nat}{to:Int}(k:xy L l to) (h:L <+: L'):xy L' l to:=by
  rcases k with k|⟨k,i,e,hi⟩
  · exact .inl k
  · obtain⟨t,rfl⟩:=h;exact .inr ⟨k,i,e,by rw[List.getElem?_append_left (List.getElem?_eq_some_iff.1 hi).1];exact hi⟩
theorem Ax (ss:List bC) (cur:List Nat) (lists:List (List Nat)) (b:Nat) (hn:lists.Nodup) :
    lists <+: (dw ss cur lists b).1/\(dw ss cur lists b).1.Nodup/\xy (dw ss cur lists b).1 (cz ss (UInt8.ofNat b) cur) (dw ss cur lists b).2:=by
  unfold dw;split
  · rename_i h;exact⟨List.prefix_refl _,hn,.inl ⟨h,rfl⟩⟩
  · rename_i h;split
    · rename_i i hi;exact⟨List.prefix_refl _,hn,.inr ⟨h,i,rfl,(oX lists 0 i _ hi).2⟩⟩
    · rename_i hi;refine⟨List.prefix_append _ _,List.nodup_append.2 ⟨hn,by simp,fun x hx y hy e=>?_⟩,.inr ⟨h,lists.length,rfl,by simp⟩⟩;have:y=cz ss (UInt8.ofNat b) cur:=by simpa using hy
      exact wj lists 0 _ hi (by rw[<-this,<-e];exact hx)
theorem rC (ss:List bC) (cur:List Nat):∀(n b:Nat) (lists:List (List Nat)) (row:List Int),lists.Nodup ->
    lists <+: (lg ss cur n b lists row).1/\(lg ss cur n b lists row).1.Nodup/\∃ys,(lg ss cur n b lists row).2=row++ys/\ys.length=n/\∀(j:Nat) (y:Int),ys[j]? =some y->xy (lg ss cur n b lists row).1 (cz ss (UInt8.ofNat (b+j)) cur) y
  | 0,b,lists,row,hn=>⟨List.prefix_refl _,hn,[],by simp[lg],rfl,fun j y h=>by simp at h⟩
  |n+1,b,lists,row,hn=>by
    obtain⟨h1,h2,h3⟩:=Ax ss cur lists b hn;obtain⟨k1,k2,ys,k3,k4,k5⟩:=rC ss cur n (b+1) (dw ss cur lists b).1 (row++[(dw ss cur lists b).2]) h2;rw[lg];refine⟨h1.trans k1,k2,(dw ss cur lists b).2::ys,by rw[k3];simp,by simp[k4],fun j y hy=>?_⟩;cases j with
    |zero =>
      simp only[List.getElem?_cons_zero,Option.some.injEq] at hy;subst hy;exact h3.mono k1
    |succ j =>
      rw[List.getElem?_cons_succ] at hy;have:=k5 j y hy
      rwa [show b+(j+1)=b+1+j by omega]
structure nC (ss:List bC) (st:Nat) (lists:List (List Nat)) (d:bP):Prop where
  first:lists[0]? =some (cg ss st)
  once:lists.Nodup
  size:lists.length<=2000
  rlen:d.rule.length=d.next.length
  row:∀(k:Nat) (r:Row) (l:List Nat),d.next[k]? =some r->lists[k]? =some l->∀(b:Nat) (y:Int),r.v[b]? =some y->xy lists (cz ss (UInt8.ofNat b) l) y
  rule:∀(k:Nat) (x:Int) (l:List Nat),d.rule[k]? =some x->lists[k]? =some l->x=bn ss l
theorem sP {ss:List bC}{st:Nat}:∀(n k:Nat) (lists:List (List Nat)) (next:List Row) (rule:List Int) (d:bP),nC ss st lists ⟨next,rule⟩->next.length=k->k<=lists.length->jL ss n k lists next rule=some d->∃L,lists <+: L/\nC ss st L d/\L.length=d.next.length
  | 0,k,lists,next,rule,d,h,hk,hkl,hd=>by cases hd
  |n+1,k,lists,next,rule,d,h,hk,hkl,hd=>by
    rw[jL] at hd;split at hd
    · rename_i hn;cases hd;have:=List.getElem?_eq_none_iff.1 hn;exact⟨lists,List.prefix_refl _,h,by show lists.length=next.length;omega⟩
    · rename_i cur hcur;obtain⟨h1,h2,ys,h3,h4,h5⟩:=rC ss cur 256 0 lists [] h.once;split at hd
      · cases hd
      · rename_i hsz;have hkl2:=(List.getElem?_eq_some_iff.1 hcur).1
        have hpre:∀(i:Nat) (l:List Nat),i<lists.length->(lg ss cur 256 0 lists []).1[i]? =some l->lists[i]? =some l:=fun i l hi hl=>by
          obtain⟨t,ht⟩:=h1;rw[<-ht,List.getElem?_append_left hi] at hl;exact hl
        have hpre2:∀(i:Nat) (l:List Nat),lists[i]? =some l->(lg ss cur 256 0 lists []).1[i]? =some l:=fun i l hl=>by
          obtain⟨t,ht⟩:=h1;rw[<-ht,List.getElem?_append_left (List.getElem?_eq_some_iff.1 hl).1];exact hl
        have hlen:=h1.length_le;have hrl:rule.length=next.length:=h.rlen
        obtain⟨L,g1,g2,g3⟩:=sP (st:=st) n (k+1) _ _ _ d ⟨hpre2 _ _ h.first,h2,by omega,by simp[hrl],fun i r l hr hl b y hy=>by
          rcases Nat.lt_or_ge i next.length with hi|hi
          · rw[List.getElem?_append_left hi] at hr;exact(h.row i r l hr (hpre i l (by omega) hl) b y hy).mono h1
          · have hik:i=next.length:=by
              have:=(List.getElem?_eq_some_iff.1 hr).1;simp at this;omega
            subst hik;simp only[List.getElem?_concat_length,Option.some.injEq] at hr;subst hr;have hlc:=hpre _ l (by omega) hl;rw[hk] at hlc;rw[hcur] at hlc;cases hlc;rw[h3,List.nil_append,tJ h4] at hy;have:=h5 b y hy
            rwa [Nat.zero_add] at this,fun i x l hx hl=>by
          rcases Nat.lt_or_ge i rule.length with hi|hi
          · rw[List.getElem?_append_left hi] at hx;exact h.rule i x l hx (hpre i l (by omega) hl)
          · have hik:i=rule.length:=by
              have:=(List.getElem?_eq_some_iff.1 hx).1;simp at this;omega
            subst hik;simp only[List.getElem?_concat_length,Option.some.injEq] at hx;subst hx;have hlc:=hpre _ l (by omega) hl;rw[hrl,hk,hcur] at hlc;cases hlc;rfl⟩ (by simp[hk]) (by omega) hd
        exact⟨L,h1.trans g1,g2,g3⟩
theorem wZ {ss:List bC}(hr:∀x∈ss,x.rule<=1000000):∀(l:List Nat) (b:Int),-1<=b/\b<=1000000-> -1<=qM ss l b/\qM ss l b<=1000000
  | [],b,h=>h
  |j::r,b,h=>by
    rw[qM];refine wZ hr r _ ?_;split
    · rename_i x hx;split
      · have:=hr x (List.mem_of_getElem? hx);omega
      · exact h
    · exact h
theorem wX (hr:∀x∈ss,x.rule<=1000000) (l:List Nat) : -1<=bn ss l/\bn ss l<=1000000:=by
  unfold bn;split
  · omega
  · exact wZ hr l (-1) (by omega)
theorem nC.ok {L:List (List Nat)}{d:bP}(k:nC ss st L d) (hL:L.length=d.next.length) (hr:∀x∈ss,x.rule<=1000000):d.Ok:=by
  refine⟨k.rlen,by rw[<-hL];exact k.size,fun r hrm x hx=>?_,fun x hx=>?_⟩
  · obtain⟨i,hi⟩:=List.getElem?_of_mem hrm;obtain⟨j,hj⟩:=List.getElem?_of_mem hx;have hil:=(List.getElem?_eq_some_iff.1 hi).1;have hl:L[i]? =some (L[i]'(by omega)):=List.getElem?_eq_getElem _
    rcases k.row i r _ hi hl j x hj with ⟨_,rfl⟩|⟨_,i2,rfl,h2⟩
    · omega
    · have:=(List.getElem?_eq_some_iff.1 h2).1;omega
  · obtain⟨i,hi⟩:=List.getElem?_of_mem hx;have hil:=(List.getElem?_eq_some_iff.1 hi).1;have hl:L[i]? =some (L[i]'(by rw[hL,<-k.rlen];exact hil)):=List.getElem?_eq_getElem _;rw[k.rule i x _ hi hl];exact wX hr _
theorem iO {d:bP}(h:fX ss st= .inr d):(cg ss st).length≠0/\∃L,nC ss st L d/\L.length=d.next.length/\0<L.length:=by
  unfold fX at h;split at h
  · cases h
  · rename_i hs;refine⟨hs,?_⟩;split at h
    · cases h
    · rename_i d' hd;cases h;obtain⟨L,h1,h2,h3⟩:=sP (st:=st) 2002 0 [cg ss st] [] [] d ⟨rfl,by simp,by simp,rfl,fun k r l hr=>by simp at hr,fun k x l hx=>by simp at hx⟩ rfl (by simp) hd;exact⟨L,h2,h3,by have:=(List.getElem?_eq_some_iff.1 h2.first).1;omega⟩
theorem Hg {d:bP}(h:fX ss st= .inr d) (hr:∀x∈ss,x.rule<=1000000):d.Ok:=by
  obtain⟨_,L,h1,h2,_⟩:=iO h;exact h1.ok h2 hr
def bP.go (d:bP):By->Int->Int
  | [],s=>s
  |c::l,s=>bP.go d l (if s<0 then -1 else d.to s.toNat c)
def bP.fC (d:bP) (s:Int) (w:By):Int:=if d.go w s<0 then -1 else d.ru (d.go w s).toNat
theorem go_neg (d:bP):∀(w:By) (s:Int),s<0->d.go w s<0
  | [],s,h=>h
  |c::l,s,h=>by
    rw[bP.go,if_pos h];exact go_neg d l (-1) (by decide)
theorem j8 (d:bP) (w:By){s:Int}(h:s<0):d.fC s w= -1:=by rw[bP.fC,if_pos (go_neg d w s h)]
theorem dF (d:bP) (k:Nat):d.fC (k:Int) []=d.ru k:=by
  rw[bP.fC,bP.go,if_neg (by omega),Int.toNat_natCast]
theorem dW (d:bP) (k:Nat) (c:UInt8) (w:By):d.fC (k:Int) (c::w)=d.fC (d.to k c) w:=by
  have h:¬((k:Int)<0):=by omega
  rw[bP.fC,bP.fC,bP.go,if_neg h,Int.toNat_natCast]
def Kc (d:bP) (k:Nat):Prop:=∃w,0<=d.fC (k:Int) w
def gU (d:bP) (out:List Bool):Prop:=∀k:Nat,out.getD k false=true->Kc d k
theorem Iv {d:bP}(h:t∈d.row k):∃c:UInt8,d.to k c=t:=by
  unfold bP.row at h;split at h
  · rename_i r hr;obtain⟨i,hi⟩:=List.getElem?_of_mem h;have hl:=(List.getElem?_eq_some_iff.1 hi).1;rw[r.len] at hl;refine⟨UInt8.ofNat i,?_⟩;have hc:(UInt8.ofNat i).toNat=i:=by simp;omega
    unfold bP.to;rw[hr];simp only;rw[hc,List.getD_eq_getElem?_getD,hi];rfl
  · cases h
theorem Nb {d:bP}(c:UInt8) (h:k<d.next.length):d.to k c∈d.row k:=by
  have hr:d.next[k]? =some (d.next[k]'h):=List.getElem?_eq_getElem _
  obtain⟨x,hx,he,hm⟩:=(d.next[k]'h).at c;unfold bP.to bP.row;rw[hr];simp only;rw[he];exact hm
theorem AP {d:bP}{out:List Bool}(h:gU d out) (k:Nat) (ha:dh d out k=true):Kc d k:=by
  unfold dh at ha
  rcases Bool.or_eq_true _ _▸ha with e|e
  · exact⟨[],by rw[dF];exact of_decide_eq_true e⟩
  · obtain⟨t,ht,hl⟩:=List.any_eq_true.1 e;unfold fT at hl;rw[Bool.and_eq_true] at hl;have h0:=of_decide_eq_true hl.1;obtain⟨c,hc⟩:=Iv ht;obtain⟨w,hw⟩:=h t.toNat hl.2;refine⟨c::w,?_⟩;rw[dW,hc]
    rwa [Int.toNat_of_nonneg h0] at hw
theorem Gn {d:bP}{out:List Bool}(h:gU d out) (k:Nat):gU d (out.set k (dh d out k)):=by
  intro j hj
  by_cases e:k=j
  · subst e;rw[List.getD_eq_getElem?_getD] at hj
    by_cases hk:k<out.length
    · rw[List.getElem?_set_self hk] at hj;exact AP h k hj
    · rw[List.getElem?_eq_none (by simp;omega)] at hj;cases hj
  · rw[List.getD_eq_getElem?_getD,List.getElem?_set_ne e,<-List.getD_eq_getElem?_getD] at hj;exact h j hj
theorem jd {d:bP}:∀(n k:Nat) (out:List Bool) (ag:Bool),gU d out->gU d (bY d n k out ag).1
  | 0,_,_,_,h=>h
  |n+1,k,out,ag,h=>by
    rw[bY];split
    · exact jd n (k+1) out ag h
    · exact jd n (k+1) _ _ (Gn h k)
theorem jc {d:bP}:∀(n k:Nat) (out:List Bool) (ag:Bool),k+n<=out.length->(bY d n k out ag).2=false->(bY d n k out ag).1=out/\∀j,k<=j->j<k+n->out.getD j false=false->dh d out j=false
  | 0,_,_,_,_,_=>⟨rfl,fun j h1 h2=>by omega⟩
  |n+1,k,out,ag,hk,h=>by
    rw[bY] at h ⊢;split at h
    · rename_i hg;rw[if_pos hg];obtain⟨h1,h2⟩:=jc n (k+1) out ag (by omega) h
      exact⟨h1,fun j hj1 hj2 hj3=>by
        by_cases e:j=k
        · subst e;rw[hg] at hj3;cases hj3
        · exact h2 j (by omega) (by omega) hj3⟩
    · rename_i hg;rw[if_neg hg]
      have hf:out[k]? =some false:=by
        rw[List.getD_eq_getElem?_getD,List.getElem?_eq_getElem (by omega)] at hg;rw[List.getElem?_eq_getElem (by omega)];simpa using hg
      obtain⟨h1,h2⟩:=jc n (k+1) _ _ (by simp;omega) h
      have hb:dh d out k=false:=by
        cases hb:dh d out k with
        |false=>rfl
        |true =>
          exfalso;rw[hb,Bool.or_true] at h
          have hmono:∀(n k:Nat) (out:List Bool),(bY d n k out true).2=true:=fun n=>by
            induction n with
            |zero=>intro k out;rfl
            |succ n ih=>intro k out;rw[bY];split<;>simp[ih]
          rw[hmono] at h;cases h
      have hset:out.set k (dh d out k)=out:=by
        rw[hb]
        apply List.ext_getElem?
        intro j
        by_cases e:k=j
        · subst e;rw[List.getElem?_set_self (by omega),hf]
        · rw[List.getElem?_set_ne e]
      rw[hset] at h1 h2;rw[hset]
      exact⟨h1,fun j hj1 hj2 hj3=>by
        by_cases e:j=k
        · subst e;exact hb
        · exact h2 j (by omega) (by omega) hj3⟩
def xq (d:bP) (out:List Bool):Prop:=∀k,k<d.next.length->out.getD k false=false->dh d out k=false
theorem vH {d:bP}:∀(n:Nat) (out:List Bool),out.length=d.next.length->fW out<n->gU d out->gU d (ql d n out)/\xq d (ql d n out)
  | 0,_,_,h,_=>absurd h (Nat.not_lt_zero _)
  |n+1,out,hl,hf,hs=>by
    have hless:=gX d d.next.length 0 out false (by omega)
    have hsp:=jd d.next.length 0 out false hs
    rw[ql];split
    · rename_i ht
      rcases hless.2 ht with e|e
      · cases e
      · exact vH n _ (by rw[gD];exact hl) (by omega) hsp
    · rename_i ht;have hst:=jc d.next.length 0 out false (by omega) (by simpa using ht)
      rw[hst.1];exact⟨hs,fun k hk hko=>hst.2 k (Nat.zero_le _) (by omega) hko⟩
theorem qB {d:bP}{out:List Bool}(hok:d.Ok) (h:xq d out):∀(w:By) (k:Nat),k<d.next.length->0<=d.fC (k:Int) w->out.getD k false=true
  | [],k,hk,hw=>by
    rw[dF] at hw;cases ho:out.getD k false with
    |true=>rfl
    |false =>
      have:=h k hk ho;unfold dh at this;rw[decide_eq_true hw] at this;cases this
  |c::w,k,hk,hw=>by
    rw[dW] at hw;have ht:=bP.pS hok (s:=k) c
    have h0:0<=d.to k c:=by
      by_cases e:d.to k c<0
      · rw[j8 d w e] at hw;omega
      · omega
    obtain⟨t,htt⟩:=Int.eq_ofNat_of_zero_le h0;rw[htt] at hw;have ih:=qB hok h w t (by omega) hw;cases ho:out.getD k false with
    |true=>rfl
    |false =>
      have:=h k hk ho;unfold dh at this;rw[Bool.or_eq_false_iff] at this;have h2:=List.any_eq_false.1 this.2 _ (Nb c hk);unfold fT at h2;rw[htt,Int.toNat_natCast,ih] at h2;simp at h2
theorem vG {d:bP}(hok:d.Ok) (hk:k<d.next.length):(bz d).getD k false=true↔Kc d k:=by
  have h:=vH (d:=d) (d.next.length+1) (List.replicate d.next.length false) (by simp) (by
    have:fW (List.replicate d.next.length false)<=d.next.length:=by unfold fW;exact Nat.le_trans (List.length_filter_le _ _) (by simp)
    omega) (fun k hk=>by
      rw[List.getD_eq_getElem?_getD,List.getElem?_replicate] at hk;split at hk<;>cases hk)
  exact⟨h.1 k,fun⟨w,hw⟩=>qB hok h.2 w k hk hw⟩
structure F0 (d:bP) (live:List Bool) (cls:List Int) (k:Nat) (seen:List (List Int)) (after:List Int):Prop where
  len:after.length=k
  once:seen.Nodup
  at_:∀j,j<k->∃i:Nat,after[j]? =some (i:Int)/\seen[i]? =some (eY d live cls j)
theorem wm:∀(ls:List (List Int)) (i:Nat) (l:List Int),jB i ls l=none->l∉ls
  | [],i,l,_=>List.not_mem_nil
  |x::r,i,l,h=>by
    rw[jB] at h;split at h
    · cases h
    · rename_i e;have:=wm r (i+1) l h;simp only[List.mem_cons,not_or];exact⟨e,this⟩
theorem jN {d:bP}{live:List Bool}{cls:List Int}:∀(n k:Nat) (seen:List (List Int)) (after:List Int),F0 d live cls k seen after->F0 d live cls (k+n) (bg d live cls n k seen after).1 (bg d live cls n k seen after).2
  | 0,k,seen,after,h=>h
  |n+1,k,seen,after,h=>by
    rw[bg,show k+(n+1)=(k+1)+n by omega];split
    · rename_i i hi;have hi':=oY seen 0 i _ hi;refine jN n (k+1) _ _ ⟨by simp[h.len],h.once,fun j hj=>?_⟩
      by_cases e:j=k
      · subst e;refine⟨i,?_,hi'.2⟩;rw[<-h.len,List.getElem?_concat_length]
      · obtain⟨i',h1,h2⟩:=h.at_ j (by omega);exact⟨i',by rw[List.getElem?_append_left (by rw[h.len];omega)];exact h1,h2⟩
    · rename_i hi;have hno:=wm seen 0 _ hi;refine jN n (k+1) _ _ ⟨by simp[h.len],List.nodup_append.2 ⟨h.once,by simp,fun a ha b hb e=>?_⟩,fun j hj=>?_⟩
      · have:b=eY d live cls k:=by simpa using hb
        rw[e,this] at ha;exact hno ha
      · by_cases e:j=k
        · subst e;refine⟨seen.length,?_,by rw[List.getElem?_concat_length]⟩;rw[<-h.len,List.getElem?_concat_length]
        · obtain⟨i',h1,h2⟩:=h.at_ j (by omega);exact⟨i',by rw[List.getElem?_append_left (by rw[h.len];omega)];exact h1,by rw[List.getElem?_append_left (List.getElem?_eq_some_iff.1 h2).1];exact h2⟩
theorem jO {d:bP}{t:Nat}(hs:s<d.next.length) (ht:t<d.next.length) :
    (bg d live cls d.next.length 0 [] []).2.getD s 0=(bg d live cls d.next.length 0 [] []).2.getD t 0↔eY d live cls s=eY d live cls t:=by
  have h:=jN (d:=d) (live:=live) (cls:=cls) d.next.length 0 [] [] ⟨rfl,by simp,fun j hj=>absurd hj (Nat.not_lt_zero _)⟩
  rw[Nat.zero_add] at h;obtain⟨i,h1,h2⟩:=h.at_ s hs;obtain⟨j,h3,h4⟩:=h.at_ t ht;rw[List.getD_eq_getElem?_getD,List.getD_eq_getElem?_getD,h1,h3];constructor
  · intro e
    have:i=j:=by
      have e':(i:Int)=(j:Int):=e;omega
    subst this;rw[h2] at h4;exact Option.some.inj h4
  · intro e;rw[<-e] at h4;have hi:=(List.getElem?_eq_some_iff.1 h2)
    have hj:=(List.getElem?_eq_some_iff.1 h4)
    obtain⟨hi1,hi2⟩:=hi;obtain⟨hj1,hj2⟩:=hj
    have:i=j:=by
      rcases Nat.lt_trichotomy i j with e|e|e
      · exact absurd (hi2.trans hj2.symm) (List.pairwise_iff_getElem.1 h.once i j hi1 hj1 e)
      · exact e
      · exact absurd (hj2.trans hi2.symm) (List.pairwise_iff_getElem.1 h.once j i hj1 hi1 e)
    subst this;rfl
theorem sU:∀(m:Nat) (l:List Int),jr m l->l.length=m->l.Nodup
  | 0,l,_,hl=>by rw[List.length_eq_zero_iff.1 hl];exact List.Pairwise.nil
  |m+1,l,h,hl=>by
    have hm:=h m (Nat.lt_succ_self m);have h1:jr m (l.erase (m:Int)):=fun i hi=>(List.mem_erase_of_ne (by omega)).2 (h i (by omega))
    have h3:=List.length_erase_of_mem hm;have h2:=sU m _ h1 (by omega)
    have hno:(m:Int)∉l.erase (m:Int):=fun hin=>by
      have h4:jr m ((l.erase (m:Int)).erase (m:Int)):=fun i hi=>(List.mem_erase_of_ne (by omega)).2 (h1 i hi)
      have h5:=pe _ _ h4;have h6:=List.length_erase_of_mem hin;have h7:=List.length_pos_of_mem hin;omega
    exact(List.perm_cons_erase hm).nodup_iff.2 (List.nodup_cons.2 ⟨hno,h2⟩)
theorem qf {d:bP}(hs:s<d.next.length) (c:UInt8):(d.row s)[c.toNat]? =some (d.to s c):=by
  have hr:d.next[s]? =some (d.next[s]'hs):=List.getElem?_eq_getElem _
  obtain⟨x,hx,he,_⟩:=(d.next[s]'hs).at c;unfold bP.row bP.to;rw[hr];simp only;rw[he];exact hx
theorem Av {d:bP}(hs:s<d.next.length):(d.row s).length=256:=by
  have hr:d.next[s]? =some (d.next[s]'hs):=List.getElem?_eq_getElem _
  unfold bP.row;rw[hr];exact(d.next[s]'hs).len
theorem Fm {d:bP}{t:Nat}(hs:s<d.next.length) (ht:t<d.next.length) (f:Int->Int):(d.row s).map f=(d.row t).map f↔∀c:UInt8,f (d.to s c)=f (d.to t c):=by
  constructor
  · intro e c;have:=congrArg (fun l=>l[c.toNat]?) e;simp only[List.getElem?_map,qf hs c,qf ht c,Option.map_some,Option.some.injEq] at this;exact this
  · intro h
    apply List.ext_getElem?
    intro i
    by_cases hi:i<256
    · have hc:(UInt8.ofNat i).toNat=i:=by simp;omega
      have h1:=qf hs (UInt8.ofNat i);have h2:=qf ht (UInt8.ofNat i);rw[hc] at h1 h2;rw[List.getElem?_map,List.getElem?_map,h1,h2,Option.map_some,Option.map_some,h]
    · rw[List.getElem?_eq_none (by rw[List.length_map,Av hs];omega),List.getElem?_eq_none (by rw[List.length_map,Av ht];omega)]
def Alike (d:bP) (a b:Int):Prop:=∀w,d.fC a w=d.fC b w
theorem Fh {d:bP}(hok:d.Ok) (a:Int) (w:By) : -1<=d.fC a w:=by
  unfold bP.fC;split
  · omega
  · unfold bP.ru;rw[List.getD_eq_getElem?_getD];cases h:d.rule[(d.go w a).toNat]? with
    |none=>decide
    |some x=>exact(hok.ru x (List.mem_of_getElem? h)).1
theorem ji {d:bP}(hok:d.Ok){a:Int}(ha:a<d.next.length):(a<0\/(bz d).getD a.toNat false=false)↔∀w,d.fC a w= -1:=by
  constructor
  · intro h w
    rcases h with h|h
    · exact j8 d w h
    · by_cases hn:a<0
      · exact j8 d w hn
      · obtain⟨k,rfl⟩:=Int.eq_ofNat_of_zero_le (show 0<=a by omega);have hl:=vG hok (k:=k) (by omega);have hg:=Fh hok (k:Int) w
        by_cases hw:0<=d.fC (k:Int) w
        · rw[Int.toNat_natCast,hl.2 ⟨w,hw⟩] at h;cases h
        · omega
  · intro h
    by_cases hn:a<0
    · exact .inl hn
    · right
      obtain⟨k,rfl⟩:=Int.eq_ofNat_of_zero_le (show 0<=a by omega);have hl:=vG hok (k:=k) (by omega);rw[Int.toNat_natCast];cases hb:(bz d).getD k false with
      |false=>rfl
      |true =>
        obtain⟨w,hw⟩:=hl.1 hb;have:=h w;omega
structure s8 (d:bP) (cls:List Int):Prop where
  len:cls.length=d.next.length
  ge:∀k,-1<=cls.getD k 0
  alike:∀s t:Nat,s<d.next.length->t<d.next.length->Alike d s t->cls.getD s 0=cls.getD t 0
  rule:∀s t:Nat,s<d.next.length->t<d.next.length->cls.getD s 0=cls.getD t 0->d.ru s=d.ru t
theorem Bj {d:bP}(hok:d.Ok) (k:s8 d cls){a b:Int}(ha:a<d.next.length) (hb:b<d.next.length) (h:Alike d a b):b9 (bz d) cls a=b9 (bz d) cls b:=by
  by_cases hd:a<0\/(bz d).getD a.toNat false=false
  · have hd':b<0\/(bz d).getD b.toNat false=false:=(ji hok hb).2 fun w=>by rw[<-h w];exact(ji hok ha).1 hd w
    rw[b9,if_pos hd,b9,if_pos hd']
  · have hd':¬(b<0\/(bz d).getD b.toNat false=false):=fun e=>hd ((ji hok ha).2 fun w=>by rw[h w];exact(ji hok hb).1 e w)
    rw[b9,if_neg hd,b9,if_neg hd']
    have ha0:0<=a:=by
      by_cases e:a<0
      · exact absurd (.inl e) hd
      · omega
    have hb0:0<=b:=by
      by_cases e:b<0
      · exact absurd (.inl e) hd'
      · omega
    exact k.alike a.toNat b.toNat (by omega) (by omega) (by rw[Int.toNat_of_nonneg ha0,Int.toNat_of_nonneg hb0];exact h)
theorem GZ {d:bP}(hok:d.Ok) (k:s8 d cls){t:Nat}(hs:s<d.next.length) (ht:t<d.next.length) (h:Alike d s t):eY d (bz d) cls s=eY d (bz d) cls t:=by
  unfold eY;rw[k.alike s t hs ht h,(Fm hs ht _).2 fun c=>Bj hok k (bP.pS hok c).2 (bP.pS hok c).2 fun w=>by rw[<-dW,<-dW];exact h (c::w)]
theorem CK {d:bP}{t:Nat}(h:eY d live cls s=eY d live cls t):cls.getD s 0=cls.getD t 0:=by
  unfold eY at h;exact(List.cons.inj h).1
theorem II {d:bP}(hok:d.Ok) (k:s8 d cls):s8 d (bg d (bz d) cls d.next.length 0 [] []).2:=by
  have hend:=eG d (bz d) cls;refine⟨hend.len,fun j=>?_,fun s t hs ht h=>(jO hs ht).2 (GZ hok k hs ht h),fun s t hs ht h=>k.rule s t hs ht (CK ((jO hs ht).1 h))⟩;rw[List.getD_eq_getElem?_getD];cases hx:(bg d (bz d) cls d.next.length 0 [] []).2[j]? with
  |none=>decide
  |some x=>have:=hend.bound x (List.mem_of_getElem? hx);show -1<=x;omega
theorem tI {d:bP}(hok:d.Ok) (hs:s<d.next.length):d.rule.getD s 0=d.ru s:=by
  have hl:=hok.len;unfold bP.ru;rw[List.getD_eq_getElem?_getD,List.getD_eq_getElem?_getD,List.getElem?_eq_getElem (by omega)];rfl
theorem Iu {d:bP}(hok:d.Ok):s8 d d.rule:=by
  refine⟨hok.len,fun k=>?_,fun s t hs ht h=>?_,fun s t hs ht h=>?_⟩
  · rw[List.getD_eq_getElem?_getD];cases hx:d.rule[k]? with
    |none=>decide
    |some x=>exact(hok.ru x (List.mem_of_getElem? hx)).1
  · rw[tI hok hs,tI hok ht];have:=h []
    rwa [dF,dF] at this
  · rwa [tI hok hs,tI hok ht] at h
theorem p6 {d:bP}(hok:d.Ok){cls:List Int}(k:s8 d cls) (hst:∀s t,s<d.next.length->t<d.next.length->cls.getD s 0=cls.getD t 0->eY d (bz d) cls s=eY d (bz d) cls t):∀(w:By) (s t:Nat),s<d.next.length->t<d.next.length->cls.getD s 0=cls.getD t 0->d.fC (s:Int) w=d.fC (t:Int) w
  | [],s,t,hs,ht,h=>by rw[dF,dF];exact k.rule s t hs ht h
  |c::w,s,t,hs,ht,h=>by
    rw[dW,dW];have hk:=hst s t hs ht h;unfold eY at hk;have hb:=(Fm hs ht _).1 (List.cons.inj hk).2 c;have ha:=(bP.pS hok (s:=s) c).2;have hb2:=(bP.pS hok (s:=t) c).2;generalize d.to s c=a at *;generalize d.to t c=b at *
    by_cases hd:a<0\/(bz d).getD a.toNat false=false
    · have hd':b<0\/(bz d).getD b.toNat false=false:=by
        by_cases e:b<0\/(bz d).getD b.toNat false=false
        · exact e
        · rw[b9,if_pos hd,b9,if_neg e] at hb;have:=k.ge b.toNat;omega
      rw[(ji hok ha).1 hd w,(ji hok hb2).1 hd' w]
    · by_cases hd':b<0\/(bz d).getD b.toNat false=false
      · rw[b9,if_neg hd,b9,if_pos hd'] at hb;have:=k.ge a.toNat;omega
      · rw[b9,if_neg hd,b9,if_neg hd'] at hb
        have ha0:0<=a:=by
          by_cases e:a<0
          · exact absurd (.inl e) hd
          · omega
        have hb0:0<=b:=by
          by_cases e:b<0
          · exact absurd (.inl e) hd'
          · omega
        have ih:=p6 hok k hst w a.toNat b.toNat (by omega) (by omega) hb
        rwa [Int.toNat_of_nonneg ha0,Int.toNat_of_nonneg hb0] at ih
theorem sW {d:bP}(hok:d.Ok):∀(n many:Nat) (cls:List Int),s8 d cls->jr many cls->many<=d.next.length->d.next.length+1<=n+many->s8 d (jP d (bz d) n many cls)/\∀s t:Nat,s<d.next.length->t<d.next.length->(jP d (bz d) n many cls).getD s 0=(jP d (bz d) n many cls).getD t 0->Alike d s t
  | 0,many,cls,k,hc,hm,hf=>by omega
  |n+1,many,cls,k,hc,hm,hf=>by
    have hend:=eG d (bz d) cls;have hmore:=nh (live:=bz d) hc k.len;have hp:=II hok k;rw[jP];split
    · rename_i he;refine⟨hp,fun s t hs ht h w=>?_⟩;have hkey:=(jO hs ht).1 h;refine p6 hok k (fun s t hs ht h=>?_) w s t hs ht (CK hkey)
      have hcov:jr many ((bg d (bz d) cls d.next.length 0 [] []).1.map fun s=>s.getD 0 0):=fun i hi=>by
        obtain⟨k',hk'⟩:=List.getElem?_of_mem (hc i hi);have hkl:=(List.getElem?_eq_some_iff.1 hk').1;have:=hend.all k' (by have:=k.len;omega);refine List.mem_map.2 ⟨_,this,?_⟩;simp[eY,List.getD_eq_getElem?_getD,hk']
      have hon:=sU many _ hcov (by simpa using he);obtain⟨i,hi⟩:=List.getElem?_of_mem (hend.all s hs);obtain⟨j,hj⟩:=List.getElem?_of_mem (hend.all t ht);have h1:((bg d (bz d) cls d.next.length 0 [] []).1.map fun s=>s.getD 0 0)[i]? =some (cls.getD s 0):=by rw[List.getElem?_map,hi];rfl
      have h2:((bg d (bz d) cls d.next.length 0 [] []).1.map fun s=>s.getD 0 0)[j]? =some (cls.getD s 0):=by rw[List.getElem?_map,hj,h];rfl
      obtain⟨hi1,hi2⟩:=List.getElem?_eq_some_iff.1 h1;obtain⟨hj1,hj2⟩:=List.getElem?_eq_some_iff.1 h2
      have hij:i=j:=by
        rcases Nat.lt_trichotomy i j with e|e|e
        · exact absurd (hi2.trans hj2.symm) (List.pairwise_iff_getElem.1 hon i j hi1 hj1 e)
        · exact e
        · exact absurd (hj2.trans hi2.symm) (List.pairwise_iff_getElem.1 hon j i hj1 hi1 e)
      subst hij;rw[hi] at hj;exact Option.some.inj hj
    · rename_i hne;have hsz:=hend.size;exact sW hok n _ _ hp hend.nums hsz (by omega)
theorem ni {d:bP}(hok:d.Ok){t:Nat}(hs:s<d.next.length) (ht:t<d.next.length):(dN d (bz d)).getD s 0=(dN d (bz d)).getD t 0↔Alike d s t:=by
  have h:=sW hok (d.next.length+1) 0 d.rule (Iu hok) (fun i hi=>absurd hi (Nat.not_lt_zero _)) (Nat.zero_le _) (by omega);exact⟨h.2 s t hs ht,h.1.alike s t hs ht⟩
def J5 (d e:bP) (a b:Int):Prop:=∀w,d.fC a w=e.fC b w
inductive E1 (d e:bP):List Nat->List Nat->Prop
  |nil:E1 d e [] []
  |cons {x y:Nat}{o p:List Nat}:x<d.next.length->y<e.next.length->J5 d e x y->E1 d e o p->E1 d e (x::o) (y::p)
theorem Cs:of <+: (cM live cls of t).1:=by
  unfold cM;split
  · exact List.prefix_refl _
  · split
    · exact List.prefix_refl _
    · exact List.prefix_append _ _
theorem oM {live:List Bool}{cls:List Int}:∀(r:List Int) (of:List Nat) (row:List Int),of <+: (fD live cls r of row).1
  | [],of,row=>List.prefix_refl _
  |t::r,of,row=>by
    rw[fD];exact Cs.trans (oM r _ _)
theorem No {d:bP}(hd:d.Ok) (k:Nat):∀t∈d.row k,t<(d.next.length:Int):=fun t ht=>by
  obtain⟨c,rfl⟩:=Iv ht;exact(bP.pS hd c).2
def pE (d:bP) (of:List Nat) (t y:Int):Prop:=((∀w,d.fC t w= -1)/\y= -1)\/((∃w,0<=d.fC t w)/\∃(i x:Nat),y=(i:Int)/\of[i]? =some x/\Alike d t x)
theorem pE.mono {d:bP}{of':List Nat}{y:Int}(k:pE d of t y) (h:of <+: of'):pE d of' t y:=by
  rcases k with k|⟨k,i,x,e,hi,ha⟩
  · exact .inl k
  · obtain⟨l,rfl⟩:=h;exact .inr ⟨k,i,x,e,by rw[List.getElem?_append_left (List.getElem?_eq_some_iff.1 hi).1];exact hi,ha⟩
def Q5 (d:bP) (of:List Nat):Prop:=∀(i j x y:Nat),of[i]? =some x->of[j]? =some y->Alike d x y->i=j
structure QZ (d:bP) (of:List Nat):Prop where
  ok:Dn d.next.length of
  apart:Q5 d of
theorem Cr {d:bP}(hd:d.Ok) (k:QZ d of) (ht:t<d.next.length) :
    QZ d (cM (bz d) (dN d (bz d)) of t).1/\pE d (cM (bz d) (dN d (bz d)) of t).1 t (cM (bz d) (dN d (bz d)) of t).2:=by
  have hdead:=ji hd ht;have hok:=vB (live:=bz d) (cls:=dN d (bz d)) k.ok ht
  revert hok
  unfold cM;split
  · rename_i h;exact fun _=>⟨k,.inl ⟨hdead.1 h,rfl⟩⟩
  · rename_i h
    have halive:∃w,0<=d.fC t w:=by
      by_cases q:∃w,0<=d.fC t w
      · exact q
      · refine absurd (hdead.2 fun w=>?_) h;have h1:=Fh hd t w;have h2:¬0<=d.fC t w:=fun z=>q ⟨w,z⟩
        omega
    obtain⟨n,rfl⟩:=Int.eq_ofNat_of_zero_le (show 0<=t by omega);simp only[Int.toNat_natCast];split
    · rename_i i hi;intro _;obtain⟨_,x,hx,he⟩:=wo of 0 i _ hi;have hxl:=k.ok.lt x (List.mem_of_getElem? hx);exact⟨k,.inr ⟨halive,i,x,rfl,by simpa using hx,(ni hd (by omega) hxl).1 he⟩⟩
    · rename_i hi;intro hok;have hne:=oZ of 0 _ hi;refine⟨⟨hok,fun i j x y hx hy ha=>?_⟩,.inr ⟨halive,of.length,n,rfl,by simp,fun w=>rfl⟩⟩
      have hcase:∀(i x:Nat),(of++[n])[i]? =some x->(i<of.length/\of[i]? =some x)\/(i=of.length/\x=n):=fun i x hx=>by
        rcases Nat.lt_or_ge i of.length with hl|hl
        · rw[List.getElem?_append_left hl] at hx;exact .inl ⟨hl,hx⟩
        · have:=(List.getElem?_eq_some_iff.1 hx).1;simp at this;have hil:i=of.length:=by omega
          subst hil;simp only[List.getElem?_concat_length,Option.some.injEq] at hx;exact .inr ⟨rfl,hx.symm⟩
      rcases hcase i x hx with ⟨h1,h2⟩|⟨h1,h2⟩<;>rcases hcase j y hy with ⟨h3,h4⟩|⟨h3,h4⟩
      · exact k.apart i j x y h2 h4 ha
      · subst h4;have hxm:=List.mem_of_getElem? h2;exact absurd ((ni hd (by omega) (k.ok.lt x hxm)).2 fun w=>(ha w).symm) (hne x hxm)
      · subst h2;have hym:=List.mem_of_getElem? h4;exact absurd ((ni hd (by omega) (k.ok.lt y hym)).2 ha) (hne y hym)
      · omega
theorem vC {d:bP}(hd:d.Ok):∀(r:List Int) (of:List Nat) (row:List Int),QZ d of->(∀t∈r,t<(d.next.length:Int)) ->
    QZ d (fD (bz d) (dN d (bz d)) r of row).1/\∃ys,(fD (bz d) (dN d (bz d)) r of row).2=row++ys/\ys.length=r.length/\∀(j:Nat) (t y:Int),r[j]? =some t->ys[j]? =some y->pE d (fD (bz d) (dN d (bz d)) r of row).1 t y
  | [],of,row,k,_=>⟨k,[],by simp[fD],rfl,fun j t y h=>by simp at h⟩
  |t::r,of,row,k,h=>by
    obtain⟨h1,h2⟩:=Cr hd k (h t (by simp));obtain⟨k1,ys,k3,k4,k5⟩:=vC hd r (cM (bz d) (dN d (bz d)) of t).1 (row++[(cM (bz d) (dN d (bz d)) of t).2]) h1 (fun u hu=>h u (by simp[hu]));rw[fD];refine⟨k1,(cM (bz d) (dN d (bz d)) of t).2::ys,by rw[k3];simp,by simp[k4],fun j u y hu hy=>?_⟩;cases j with
    |zero =>
      simp only[List.getElem?_cons_zero,Option.some.injEq] at hu hy;subst hu;subst hy;exact h2.mono (oM _ _ _)
    |succ j=>exact k5 j u y (by simpa using hu) (by simpa using hy)
structure xe (d:bP) (of:List Nat) (m:bP):Prop where
  rep:QZ d of
  first:of[0]? =some 0
  rlen:m.rule.length=m.next.length
  row:∀(k:Nat) (r:Row) (x:Nat),m.next[k]? =some r->of[k]? =some x->∀(c:UInt8) (y:Int),r.v[c.toNat]? =some y->pE d of (d.to x c) y
  rule:∀(k:Nat) (y:Int) (x:Nat),m.rule[k]? =some y->of[k]? =some x->y=d.ru x
theorem Ct {d:bP}(hd:d.Ok):∀(n i:Nat) (of:List Nat) (next:List Row) (rule:List Int),xe d of ⟨next,rule⟩->next.length=i->i<=of.length->n+i=d.next.length+1 ->
    ∃of',xe d of' (Cu d (bz d) (dN d (bz d)) n i of next rule)/\of'.length=(Cu d (bz d) (dN d (bz d)) n i of next rule).next.length
  | 0,i,of,next,rule,h,hi,hio,hn=>by have:=h.rep.ok.len;omega
  |n+1,i,of,next,rule,h,hi,hio,hn=>by
    rw[Cu];split
    · rename_i hnone;have:=List.getElem?_eq_none_iff.1 hnone;exact⟨of,h,by show of.length=next.length;omega⟩
    · rename_i x hx;have hxl:=h.rep.ok.lt x (List.mem_of_getElem? hx);obtain⟨k1,ys,k3,k4,k5⟩:=vC hd (d.row x) of [] h.rep (No hd x);have hpre:=oM (live:=bz d) (cls:=dN d (bz d)) (d.row x) of [];rw[Av hxl] at k4;have hol:=(List.getElem?_eq_some_iff.1 hx).1;generalize fD (bz d) (dN d (bz d)) (d.row x) of []=q at *
      have hb:∀(j y:Nat),j<of.length->q.1[j]? =some y->of[j]? =some y:=fun j y hj hy=>by
        obtain⟨t,ht⟩:=hpre;rw[<-ht,List.getElem?_append_left hj] at hy;exact hy
      have hf:∀(j y:Nat),of[j]? =some y->q.1[j]? =some y:=fun j y hy=>by
        obtain⟨t,ht⟩:=hpre;rw[<-ht,List.getElem?_append_left (List.getElem?_eq_some_iff.1 hy).1];exact hy
      have hrl:rule.length=next.length:=h.rlen
      have hlen:=hpre.length_le;refine Ct hd n (i+1) _ _ _ ⟨k1,hf _ _ h.first,by simp[hrl],fun k r z hr hz c y hy=>?_,fun k y z hy hz=>?_⟩ (by simp[hi]) (by omega) (by omega)
      · rcases Nat.lt_or_ge k next.length with hk|hk
        · rw[List.getElem?_append_left hk] at hr;exact(h.row k r z hr (hb k z (by omega) hz) c y hy).mono hpre
        · have hkn:k=next.length:=by
            have:=(List.getElem?_eq_some_iff.1 hr).1;simp at this;omega
          subst hkn;simp only[List.getElem?_concat_length,Option.some.injEq] at hr;subst hr;have hzx:=hb _ z (by omega) hz;rw[hi,hx] at hzx;cases hzx;rw[k3,List.nil_append,tJ k4] at hy;exact k5 c.toNat _ y (qf hxl c) hy
      · rcases Nat.lt_or_ge k rule.length with hk|hk
        · rw[List.getElem?_append_left hk] at hy;exact h.rule k y z hy (hb k z (by omega) hz)
        · have hkn:k=rule.length:=by
            have:=(List.getElem?_eq_some_iff.1 hy).1;simp at this;omega
          subst hkn;simp only[List.getElem?_concat_length,Option.some.injEq] at hy;subst hy;have hzx:=hb _ z (by omega) hz;rw[hrl,hi,hx] at hzx;cases hzx;rfl
theorem GM {d:bP}(hd:d.Ok) (hn:0<d.next.length):∃of,xe d of (kF d)/\of.length=(kF d).next.length:=by
  unfold kF;rw[if_neg (by omega)];refine Ct hd _ 0 [0] [] [] ⟨⟨⟨by simp,fun x hx=>by simp at hx;omega⟩,fun i j x y hx hy _=>?_⟩,rfl,rfl,fun k r x hr=>by simp at hr,fun k y x hy=>by simp at hy⟩ rfl (by simp) (by omega);have h1:=(List.getElem?_eq_some_iff.1 hx).1;have h2:=(List.getElem?_eq_some_iff.1 hy).1;simp at h1 h2;omega
theorem xe.to {d m:bP}{of:List Nat}(k:xe d of m) (hl:of.length=m.next.length){s x:Nat}(hx:of[s]? =some x) (c:UInt8):pE d of (d.to x c) (m.to s c):=by
  have hs:=(List.getElem?_eq_some_iff.1 hx).1;have hr:m.next[s]? =some (m.next[s]'(by omega)):=List.getElem?_eq_getElem _
  obtain⟨y,hy,he,_⟩:=(m.next[s]'(by omega)).at c;unfold bP.to;rw[hr];simp only;rw[he];exact k.row s _ x hr hx c y hy
theorem xe.ru {d m:bP}{of:List Nat}(k:xe d of m) (hl:of.length=m.next.length){s x:Nat}(hx:of[s]? =some x):m.ru s=d.ru x:=by
  have hs:=(List.getElem?_eq_some_iff.1 hx).1;have hlt:s<m.rule.length:=by rw[k.rlen];omega
  have hr:m.rule[s]? =some (m.rule[s]'hlt):=List.getElem?_eq_getElem _;have:=k.rule s _ x hr hx;unfold bP.ru at this ⊢;rw[List.getD_eq_getElem?_getD,hr];exact this
theorem xe.fC {d m:bP}{of:List Nat}(k:xe d of m) (hl:of.length=m.next.length):∀(w:By) (s x:Nat),of[s]? =some x->m.fC (s:Int) w=d.fC (x:Int) w
  | [],s,x,hx=>by rw[dF,dF,k.ru hl hx]
  |c::w,s,x,hx=>by
    rw[dW,dW]
    rcases k.to hl hx c with ⟨h1,h2⟩|⟨_,i,y,h2,h3,h4⟩
    · rw[h2,j8 m w (by decide),h1]
    · rw[h2,k.fC hl w i y h3,h4]
theorem xe.S1 {d m:bP}(hd:d.Ok) (k:xe d of m) (hl:of.length=m.next.length):m.Ok:=by
  refine⟨k.rlen,by have:=k.rep.ok.len;have:=hd.size;omega,fun r hr x hx=>?_,fun x hx=>?_⟩
  · obtain⟨i,hi⟩:=List.getElem?_of_mem hr;obtain⟨j,hj⟩:=List.getElem?_of_mem hx;have hil:=(List.getElem?_eq_some_iff.1 hi).1;have hjl:=(List.getElem?_eq_some_iff.1 hj).1;rw[r.len] at hjl;have hc:(UInt8.ofNat j).toNat=j:=by simp;omega
    obtain⟨y,hy⟩:∃y,of[i]? =some y:=⟨_,List.getElem?_eq_getElem (by omega)⟩
    rcases k.row i r y hi hy (UInt8.ofNat j) x (by rw[hc];exact hj) with ⟨_,rfl⟩|⟨_,a,z,rfl,h3,_⟩
    · omega
    · have:=(List.getElem?_eq_some_iff.1 h3).1;omega
  · obtain⟨i,hi⟩:=List.getElem?_of_mem hx;have hil:=(List.getElem?_eq_some_iff.1 hi).1;have:=k.rlen;obtain⟨y,hy⟩:∃y,of[i]? =some y:=⟨_,List.getElem?_eq_getElem (by omega)⟩
    rw[k.rule i x y hi hy];unfold bP.ru;rw[List.getD_eq_getElem?_getD];cases h:d.rule[y]? with
    |none=>show -1<=(-1:Int)/\(-1:Int)<=1000000;omega
    |some v=>exact hd.ru v (List.mem_of_getElem? h)
def Trim (m:bP):Prop:=∀(s:Nat) (c:UInt8),s<m.next.length->0<=m.to s c->∃w,0<=m.fC (m.to s c) w
theorem rD {d:bP}(hd:d.Ok) (hn:0<d.next.length):(kF d).Ok/\0<(kF d).next.length/\(kF d).next.length<=d.next.length/\J5 (kF d) d 0 0/\Trim (kF d):=by
  obtain⟨of,k,hl⟩:=GM hd hn;have h0:=(List.getElem?_eq_some_iff.1 k.first).1;refine⟨k.S1 hd hl,by omega,by have:=k.rep.ok.len;omega,fun w=>k.fC hl w 0 0 k.first,fun s c hs h=>?_⟩;obtain⟨x,hx⟩:∃x,of[s]? =some x:=⟨_,List.getElem?_eq_getElem (by omega)⟩
  rcases k.to hl hx c with ⟨h1,h2⟩|⟨⟨w,hw⟩,i,y,h2,h3,h4⟩
  · rw[h2] at h;omega
  · exact⟨w,by rw[h2,k.fC hl w i y h3,<-h4];exact hw⟩
theorem qz (d:bP):∀(l:By) (s k:Nat) (b:Int×Int),(∀w,d.fC (s:Int) w= -1)->(aP d l s k b).1=b.1/\(aP d l s k b).2.1=b.2/\(k:Int)<=(aP d l s k b).2.2
  | [],s,k,b,h=>by
    have h0:=h [];rw[dF] at h0;rw[aP,if_neg (by omega)];exact⟨rfl,rfl,Int.le_refl _⟩
  |c::l,s,k,b,h=>by
    have h0:=h [];rw[dF] at h0;rw[aP,if_neg (by omega:¬0<=d.ru s),if_neg (by omega:¬0<=d.ru s)];split
    · rename_i hp;have:=qz d l (d.to s c).toNat (k+1) b (fun w=>by rw[Int.toNat_of_nonneg hp,<-dW];exact h (c::w));exact⟨this.1,this.2.1,by have:=this.2.2;omega⟩
    · exact⟨rfl,rfl,Int.le_refl _⟩
theorem lJ {d m:bP}(hd:d.Ok) (hm:m.Ok) (ht:Trim m):∀(l:By) (s t k:Nat) (b:Int×Int),s<d.next.length->t<m.next.length->J5 d m s t ->
    (aP d l s k b).1=(aP m l t k b).1/\(aP d l s k b).2.1=(aP m l t k b).2.1/\(aP m l t k b).2.2<=(aP d l s k b).2.2
  | [],s,t,k,b,hs,htl,h=>by
    have h0:=h [];rw[dF,dF] at h0;rw[aP,aP,h0];exact⟨rfl,rfl,Int.le_refl _⟩
  |c::l,s,t,k,b,hs,htl,h=>by
    have h0:=h [];rw[dF,dF] at h0;have hl:J5 d m (d.to s c) (m.to t c):=fun w=>by rw[<-dW,<-dW];exact h _
    have h1:=bP.pS hd (s:=s) c;have h2:=bP.pS hm (s:=t) c;rw[aP,aP,h0]
    by_cases hmt:0<=m.to t c
    · obtain⟨w,hw⟩:=ht t c htl hmt
      have hdt:0<=d.to s c:=by
        by_cases e:d.to s c<0
        · rw[<-hl w,j8 d w e] at hw;omega
        · omega
      rw[if_pos hmt,if_pos hdt];exact lJ hd hm ht l _ _ _ _ (by omega) (by omega) (fun w=>by rw[Int.toNat_of_nonneg hmt,Int.toNat_of_nonneg hdt];exact hl w)
    · rw[if_neg hmt]
      by_cases hdt:0<=d.to s c
      · rw[if_pos hdt];have hdd:=qz d l (d.to s c).toNat (k+1) (if 0<=m.ru t then ((k:Int),m.ru t) else b) (fun w=>by rw[Int.toNat_of_nonneg hdt,hl w];exact j8 m w (by omega));obtain⟨d1,d2,d3⟩:=hdd;rw[d1,d2];generalize (aP d l (d.to s c).toNat (k+1) (if 0<=m.ru t then ((k:Int),m.ru t) else b)).2.2=z at *;split
        · exact⟨rfl,rfl,by show (k:Int)<=_;omega⟩
        · exact⟨rfl,rfl,by show (k:Int)<=_;omega⟩
      · rw[if_neg hdt];exact⟨rfl,rfl,Int.le_refl _⟩
theorem DM {d m:bP}(hd:d.Ok) (hm:m.Ok) (ht:Trim m) (hd0:0<d.next.length) (hm0:0<m.next.length) (hl:J5 d m 0 0) (s:By) (a:Int) :
    (cW d s a).1=(cW m s a).1/\(cW d s a).2.1=(cW m s a).2.1/\(cW m s a).2.2<=(cW d s a).2.2:=by
  unfold cW
  by_cases ha:a<0\/(s.length:Int)<a
  · rw[if_pos (.inr ha),if_pos (.inr ha)];exact⟨rfl,rfl,Int.le_refl _⟩
  · rw[if_neg (by omega),if_neg (by omega)];exact lJ hd hm ht (s.drop a.toNat) 0 0 0 (0,-1) hd0 hm0 hl
theorem nC.to {ss:List bC}{st0:Nat}{L:List (List Nat)}{d:bP}(k:nC ss st0 L d) (hL:L.length=d.next.length){st:Nat}{now:List Nat}(hn:L[st]? =some now) (c:UInt8):xy L (cz ss c now) (d.to st c):=by
  have hl:=(List.getElem?_eq_some_iff.1 hn).1;have hr:d.next[st]? =some (d.next[st]'(by omega)):=List.getElem?_eq_getElem _
  obtain⟨x,hx,he,hm⟩:=(d.next[st]'(by omega)).at c;unfold bP.to;rw[hr];simp only;rw[he];have:=k.row st _ now hr hn c.toNat x hx
  rwa [UInt8.ofNat_toNat] at this
theorem nC.ru {ss:List bC}{st0:Nat}{L:List (List Nat)}{d:bP}(k:nC ss st0 L d) (hL:L.length=d.next.length){st:Nat}{now:List Nat}(hn:L[st]? =some now):d.ru st=bn ss now:=by
  have hl:=(List.getElem?_eq_some_iff.1 hn).1;have hlt:st<d.rule.length:=by rw[k.rlen];omega
  have hr:d.rule[st]? =some (d.rule[st]'hlt):=List.getElem?_eq_getElem _;have:=k.rule st _ now hr hn;unfold bP.ru;rw[List.getD_eq_getElem?_getD,hr];exact this
theorem sO {ss:List bC}{st0:Nat}{L:List (List Nat)}{d:bP}(k:nC ss st0 L d) (hL:L.length=d.next.length):∀(l:By) (st j:Nat) (now:List Nat) (b:Int×Int),L[st]? =some now->now.length≠0 ->
    ((aP d l st j b).1,(aP d l st j b).2.1)=jb ss l now j b
  | [],st,j,now,b,hn,h0=>by
    rw[aP,jb,if_neg h0,k.ru hL hn];split<;>rfl
  |c::l,st,j,now,b,hn,h0=>by
    rw[aP,jb,if_neg h0,k.ru hL hn]
    rcases k.to hL hn c with ⟨e,h⟩|⟨e,i,h,hi⟩
    · rw[h,if_neg (by decide),vD e];split<;>rfl
    · rw[h,if_pos (by omega),Int.toNat_natCast];exact sO k hL l i (j+1) _ _ hi e
theorem lK {d:bP}(h:fX ss st= .inr d) (hs:ss.length≠0) (l:By):((aP d l 0 0 (0,-1)).1,(aP d l 0 0 (0,-1)).2.1)=cV ss st l:=by
  obtain⟨h0,L,h1,h2,_⟩:=iO h;rw[cV,if_neg hs];exact sO h1 h2 l 0 0 _ _ h1.first h0
theorem oy (d:bP):∀(l:By) (st k:Nat) (b:Int×Int),b.1<=k->(aP d l st k b).1<=(aP d l st k b).2.2/\(aP d l st k b).2.2<=k+l.length
  | [],st,k,b,h=>by
    rw[aP];split
    · exact⟨Int.le_refl _,by simp⟩
    · exact⟨h,by simp⟩
  |c::l,st,k,b,h=>by
    rw[aP];split
    · have hb:(if 0<=d.ru st then ((k:Int),d.ru st) else b).1<=((k+1:Nat):Int):=by
        split
        · show (k:Int)<=_;omega
        · omega
      have:=oy d l (d.to st c).toNat (k+1) _ hb;rw[List.length_cons];exact⟨this.1,by have:=this.2;omega⟩
    · split
      · exact⟨Int.le_refl _,by show (k:Int)<=_;omega⟩
      · exact⟨h,by show (k:Int)<=_;omega⟩
theorem vp {α:Type}[DecidableEq α]:∀(l m:List α),l.Nodup->(∀x∈l,x∈m)->l.length<=m.length
  | [],m,_,_=>Nat.zero_le _
  |a::l,m,h,hs=>by
    rw[List.nodup_cons] at h;have ha:=hs a (by simp);have:=vp l (m.erase a) h.2 (fun x hx=>(List.mem_erase_of_ne (fun e=>h.1 (by rw[<-e];exact hx))).2 (hs x (by simp[hx])));have h2:=List.length_erase_of_mem ha;have h3:=List.length_pos_of_mem ha;simp only[List.length_cons];omega
def Lr (ss:List bC) (S:List (List Nat)):Prop:=∀T∈S,∀c:UInt8,(cz ss c T).length=0\/cz ss c T∈S
theorem Fo {ss:List bC}{S:List (List Nat)}{cur:List Nat}(hS:Lr ss S) (hc:cur∈S):∀(n b:Nat) (lists:List (List Nat)) (row:List Int),(∀T∈lists,T∈S)->∀T∈(lg ss cur n b lists row).1,T∈S
  | 0,b,lists,row,h=>h
  |n+1,b,lists,row,h=>by
    rw[lg];refine Fo hS hc n (b+1) _ _ fun T hT=>?_
    unfold dw at hT;split at hT
    · exact h T hT
    · rename_i hne;split at hT
      · exact h T hT
      · rcases List.mem_append.1 hT with k|k
        · exact h T k
        · rw[List.mem_singleton.1 k];exact(hS cur hc (UInt8.ofNat b)).resolve_left hne
theorem sQ {ss:List bC}{S:List (List Nat)}(hS:Lr ss S) (hlen:S.length<=2000):∀(n k:Nat) (lists:List (List Nat)) (next:List Row) (rule:List Int),lists.Nodup->(∀T∈lists,T∈S)->k<=lists.length->2002<=n+k->∃d,jL ss n k lists next rule=some d
  | 0,k,lists,next,rule,hn,hin,hk,hf=>by
    have:=vp lists S hn hin;omega
  |n+1,k,lists,next,rule,hn,hin,hk,hf=>by
    rw[jL];split
    · exact⟨_,rfl⟩
    · rename_i cur hcur;have hkl:=(List.getElem?_eq_some_iff.1 hcur).1;obtain⟨h1,h2,_⟩:=rC ss cur 256 0 lists [] hn;have h3:=Fo hS (hin cur (List.mem_of_getElem? hcur)) 256 0 lists [] hin;have h4:=vp _ S h2 h3;have h5:=h1.length_le;rw[if_neg (by omega)];exact sQ hS hlen n (k+1) _ _ _ h2 h3 (by omega) (by omega)
theorem CZ {S:List (List Nat)}(hS:Lr ss S) (hlen:S.length<=2000) (h0:(cg ss st).length≠0) (hst:cg ss st∈S):∃d,fX ss st= .inr d:=by
  obtain⟨d,hd⟩:=sQ hS hlen 2002 0 [cg ss st] [] [] (by simp) (fun T hT=>by rw[List.mem_singleton.1 hT];exact hst) (Nat.zero_le _) (Nat.le_refl _);refine⟨d,?_⟩;unfold fX;rw[if_neg h0,hd]
theorem rj {ss:List bC}{c r:UInt8}(h:∀x∈ss,x.set.testBit c.toNat=x.set.testBit r.toNat):∀(l a:List Nat),stepG ss c l a=stepG ss r l a
  | [],a=>rfl
  |j::l,a=>by
    rw[stepG,stepG];cases hx:ss[j]? with
    |none=>exact rj h l a
    |some x =>
      simp only;rw[show iY x c=iY x r by unfold iY;rw[h x (List.mem_of_getElem? hx)]];exact rj h l _
theorem Gi {c r:UInt8}(h:∀x∈ss,x.set.testBit c.toNat=x.set.testBit r.toNat) (T:List Nat):cz ss c T=cz ss r T:=by
  unfold cz;rw[rj h]
def AZ:List (List Nat×Nat)->List Nat->Option Nat
  | [],_=>none
  |(T,h)::l,U=>if T=U then some h else AZ l U
theorem vV:∀{l:List (List Nat×Nat)}{U:List Nat}{h:Nat},AZ l U=some h->(U,h)∈l
  | [],U,h,e=>by cases e
  |(T,h')::l,U,h,e=>by
    rw[AZ] at e;split at e
    · rename_i k;cases e;subst k;simp
    · exact List.mem_cons_of_mem _ (vV e)
def FH (ss:List bC) (H:List (List Nat×Nat)) (T:List Nat) (h:Nat) (r:UInt8):Bool :=
  (cz ss r T).isEmpty ||match AZ H (cz ss r T) with
    |none=>false
    |some h'=>decide (0<=bn ss (cz ss r T)) ||decide ((if 0<=bn ss T then 0 else h)+1<=h')
def pz (ss:List bC) (H:List (List Nat×Nat)) (reps:List UInt8):Bool:=H.all fun p=>decide (p.2<=2) && reps.all fun r=>FH ss H p.1 p.2 r
def iP (ss:List bC) (tab:List UInt8) (reps:List UInt8):Bool:=decide (tab.length=256) && (List.range 256).all fun b=>reps.contains (tab.getD b 0) && ss.all fun x=>x.set.testBit b ==x.set.testBit (tab.getD b 0).toNat
theorem Lf (h:iP ss tab reps=true) (c:UInt8):∃r∈reps,∀x∈ss,x.set.testBit c.toNat=x.set.testBit r.toNat:=by
  unfold iP at h;rw[Bool.and_eq_true] at h;have h2:=List.all_eq_true.1 h.2 c.toNat (List.mem_range.2 c.toNat_lt);rw[Bool.and_eq_true] at h2;exact⟨_,by simpa using h2.1,fun x hx=>by simpa using List.all_eq_true.1 h2.2 x hx⟩
theorem C3 {H:List (List Nat×Nat)}(hr:iP ss tab reps=true) (ha:pz ss H reps=true){T:List Nat}{h:Nat}(hT:(T,h)∈H) (c:UInt8) :
    (cz ss c T).length=0\/∃h',(cz ss c T,h')∈H/\h'<=2/\(0<=bn ss (cz ss c T)\/(if 0<=bn ss T then 0 else h)+1<=h'):=by
  obtain⟨r,hrm,hx⟩:=Lf hr c;rw[Gi hx];have h1:=List.all_eq_true.1 ha _ hT;rw[Bool.and_eq_true] at h1;have h2:=List.all_eq_true.1 h1.2 r hrm;simp only[FH,Bool.or_eq_true,List.isEmpty_iff] at h2
  rcases h2 with h2|h2
  · left;rw[h2];rfl
  · right
    cases hh:AZ H (cz ss r T) with
    |none=>rw[hh] at h2;cases h2
    |some h' =>
      rw[hh] at h2;simp only[Bool.or_eq_true,decide_eq_true_eq] at h2;have hm:=vV hh;have h3:=List.all_eq_true.1 ha _ hm;rw[Bool.and_eq_true] at h3;exact⟨h',hm,of_decide_eq_true h3.1,h2⟩
theorem JH {H:List (List Nat×Nat)}(hr:iP ss tab reps=true) (ha:pz ss H reps=true):Lr ss (H.map (·.1)):=fun T hT c=>by
  obtain⟨⟨T',h⟩,hm,rfl⟩:=List.mem_map.1 hT
  rcases C3 hr ha hm c with k|⟨h',k,_⟩
  · exact .inl k
  · exact .inr (List.mem_map.2 ⟨_,k,rfl⟩)
theorem yV {ss:List bC}{st0:Nat}{L:List (List Nat)}{d:bP}(k:nC ss st0 L d) (hL:L.length=d.next.length){H:List (List Nat×Nat)}{tab reps:List UInt8}(hr:iP ss tab reps=true) (ha:pz ss H reps=true):∀(l:By) (s j:Nat) (b:Int×Int) (T:List Nat) (h:Nat),
    L[s]? =some T->(T,h)∈H->(j:Int)<=(if 0<=bn ss T then (j:Int) else b.1+h)->(aP d l s j b).2.2<=(aP d l s j b).1+2
  | [],s,j,b,T,h,hs,hm,hj=>by
    have h2:=List.all_eq_true.1 ha _ hm;rw[Bool.and_eq_true] at h2;have h3:=of_decide_eq_true h2.1;rw[aP,k.ru hL hs];split
    · show (j:Int)<=j+2;omega
    · rename_i hn;rw[if_neg hn] at hj
      show (j:Int)<=b.1+2
      simp only at h3;omega
  |c::l,s,j,b,T,h,hs,hm,hj=>by
    have h2:=List.all_eq_true.1 ha _ hm;rw[Bool.and_eq_true] at h2;have h3:=of_decide_eq_true h2.1;simp only at h3;rw[aP,k.ru hL hs]
    rcases k.to hL hs c with ⟨h1,e1⟩|⟨h1,i,e1,hi⟩
    · rw[e1,if_neg (by decide)];split
      · show (j:Int)<=j+2;omega
      · rename_i hn;rw[if_neg hn] at hj
        show (j:Int)<=b.1+2
        omega
    · rw[e1,if_pos (by omega),Int.toNat_natCast]
      rcases C3 hr ha hm c with q|⟨h',q1,q2,q3⟩
      · exact absurd q h1
      · refine yV k hL hr ha l i (j+1) _ _ h' hi q1 ?_
        by_cases hacc:0<=bn ss (cz ss c T)
        · rw[if_pos hacc];omega
        · rw[if_neg hacc];have q4:=q3.resolve_left hacc
          by_cases ht:0<=bn ss T
          · rw[if_pos ht] at q4;rw[if_pos ht]
            show ((j+1:Nat):Int)<=(j:Int)+h'
            omega
          · rw[if_neg ht] at q4 hj;rw[if_neg ht];omega
end
end Go.Proofs.YtdihgdeciopfpaaGreatDoor
namespace Go.Proofs.YtdihgdeciopfpaaGreatDoor
open Go
set_option maxRecDepth 100000
def DY:List By:=[[91,32,92,116,92,114,93,43],[92,110],[91,97,45,122,65,45,90,95,93,91,97,45,122,65,45,90,48,45,57,95,93,42],[91,48,45,57,93,43,40,92,46,91,48,45,57,93,43,41,63,40,91,101,69,93,91,92,43,92,45,93,63,91,48,45,57,93,43,41,63],[47,47,91,94,92,110,93,42],[47,92,42],[34],[91,92,40,92,91,123,93],[91,92,41,92,93,125,93],[91,92,43,92,45,92,42,47,37,60,62,33,61,44,59,58,92,46,93,124,61,61,124,33,61,124,60,61,124,62,61,124,38,38,124,92,124,92,124,124,92,45,62]]
def Am:List bC:=[⟨2,0,[],0⟩,⟨0,0,[2,0],0⟩,⟨1,4294976000,[1],0⟩,⟨2,0,[],1⟩,⟨1,1024,[3],0⟩,⟨2,0,[],2⟩,⟨0,0,[7,5],0⟩,⟨1,10633823849912963253799171395480977408,[6],0⟩,⟨1,10633823849912963253511222494305976320,[6],0⟩,⟨2,0,[],3⟩,⟨0,0,[11,9],0⟩,⟨1,287948901175001088,[10],0⟩,⟨1,43980465111040,[11],0⟩,⟨0,0,[12,11],0⟩,⟨1,2535301201046754613352112062464,[13],0⟩,⟨0,0,[14,9],0⟩,⟨0,0,[17,15],0⟩,⟨1,287948901175001088,[16],0⟩,⟨1,70368744177664,[17],0⟩,⟨0,0,[18,15],0⟩,⟨0,0,[21,19],0⟩,⟨1,287948901175001088,[20],0⟩,⟨2,0,[],4⟩,⟨0,0,[24,22],0⟩,⟨1,115792089237316195423570985008687907853269984665640564039457584007913129638911,[23],0⟩,⟨1,140737488355328,[23],0⟩,⟨1,140737488355328,[25],0⟩,⟨2,0,[],5⟩,⟨1,4398046511104,[27],0⟩,⟨1,140737488355328,[28],0⟩,⟨2,0,[],6⟩,⟨1,17179869184,[30],0⟩,⟨2,0,[],7⟩,⟨1,10633823968755207061801218131552632832,[32],0⟩,⟨2,0,[],8⟩,⟨1,42535295875020828247204870327187275776,[34],0⟩,⟨2,0,[],9⟩,⟨1,8935418883662151680,[36],0⟩,⟨1,2305843009213693952,[36],0⟩,⟨1,2305843009213693952,[38],0⟩,⟨1,2305843009213693952,[36],0⟩,⟨1,8589934592,[40],0⟩,⟨1,2305843009213693952,[36],0⟩,⟨1,1152921504606846976,[42],0⟩,⟨1,2305843009213693952,[36],0⟩,⟨1,4611686018427387904,[44],0⟩,⟨1,274877906944,[36],0⟩,⟨1,274877906944,[46],0⟩,⟨1,21267647932558653966460912964485513216,[36],0⟩,⟨1,21267647932558653966460912964485513216,[48],0⟩,⟨1,4611686018427387904,[36],0⟩,⟨1,35184372088832,[50],0⟩,⟨0,0,[37,39,41,43,45,47,49,51],0⟩,⟨0,0,[2,4,8,21,26,29,31,33,35,52],0⟩]
theorem Rb:eR DY= .inr (Am,53):=rfl
def Ov:List (List Nat×Nat):=[([2,4,8,21,26,29,31,33,35,37,39,41,43,45,47,49,51],0),([0,2],0),([3],0),([36,40],0),([30],0),([36],0),([46],1),([32],0),([34],0),([36,50],0),([25,28,36],0),([9,14,18,21],0),([36,42],0),([36,38],0),([36,44],0),([5,7],0),([48],1),([27],0),([22,24],0),([17],1),([11,12],1),([9,14,17],0),([11],2),([9,11],0)]
def Rr:List UInt8:=[0,0,0,0,0,0,0,0,0,9,10,0,0,9,0,0,0,0,0,0,0,0,0,0,0,0,0,0,0,0,0,0,9,33,34,0,0,37,38,0,40,41,42,43,37,45,46,47,48,48,48,48,48,48,48,48,48,48,37,37,60,61,62,0,0,65,65,65,65,69,65,65,65,65,65,65,65,65,65,65,65,65,65,65,65,65,65,65,65,65,65,40,0,41,0,65,0,65,65,65,65,69,65,65,65,65,65,65,65,65,65,65,65,65,65,65,65,65,65,65,65,65,65,40,124,41]++List.replicate 130 0
def L5:List UInt8:=[0,9,10,33,34,37,38,40,41,42,43,45,46,47,48,60,61,62,65,69,124]
def DX:List By:=[[91,94,34,92,92,92,110,93,43],[92,92,91,110,114,116,34,92,92,48,93],[34],[92,110]]
def Al:List bC:=[⟨2,0,[],0⟩,⟨0,0,[2,0],0⟩,⟨1,115792089237316195423570985008687907853269984665635612279300442486796353272831,[1],0⟩,⟨2,0,[],1⟩,⟨1,105144016337090416619545142419783680,[3],0⟩,⟨1,4951760157141521099596496896,[4],0⟩,⟨2,0,[],2⟩,⟨1,17179869184,[6],0⟩,⟨2,0,[],3⟩,⟨1,1024,[8],0⟩,⟨0,0,[2,5,7,9],0⟩]
theorem Kg:eR DX= .inr (Al,10):=rfl
def R5:List (List Nat×Nat):=[([2,5,7,9],0),([0,2],0),([8],0),([6],0),([4],1),([3],0)]
def Rq:List UInt8:=[0,0,0,0,0,0,0,0,0,0,10,0,0,0,0,0,0,0,0,0,0,0,0,0,0,0,0,0,0,0,0,0,0,0,34,0,0,0,0,0,0,0,0,0,0,0,0,0,48]++List.replicate 43 0++[92,0,0,0,0,0,0,0,0,0,0,0,0,0,0,0,0,0,48,0,0,0,48,0,48]++List.replicate 139 0
def L4:List UInt8:=[0,10,34,48,92]
def DW:List By:=[[47,92,42],[92,42,47],[91,94,92,42,47,93,43],[91,92,42,47,93]]
def Ak:List bC:=[⟨2,0,[],0⟩,⟨1,4398046511104,[0],0⟩,⟨1,140737488355328,[1],0⟩,⟨2,0,[],1⟩,⟨1,140737488355328,[3],0⟩,⟨1,4398046511104,[4],0⟩,⟨2,0,[],2⟩,⟨0,0,[8,6],0⟩,⟨1,115792089237316195423570985008687907853269984665640564039457583862777594773503,[7],0⟩,⟨2,0,[],3⟩,⟨1,145135534866432,[9],0⟩,⟨0,0,[2,5,8,10],0⟩]
theorem Ra:eR DW= .inr (Ak,11):=rfl
def KX:List (List Nat×Nat):=[([2,5,8,10],0),([6,8],0),([4,9],0),([1,9],0),([3],0),([0],0)]
def Rp:List UInt8:=List.replicate 42 0++[42,0,0,0,0,47]++List.replicate 208 0
def L3:List UInt8:=[0,42,47]
theorem ML:iP Am Rr L5=true:=by decide +kernel
theorem MO:pz Am Ov L5=true:=by decide +kernel
theorem MH:AZ Ov (cg Am 53)=some 0/\cg Am 53≠[]/\¬0<=bn Am (cg Am 53):=by decide +kernel
theorem MK:iP Al Rq L4=true:=by decide +kernel
theorem MN:pz Al R5 L4=true:=by decide +kernel
theorem MG:AZ R5 (cg Al 10)=some 0/\cg Al 10≠[]/\¬0<=bn Al (cg Al 10):=by decide +kernel
theorem MJ:iP Ak Rp L3=true:=by decide +kernel
theorem MM:pz Ak KX L3=true:=by decide +kernel
theorem MF:AZ KX (cg Ak 11)=some 0/\cg Ak 11≠[]/\¬0<=bn Ak (cg Ak 11):=by decide +kernel
end Go.Proofs.YtdihgdeciopfpaaGreatDoor

/- What the proof of the statement leans on (part 20). -/
import Derived.Lib.ItoaLen
import Derived.Test.YtpjgdgdnbkjoiaaGreatDoorQs

namespace Go.Proofs.YtpjgdgdnbkjoiaaGreatDoor
open Go
section
variable {s st k:Nat}{live:List Bool}{cls:List Int}{of:List Nat}{t:Int}{ss:List bA}{tab reps:List UInt8}
def gQ (l:List Int):By:=l.flatMap fun n=>Lib.itoa n++[32]
theorem tC (u:Nat):∀c∈Lib.decDigits u,48<=c.toNat/\c.toNat<=57:=by
  induction u using Nat.strongRecOn with
  |_ u ih =>
    intro c hc;rw[Lib.decDigits] at hc;split at hc
    · rename_i h;simp at hc;subst hc;simp;omega
    · rename_i h
      rcases List.mem_append.1 hc with k|k
      · exact ih (u / 10) (by omega) c k
      · simp at k;subst k;have:u%10<10:=Nat.mod_lt _ (by decide);simp;omega
def Jt (l:By):Nat:=l.foldl (fun a c=>a*10+(c.toNat-48)) 0
theorem u7 (u:Nat):Jt (Lib.decDigits u)=u:=by
  induction u using Nat.strongRecOn with
  |_ u ih =>
    rw[Lib.decDigits];split
    · rename_i h;simp[Jt];omega
    · rename_i h;have h1:=ih (u / 10) (by omega);unfold Jt at h1 ⊢;rw[List.foldl_append,h1];have:u%10<10:=Nat.mod_lt _ (by decide);simp;omega
theorem wP (n:Int):∀c∈Lib.itoa n,c≠32:=by
  intro c hc e;subst e;unfold Lib.itoa at hc;split at hc
  · rcases List.mem_cons.1 hc with k|k
    · cases k
    · have:=(tC _ _ k).1;simp at this
  · have:=(tC _ _ hc).1;simp at this
theorem I7 {m n:Int}(h:Lib.itoa m=Lib.itoa n):m=n:=by
  have neg:∀a b:Nat,45::Lib.decDigits a≠Lib.decDigits b:=fun a b e=>by
    have:(45:UInt8)∈Lib.decDigits b:=by rw[<-e];exact List.mem_cons_self
    have:=(tC _ _ this).1;simp at this
  unfold Lib.itoa at h;split at h<;>split at h
  · have h:=congrArg Jt (List.cons.inj h).2;rw[u7,u7] at h;omega
  · exact absurd h (neg _ _)
  · exact absurd h.symm (neg _ _)
  · have h:=congrArg Jt h;rw[u7,u7] at h;omega
theorem uC:∀(a b r s:By),(∀c∈a,c≠32)->(∀c∈b,c≠32)->a++32::r=b++32::s->a=b/\r=s
  | [],[],r,s,_,_,h=>by simpa using h
  | [],d::b,r,s,_,hb,h=>by
    simp only[List.nil_append,List.cons_append,List.cons.injEq] at h;exact absurd h.1.symm (hb d List.mem_cons_self)
  |c::a,[],r,s,ha,_,h=>by
    simp only[List.nil_append,List.cons_append,List.cons.injEq] at h;exact absurd h.1 (ha c List.mem_cons_self)
  |c::a,d::b,r,s,ha,hb,h=>by
    simp only[List.cons_append,List.cons.injEq] at h;have:=uC a b r s (fun x hx=>ha x (List.mem_cons_of_mem _ hx)) (fun x hx=>hb x (List.mem_cons_of_mem _ hx)) h.2;exact⟨by rw[h.1,this.1],this.2⟩
theorem key_inj:∀{l m:List Int},gQ l=gQ m->l=m
  | [],[],_=>rfl
  | [],n::m,h=>by
    have:=congrArg List.length h;simp[gQ] at this
  |n::l,[],h=>by
    have:=congrArg List.length h;simp[gQ] at this
  |n::l,k::m,h=>by
    have h':Lib.itoa n++32::gQ l=Lib.itoa k++32::gQ m:=by simpa [gQ] using h
    obtain⟨h1,h2⟩:=uC _ _ _ _ (wP n) (wP k) h';rw[I7 h1,key_inj h2]
theorem AT:∀(l:List Int),(∀n∈l,-9223372036854775808<=n/\n<=9223372036854775807)->(gQ l).length<=22*l.length
  | [],_=>by simp[gQ]
  |n::l,h=>by
    have h1:=AT l (fun x hx=>h x (List.mem_cons_of_mem _ hx));have hn:=h n List.mem_cons_self;have h2:=Lib.itoa_length_le n hn.1 hn.2;have e:gQ (n::l)=Lib.itoa n++[32]++gQ l:=rfl;have h3:(gQ (n::l)).length=(Lib.itoa n).length+1+(gQ l).length:=by rw[e,List.length_append,List.length_append];rfl
    rw[h3,List.length_cons];omega
theorem I4 (l:List Int) (n:Int):gQ (l++[n])=gQ l++Lib.itoa n++[32]:=by simp[gQ]
structure Row where
  v:List Int
  len:v.length=256
structure bK where
  next:List Row
  rule:List Int
def bK.to (d:bK) (s:Nat) (c:UInt8):Int:=match d.next[s]? with|some r=>r.v.getD c.toNat (-1)|none=> -1
def bK.ru (d:bK) (s:Nat):Int:=d.rule.getD s (-1)
structure bK.Ok (d:bK):Prop where
  len:d.rule.length=d.next.length
  size:d.next.length<=2000
  to:∀r∈d.next,∀x∈r.v,-1<=x/\x<d.next.length
  ru:∀x∈d.rule,-1<=x/\x<=1000000
theorem Row.at {r:Row}(c:UInt8):∃x,r.v[c.toNat]? =some x/\r.v.getD c.toNat (-1)=x/\x∈r.v:=by
  have h:=r.len;have hc:=c.toNat_lt;have hx:r.v[c.toNat]? =some (r.v[c.toNat]'(by omega)):=List.getElem?_eq_getElem (by omega);exact⟨_,hx,by rw[List.getD_eq_getElem?_getD,hx];rfl,List.getElem_mem _⟩
theorem bK.rq {d:bK}(k:d.Ok) (c:UInt8) : -1<=d.to s c/\d.to s c<d.next.length:=by
  unfold bK.to;cases h:d.next[s]? with
  |none=>simp only;omega
  |some r =>
    obtain⟨x,hx,he,hm⟩:=r.at c;simp only;rw[he];exact k.to r (List.mem_of_getElem? h) x hm
def aL (d:bK):By->Nat->Nat->Int×Int->Int×Int×Int
  | [],st,k,b=>if 0<=d.ru st then (k,d.ru st,k) else (b.1,b.2,k)
  |c::l,st,k,b =>
    if 0<=d.to st c then aL d l (d.to st c).toNat (k+1) (if 0<=d.ru st then (k,d.ru st) else b)
    else if 0<=d.ru st then (k,d.ru st,k) else (b.1,b.2,k)
def de (d:bK) (s:By) (a:Int):Int×Int×Int:=if d.next.length=0\/a<0\/(s.length:Int)<a then (0,-1,0) else aL d (s.drop a.toNat) 0 0 (0,-1)
def AU (l:List Nat):By:=gQ (l.map Int.ofNat)
theorem I6 {l m:List Nat}(h:AU l=AU m):l=m:=by
  have:=key_inj h
  have hi:∀a b:List Nat,a.map Int.ofNat=b.map Int.ofNat->a=b:=by
    intro a
    induction a with
    |nil=>intro b h;cases b with
      |nil=>rfl
      |cons y b=>simp at h
    |cons x a ih=>intro b h;cases b with
      |nil=>simp at h
      |cons y b =>
        simp only[List.map_cons,List.cons.injEq] at h;rw[ih b h.2];have:=h.1;simp only[Int.ofNat_eq_natCast] at this;rw[show x=y by omega]
  exact hi _ _ this
def p8:Nat->List (List Nat)->List Nat->Option Nat
  |_,[],_=>none
  |i,x::r,l=>if l=x then some i else p8 (i+1) r l
theorem qH:∀(ls:List (List Nat)) (i j:Nat) (l:List Nat),p8 i ls l=some j->i<=j/\ls[j-i]? =some l
  | [],i,j,l,h=>by cases h
  |x::r,i,j,l,h=>by
    rw[p8] at h;split at h
    · rename_i e;cases h;subst e;exact⟨Nat.le_refl _,by simp⟩
    · have:=qH r (i+1) j l h;refine⟨by omega,?_⟩;rw[show j-i=(j-(i+1))+1 by omega,List.getElem?_cons_succ];exact this.2
theorem wZ:∀(ls:List (List Nat)) (i:Nat) (l:List Nat),p8 i ls l=none->l∉ls
  | [],i,l,_=>List.not_mem_nil
  |x::r,i,l,h=>by
    rw[p8] at h;split at h
    · cases h
    · rename_i e;have:=wZ r (i+1) l h;simp only[List.mem_cons,not_or];exact⟨e,this⟩
def dI (ss:List bA) (cur:List Nat) (lists:List (List Nat)) (b:Nat):List (List Nat)×Int :=
  if (cB ss (UInt8.ofNat b) cur).length=0 then (lists,-1)
  else match p8 0 lists (cB ss (UInt8.ofNat b) cur) with
    |some i=>(lists,(i:Int))
    |none=>(lists++[cB ss (UInt8.ofNat b) cur],(lists.length:Int))
def lZ (ss:List bA) (cur:List Nat):Nat->Nat->List (List Nat)->List Int->List (List Nat)×List Int
  | 0,_,lists,row=>(lists,row)
  |n+1,b,lists,row=>lZ ss cur n (b+1) (dI ss cur lists b).1 (row++[(dI ss cur lists b).2])
def j8 (l:List Int):Row:=⟨(l++List.replicate 256 (-1)).take 256,by rw[List.length_take,List.length_append,List.length_replicate];omega⟩
theorem uT {l:List Int}(h:l.length=256):(j8 l).v=l:=by
  unfold j8;simp only;rw[List.take_append_of_le_length (by omega),List.take_of_length_le (by omega)]
def kN (ss:List bA):Nat->Nat->List (List Nat)->List Row->List Int->Option bK
  | 0,_,_,_,_=>none
  |n+1,k,lists,next,rule =>
    match lists[k]? with
    |none=>some ⟨next,rule⟩
    |some cur =>
      if 2000<(lZ ss cur 256 0 lists []).1.length then none
      else kN ss n (k+1) (lZ ss cur 256 0 lists []).1 (next++[j8 (lZ ss cur 256 0 lists []).2]) (rule++[bh ss cur])
def gI (ss:List bA) (st:Nat):Int ⊕ bK :=
  if (bX ss st).length=0 then .inl 1
  else match kN ss 2002 0 [bX ss st] [] [] with
    |none=>.inl 70
    |some d=>.inr d
def bK.row (d:bK) (k:Nat):List Int:=match d.next[k]? with|some r=>r.v|none=>[]
def gE (out:List Bool) (t:Int):Bool:=decide (0<=t) && out.getD t.toNat false
def dG (d:bK) (out:List Bool) (k:Nat):Bool:=decide (0<=d.ru k) ||(d.row k).any (gE out)
def bR (d:bK):Nat->Nat->List Bool->Bool->List Bool×Bool
  | 0,_,out,ag=>(out,ag)
  |n+1,k,out,ag=>if out.getD k false=true then bR d n (k+1) out ag else bR d n (k+1) (out.set k (dG d out k)) (ag ||dG d out k)
def gH (out:List Bool):Nat:=(out.filter fun b=> !b).length
def rR (d:bK):Nat->List Bool->List Bool
  | 0,out=>out
  |n+1,out=>if (bR d d.next.length 0 out false).2=true then rR d n (bR d d.next.length 0 out false).1 else (bR d d.next.length 0 out false).1
def br (d:bK):List Bool:=rR d (d.next.length+1) (List.replicate d.next.length false)
theorem xj:∀(out:List Bool) (k:Nat) (b:Bool),out[k]? =some false->gH (out.set k b)+(if b then 1 else 0)=gH out
  | [],k,b,h=>by simp at h
  |x::r,0,b,h=>by simp at h;subst h;cases b<;>simp[gH]
  |x::r,k+1,b,h=>by
    have:=xj r k b (by simpa using h);unfold gH at this ⊢;rw[List.set_cons_succ];cases x<;>simp at this ⊢ <;>omega
theorem gW (d:bK):∀(n k:Nat) (out:List Bool) (ag:Bool),(bR d n k out ag).1.length=out.length
  | 0,_,_,_=>rfl
  |n+1,k,out,ag=>by
    rw[bR];split
    · exact gW d n _ _ _
    · rw[gW d n];simp
theorem iJ (d:bK):∀(n k:Nat) (out:List Bool) (ag:Bool),k+n<=out.length->gH (bR d n k out ag).1<=gH out/\((bR d n k out ag).2=true->ag=true\/gH (bR d n k out ag).1<gH out)
  | 0,_,out,ag,_=>⟨Nat.le_refl _,fun h=>.inl h⟩
  |n+1,k,out,ag,hk=>by
    rw[bR];split
    · exact iJ d n (k+1) out ag (by omega)
    · rename_i h
      have hf:out[k]? =some false:=by
        rw[List.getD_eq_getElem?_getD,List.getElem?_eq_getElem (by omega)] at h;rw[List.getElem?_eq_getElem (by omega)];simpa using h
      have h1:=xj out k (dG d out k) hf;have h2:=iJ d n (k+1) (out.set k (dG d out k)) (ag ||dG d out k) (by simp;omega);refine⟨by omega,fun ht=>?_⟩
      rcases h2.2 ht with h3|h3
      · cases hb:dG d out k with
        |true=>rw[hb,if_pos rfl] at h1;right;rw[hb] at h2;omega
        |false=>rw[hb,Bool.or_false] at h3;exact .inl h3
      · right;omega
def ke:Nat->List (List Int)->List Int->Option Nat
  |_,[],_=>none
  |i,x::r,l=>if l=x then some i else ke (i+1) r l
theorem qI:∀(ls:List (List Int)) (i j:Nat) (l:List Int),ke i ls l=some j->i<=j/\ls[j-i]? =some l
  | [],i,j,l,h=>by cases h
  |x::r,i,j,l,h=>by
    rw[ke] at h;split at h
    · rename_i e;cases h;subst e;exact⟨Nat.le_refl _,by simp⟩
    · have:=qI r (i+1) j l h;refine⟨by omega,?_⟩;rw[show j-i=(j-(i+1))+1 by omega,List.getElem?_cons_succ];exact this.2
def bW (live:List Bool) (cls:List Int) (t:Int):Int:=if t<0\/live.getD t.toNat false=false then -2 else cls.getD t.toNat 0
def fA (d:bK) (live:List Bool) (cls:List Int) (k:Nat):List Int:=cls.getD k 0::(d.row k).map (bW live cls)
def bg (d:bK) (live:List Bool) (cls:List Int):Nat->Nat->List (List Int)->List Int->List (List Int)×List Int
  | 0,_,seen,after=>(seen,after)
  |n+1,k,seen,after =>
    match ke 0 seen (fA d live cls k) with
    |some i=>bg d live cls n (k+1) seen (after++[(i:Int)])
    |none=>bg d live cls n (k+1) (seen++[fA d live cls k]) (after++[(seen.length:Int)])
def kQ (d:bK) (live:List Bool):Nat->Nat->List Int->List Int
  | 0,_,cls=>cls
  |n+1,many,cls =>
    if (bg d live cls d.next.length 0 [] []).1.length=many then (bg d live cls d.next.length 0 [] []).2
    else kQ d live n (bg d live cls d.next.length 0 [] []).1.length (bg d live cls d.next.length 0 [] []).2
def dS (d:bK) (live:List Bool):List Int:=kQ d live (d.next.length+1) 0 d.rule
def jO (m:Nat) (l:List Int):Prop:=∀i,i<m->(i:Int)∈l
theorem qP:∀(m:Nat) (l:List Int),jO m l->m<=l.length
  | 0,_,_=>Nat.zero_le _
  |m+1,l,h=>by
    have hm:=h m (Nat.lt_succ_self m);have h1:jO m (l.erase (m:Int)):=fun i hi=>(List.mem_erase_of_ne (by omega)).2 (h i (by omega))
    have h2:=qP m _ h1;have h3:=List.length_erase_of_mem hm;have h4:0<l.length:=List.length_pos_of_mem hm;omega
structure ES (d:bK) (live:List Bool) (cls:List Int) (k:Nat) (seen:List (List Int)) (after:List Int):Prop where
  len:after.length=k
  size:seen.length<=k
  nums:jO seen.length after
  bound:∀x∈after,0<=x/\x<seen.length
  all:∀j,j<k->fA d live cls j∈seen
theorem mI {d:bK}{live:List Bool}{cls:List Int}:∀(n k:Nat) (seen:List (List Int)) (after:List Int),ES d live cls k seen after->ES d live cls (k+n) (bg d live cls n k seen after).1 (bg d live cls n k seen after).2
  | 0,k,seen,after,h=>h
  |n+1,k,seen,after,h=>by
    rw[bg,show k+(n+1)=(k+1)+n by omega];split
    · rename_i i hi;have hi':=qI seen 0 i _ hi;have hil:=(List.getElem?_eq_some_iff.1 hi'.2).1
      exact mI n (k+1) _ _ ⟨by simp[h.len],by have:=h.size;omega,fun j hj=>List.mem_append_left _ (h.nums j hj),fun x hx=>by
        rcases List.mem_append.1 hx with e|e
        · exact h.bound x e
        · have:x=(i:Int):=by simpa using e
          rw[this];omega,fun j hj=>by
        by_cases e:j=k
        · subst e;exact List.mem_of_getElem? hi'.2
        · exact h.all j (by omega)⟩
    · exact mI n (k+1) _ _ ⟨by simp[h.len],by have:=h.size;simp;omega,fun j hj=>by
        simp only[List.length_append,List.length_singleton] at hj
        by_cases e:j=seen.length
        · subst e;simp
        · exact List.mem_append_left _ (h.nums j (by omega)),fun x hx=>by
        simp only[List.length_append,List.length_singleton]
        rcases List.mem_append.1 hx with e|e
        · have:=h.bound x e;omega
        · have:x=(seen.length:Int):=by simpa using e
          omega,fun j hj=>by
        by_cases e:j=k
        · subst e;simp
        · exact List.mem_append_left _ (h.all j (by omega))⟩
theorem eT (d:bK) (live:List Bool) (cls:List Int):ES d live cls d.next.length (bg d live cls d.next.length 0 [] []).1 (bg d live cls d.next.length 0 [] []).2:=by
  have:=mI (d:=d) (live:=live) (cls:=cls) d.next.length 0 [] [] ⟨rfl,Nat.le_refl _,fun i hi=>absurd hi (Nat.not_lt_zero _),fun x hx=>(by cases hx),fun j hj=>absurd hj (Nat.not_lt_zero _)⟩
  rwa [Nat.zero_add] at this
theorem oC {d:bK}{many:Nat}(hc:jO many cls) (hl:cls.length=d.next.length):many<=(bg d live cls d.next.length 0 [] []).1.length:=by
  have h:=eT d live cls
  have:jO many ((bg d live cls d.next.length 0 [] []).1.map fun s=>s.getD 0 0):=fun i hi=>by
    obtain⟨k,hk⟩:=List.getElem?_of_mem (hc i hi);have hkl:=(List.getElem?_eq_some_iff.1 hk).1;have:=h.all k (by omega);refine List.mem_map.2 ⟨_,this,?_⟩;simp[fA,List.getD_eq_getElem?_getD,hk]
  have:=qP _ _ this;simpa using this
def qd (cls:List Int):Nat->List Nat->Int->Option Nat
  |_,[],_=>none
  |i,x::r,c=>if c=cls.getD x 0 then some i else qd cls (i+1) r c
theorem xh {cls:List Int}:∀(of:List Nat) (i j:Nat) (c:Int),qd cls i of c=some j->i<=j/\∃x,of[j-i]? =some x/\c=cls.getD x 0
  | [],i,j,c,h=>by cases h
  |x::r,i,j,c,h=>by
    rw[qd] at h;split at h
    · rename_i e;cases h;exact⟨Nat.le_refl _,x,by simp,e⟩
    · obtain⟨h1,y,h2,h3⟩:=xh r (i+1) j c h;refine⟨by omega,y,?_,h3⟩;rw[show j-i=(j-(i+1))+1 by omega,List.getElem?_cons_succ];exact h2
theorem qJ {cls:List Int}:∀(of:List Nat) (i:Nat) (c:Int),qd cls i of c=none->∀x∈of,c≠cls.getD x 0
  | [],i,c,h,x,hx=>by cases hx
  |y::r,i,c,h,x,hx=>by
    rw[qd] at h;split at h
    · cases h
    · rename_i hn
      rcases List.mem_cons.1 hx with e|e
      · subst e;exact hn
      · exact qJ r (i+1) c h x e
def cF (live:List Bool) (cls:List Int) (of:List Nat) (t:Int):List Nat×Int :=
  if t<0\/live.getD t.toNat false=false then (of,-1) else
    match qd cls 0 of (cls.getD t.toNat 0) with
    |some i=>(of,(i:Int))
    |none=>(of++[t.toNat],(of.length:Int))
def fT (live:List Bool) (cls:List Int):List Int->List Nat->List Int->List Nat×List Int
  | [],of,row=>(of,row)
  |t::r,of,row=>fT live cls r (cF live cls of t).1 (row++[(cF live cls of t).2])
def Ch (d:bK) (live:List Bool) (cls:List Int):Nat->Nat->List Nat->List Row->List Int->bK
  | 0,_,_,next,rule=>⟨next,rule⟩
  |n+1,i,of,next,rule =>
    match of[i]? with
    |none=>⟨next,rule⟩
    |some k=>Ch d live cls n (i+1) (fT live cls (d.row k) of []).1 (next++[j8 (fT live cls (d.row k) of []).2]) (rule++[d.ru k])
def lA (d:bK):bK:=if d.next.length=0 then ⟨[],[]⟩ else Ch d (br d) (dS d (br d)) (d.next.length+1) 0 [0] [] []
structure Dh (n:Nat) (of:List Nat):Prop where
  once:of.Nodup
  lt:∀x∈of,x<n
theorem Ca:∀(n:Nat) (l:List Nat),l.Nodup->(∀x∈l,x<n)->l.length<=n
  | 0,[],_,_=>Nat.le_refl _
  | 0,x::l,_,h=>absurd (h x (by simp)) (Nat.not_lt_zero _)
  |n+1,l,hl,h=>by
    have h1:=Ca n (l.erase n) (hl.erase n) (fun x hx=>by
      have:=(hl.mem_erase_iff).1 hx;have:=h x this.2;omega)
    by_cases hn:n∈l
    · have:=List.length_erase_of_mem hn;omega
    · rw[List.erase_of_not_mem hn] at h1;omega
theorem Dh.len {n:Nat}(k:Dh n of):of.length<=n:=Ca n of k.once k.lt
theorem wh {n:Nat}(k:Dh n of) (ht:t<n):Dh n (cF live cls of t).1:=by
  unfold cF;split
  · exact k
  · rename_i hn;split
    · exact k
    · rename_i hf;have hne:=qJ of 0 _ hf;refine⟨List.nodup_append.2 ⟨k.once,by simp,fun a ha b hb e=>?_⟩,fun x hx=>?_⟩
      · have:b=t.toNat:=by simpa using hb
        subst e;subst this;exact hne _ ha rfl
      · rcases List.mem_append.1 hx with e|e
        · exact k.lt x e
        · have:x=t.toNat:=by simpa using e
          omega
theorem D2:of.length<=(cF live cls of t).1.length/\∀(i x:Nat),of[i]? =some x->(cF live cls of t).1[i]? =some x:=by
  unfold cF;split
  · exact⟨Nat.le_refl _,fun _ _ h=>h⟩
  · split
    · exact⟨Nat.le_refl _,fun _ _ h=>h⟩
    · exact⟨by simp,fun i x h=>by rw[List.getElem?_append_left (List.getElem?_eq_some_iff.1 h).1];exact h⟩
def ym (L:List (List Nat)) (l:List Nat) (to:Int):Prop:=(l.length=0/\to= -1)\/(l.length≠0/\∃i:Nat,to=(i:Int)/\L[i]? =some l)
theorem ym.mono {L L':List (List Nat)}{l:List Nat}{to:Int}(k:ym L l to) (h:L <+: L'):ym L' l to:=by
  rcases k with k|⟨k,i,e,hi⟩
  · exact .inl k
  · obtain⟨t,rfl⟩:=h;exact .inr ⟨k,i,e,by rw[List.getElem?_append_left (List.getElem?_eq_some_iff.1 hi).1];exact hi⟩
theorem Ax (ss:List bA) (cur:List Nat) (lists:List (List Nat)) (b:Nat) (hn:lists.Nodup) :
    lists <+: (dI ss cur lists b).1/\(dI ss cur lists b).1.Nodup/\ym (dI ss cur lists b).1 (cB ss (UInt8.ofNat b) cur) (dI ss cur lists b).2:=by
  unfold dI;split
  · rename_i h;exact⟨List.prefix_refl _,hn,.inl ⟨h,rfl⟩⟩
  · rename_i h;split
    · rename_i i hi;exact⟨List.prefix_refl _,hn,.inr ⟨h,i,rfl,(qH lists 0 i _ hi).2⟩⟩
    · rename_i hi;refine⟨List.prefix_append _ _,List.nodup_append.2 ⟨hn,by simp,fun x hx y hy e=>?_⟩,.inr ⟨h,lists.length,rfl,by simp⟩⟩;have:y=cB ss (UInt8.ofNat b) cur:=by simpa using hy
      exact wZ lists 0 _ hi (by rw[<-this,<-e];exact hx)
theorem s4 (ss:List bA) (cur:List Nat):∀(n b:Nat) (lists:List (List Nat)) (row:List Int),lists.Nodup ->
    lists <+: (lZ ss cur n b lists row).1/\(lZ ss cur n b lists row).1.Nodup/\∃ys,(lZ ss cur n b lists row).2=row++ys/\ys.length=n/\∀(j:Nat) (y:Int),ys[j]? =some y->ym (lZ ss cur n b lists row).1 (cB ss (UInt8.ofNat (b+j)) cur) y
  | 0,b,lists,row,hn=>⟨List.prefix_refl _,hn,[],by simp[lZ],rfl,fun j y h=>by simp at h⟩
  |n+1,b,lists,row,hn=>by
    obtain⟨h1,h2,h3⟩:=Ax ss cur lists b hn;obtain⟨k1,k2,ys,k3,k4,k5⟩:=s4 ss cur n (b+1) (dI ss cur lists b).1 (row++[(dI ss cur lists b).2]) h2;rw[lZ];refine⟨h1.trans k1,k2,(dI ss cur lists b).2::ys,by rw[k3];simp,by simp[k4],fun j y hy=>?_⟩;cases j with
    |zero =>
      simp only[List.getElem?_cons_zero,Option.some.injEq] at hy;subst hy;exact h3.mono k1
    |succ j =>
      rw[List.getElem?_cons_succ] at hy;have:=k5 j y hy
      rwa [show b+(j+1)=b+1+j by omega]
structure oO (ss:List bA) (st:Nat) (lists:List (List Nat)) (d:bK):Prop where
  first:lists[0]? =some (bX ss st)
  once:lists.Nodup
  size:lists.length<=2000
  rlen:d.rule.length=d.next.length
  row:∀(k:Nat) (r:Row) (l:List Nat),d.next[k]? =some r->lists[k]? =some l->∀(b:Nat) (y:Int),r.v[b]? =some y->ym lists (cB ss (UInt8.ofNat b) l) y
  rule:∀(k:Nat) (x:Int) (l:List Nat),d.rule[k]? =some x->lists[k]? =some l->x=bh ss l
theorem ur {ss:List bA}{st:Nat}:∀(n k:Nat) (lists:List (List Nat)) (next:List Row) (rule:List Int) (d:bK),oO ss st lists ⟨next,rule⟩->next.length=k->k<=lists.length->kN ss n k lists next rule=some d->∃L,lists <+: L/\oO ss st L d/\L.length=d.next.length
  | 0,k,lists,next,rule,d,h,hk,hkl,hd=>by cases hd
  |n+1,k,lists,next,rule,d,h,hk,hkl,hd=>by
    rw[kN] at hd;split at hd
    · rename_i hn;cases hd;have:=List.getElem?_eq_none_iff.1 hn;exact⟨lists,List.prefix_refl _,h,by show lists.length=next.length;omega⟩
    · rename_i cur hcur;obtain⟨h1,h2,ys,h3,h4,h5⟩:=s4 ss cur 256 0 lists [] h.once;split at hd
      · cases hd
      · rename_i hsz;have hkl2:=(List.getElem?_eq_some_iff.1 hcur).1
        have hpre:∀(i:Nat) (l:List Nat),i<lists.length->(lZ ss cur 256 0 lists []).1[i]? =some l->lists[i]? =some l:=fun i l hi hl=>by
          obtain⟨t,ht⟩:=h1;rw[<-ht,List.getElem?_append_left hi] at hl;exact hl
        have hpre2:∀(i:Nat) (l:List Nat),lists[i]? =some l->(lZ ss cur 256 0 lists []).1[i]? =some l:=fun i l hl=>by
          obtain⟨t,ht⟩:=h1;rw[<-ht,List.getElem?_append_left (List.getElem?_eq_some_iff.1 hl).1];exact hl
        have hlen:=h1.length_le;have hrl:rule.length=next.length:=h.rlen
        obtain⟨L,g1,g2,g3⟩:=ur (st:=st) n (k+1) _ _ _ d ⟨hpre2 _ _ h.first,h2,by omega,by simp[hrl],fun i r l hr hl b y hy=>by
          rcases Nat.lt_or_ge i next.length with hi|hi
          · rw[List.getElem?_append_left hi] at hr;exact(h.row i r l hr (hpre i l (by omega) hl) b y hy).mono h1
          · have hik:i=next.length:=by
              have:=(List.getElem?_eq_some_iff.1 hr).1;simp at this;omega
            subst hik;simp only[List.getElem?_concat_length,Option.some.injEq] at hr;subst hr;have hlc:=hpre _ l (by omega) hl;rw[hk] at hlc;rw[hcur] at hlc;cases hlc;rw[h3,List.nil_append,uT h4] at hy;have:=h5 b y hy
            rwa [Nat.zero_add] at this,fun i x l hx hl=>by
          rcases Nat.lt_or_ge i rule.length with hi|hi
          · rw[List.getElem?_append_left hi] at hx;exact h.rule i x l hx (hpre i l (by omega) hl)
          · have hik:i=rule.length:=by
              have:=(List.getElem?_eq_some_iff.1 hx).1;simp at this;omega
            subst hik;simp only[List.getElem?_concat_length,Option.some.injEq] at hx;subst hx;have hlc:=hpre _ l (by omega) hl;rw[hrl,hk,hcur] at hlc;cases hlc;rfl⟩ (by simp[hk]) (by omega) hd
        exact⟨L,h1.trans g1,g2,g3⟩
theorem yb {ss:List bA}(hr:∀x∈ss,x.rule<=1000000):∀(l:List Nat) (b:Int),-1<=b/\b<=1000000-> -1<=sL ss l b/\sL ss l b<=1000000
  | [],b,h=>h
  |j::r,b,h=>by
    rw[sL];refine yb hr r _ ?_;split
    · rename_i x hx;split
      · have:=hr x (List.mem_of_getElem? hx);omega
      · exact h
    · exact h
theorem xY (hr:∀x∈ss,x.rule<=1000000) (l:List Nat) : -1<=bh ss l/\bh ss l<=1000000:=by
  unfold bh;split
  · omega
  · exact yb hr l (-1) (by omega)
theorem oO.ok {L:List (List Nat)}{d:bK}(k:oO ss st L d) (hL:L.length=d.next.length) (hr:∀x∈ss,x.rule<=1000000):d.Ok:=by
  refine⟨k.rlen,by rw[<-hL];exact k.size,fun r hrm x hx=>?_,fun x hx=>?_⟩
  · obtain⟨i,hi⟩:=List.getElem?_of_mem hrm;obtain⟨j,hj⟩:=List.getElem?_of_mem hx;have hil:=(List.getElem?_eq_some_iff.1 hi).1;have hl:L[i]? =some (L[i]'(by omega)):=List.getElem?_eq_getElem _
    rcases k.row i r _ hi hl j x hj with ⟨_,rfl⟩|⟨_,i2,rfl,h2⟩
    · omega
    · have:=(List.getElem?_eq_some_iff.1 h2).1;omega
  · obtain⟨i,hi⟩:=List.getElem?_of_mem hx;have hil:=(List.getElem?_eq_some_iff.1 hi).1;have hl:L[i]? =some (L[i]'(by rw[hL,<-k.rlen];exact hil)):=List.getElem?_eq_getElem _;rw[k.rule i x _ hi hl];exact xY hr _
theorem jn {d:bK}(h:gI ss st= .inr d):(bX ss st).length≠0/\∃L,oO ss st L d/\L.length=d.next.length/\0<L.length:=by
  unfold gI at h;split at h
  · cases h
  · rename_i hs;refine⟨hs,?_⟩;split at h
    · cases h
    · rename_i d' hd;cases h;obtain⟨L,h1,h2,h3⟩:=ur (st:=st) 2002 0 [bX ss st] [] [] d ⟨rfl,by simp,by simp,rfl,fun k r l hr=>by simp at hr,fun k x l hx=>by simp at hx⟩ rfl (by simp) hd;exact⟨L,h2,h3,by have:=(List.getElem?_eq_some_iff.1 h2.first).1;omega⟩
theorem G9 {d:bK}(h:gI ss st= .inr d) (hr:∀x∈ss,x.rule<=1000000):d.Ok:=by
  obtain⟨_,L,h1,h2,_⟩:=jn h;exact h1.ok h2 hr
def bK.go (d:bK):By->Int->Int
  | [],s=>s
  |c::l,s=>bK.go d l (if s<0 then -1 else d.to s.toNat c)
def bK.fR (d:bK) (s:Int) (w:By):Int:=if d.go w s<0 then -1 else d.ru (d.go w s).toNat
theorem go_neg (d:bK):∀(w:By) (s:Int),s<0->d.go w s<0
  | [],s,h=>h
  |c::l,s,h=>by
    rw[bK.go,if_pos h];exact go_neg d l (-1) (by decide)
theorem kZ (d:bK) (w:By){s:Int}(h:s<0):d.fR s w= -1:=by rw[bK.fR,if_pos (go_neg d w s h)]
theorem dM (d:bK) (k:Nat):d.fR (k:Int) []=d.ru k:=by
  rw[bK.fR,bK.go,if_neg (by omega),Int.toNat_natCast]
theorem dX (d:bK) (k:Nat) (c:UInt8) (w:By):d.fR (k:Int) (c::w)=d.fR (d.to k c) w:=by
  have h:¬((k:Int)<0):=by omega
  rw[bK.fR,bK.fR,bK.go,if_neg h,Int.toNat_natCast]
def J6 (d:bK) (k:Nat):Prop:=∃w,0<=d.fR (k:Int) w
def iF (d:bK) (out:List Bool):Prop:=∀k:Nat,out.getD k false=true->J6 d k
theorem Ip {d:bK}(h:t∈d.row k):∃c:UInt8,d.to k c=t:=by
  unfold bK.row at h;split at h
  · rename_i r hr;obtain⟨i,hi⟩:=List.getElem?_of_mem h;have hl:=(List.getElem?_eq_some_iff.1 hi).1;rw[r.len] at hl;refine⟨UInt8.ofNat i,?_⟩;have hc:(UInt8.ofNat i).toNat=i:=by simp;omega
    unfold bK.to;rw[hr];simp only;rw[hc,List.getD_eq_getElem?_getD,hi];rfl
  · cases h
theorem Mb {d:bK}(c:UInt8) (h:k<d.next.length):d.to k c∈d.row k:=by
  have hr:d.next[k]? =some (d.next[k]'h):=List.getElem?_eq_getElem _
  obtain⟨x,hx,he,hm⟩:=(d.next[k]'h).at c;unfold bK.to bK.row;rw[hr];simp only;rw[he];exact hm
theorem AO {d:bK}{out:List Bool}(h:iF d out) (k:Nat) (ha:dG d out k=true):J6 d k:=by
  unfold dG at ha
  rcases Bool.or_eq_true _ _▸ha with e|e
  · exact⟨[],by rw[dM];exact of_decide_eq_true e⟩
  · obtain⟨t,ht,hl⟩:=List.any_eq_true.1 e;unfold gE at hl;rw[Bool.and_eq_true] at hl;have h0:=of_decide_eq_true hl.1;obtain⟨c,hc⟩:=Ip ht;obtain⟨w,hw⟩:=h t.toNat hl.2;refine⟨c::w,?_⟩;rw[dX,hc]
    rwa [Int.toNat_of_nonneg h0] at hw
theorem Gh {d:bK}{out:List Bool}(h:iF d out) (k:Nat):iF d (out.set k (dG d out k)):=by
  intro j hj
  by_cases e:k=j
  · subst e;rw[List.getD_eq_getElem?_getD] at hj
    by_cases hk:k<out.length
    · rw[List.getElem?_set_self hk] at hj;exact AO h k hj
    · rw[List.getElem?_eq_none (by simp;omega)] at hj;cases hj
  · rw[List.getD_eq_getElem?_getD,List.getElem?_set_ne e,<-List.getD_eq_getElem?_getD] at hj;exact h j hj
theorem jF {d:bK}:∀(n k:Nat) (out:List Bool) (ag:Bool),iF d out->iF d (bR d n k out ag).1
  | 0,_,_,_,h=>h
  |n+1,k,out,ag,h=>by
    rw[bR];split
    · exact jF n (k+1) out ag h
    · exact jF n (k+1) _ _ (Gh h k)
theorem jE {d:bK}:∀(n k:Nat) (out:List Bool) (ag:Bool),k+n<=out.length->(bR d n k out ag).2=false->(bR d n k out ag).1=out/\∀j,k<=j->j<k+n->out.getD j false=false->dG d out j=false
  | 0,_,_,_,_,_=>⟨rfl,fun j h1 h2=>by omega⟩
  |n+1,k,out,ag,hk,h=>by
    rw[bR] at h ⊢;split at h
    · rename_i hg;rw[if_pos hg];obtain⟨h1,h2⟩:=jE n (k+1) out ag (by omega) h
      exact⟨h1,fun j hj1 hj2 hj3=>by
        by_cases e:j=k
        · subst e;rw[hg] at hj3;cases hj3
        · exact h2 j (by omega) (by omega) hj3⟩
    · rename_i hg;rw[if_neg hg]
      have hf:out[k]? =some false:=by
        rw[List.getD_eq_getElem?_getD,List.getElem?_eq_getElem (by omega)] at hg;rw[List.getElem?_eq_getElem (by omega)];simpa using hg
      obtain⟨h1,h2⟩:=jE n (k+1) _ _ (by simp;omega) h
      have hb:dG d out k=false:=by
        cases hb:dG d out k with
        |false=>rfl
        |true =>
          exfalso;rw[hb,Bool.or_true] at h
          have hmono:∀(n k:Nat) (out:List Bool),(bR d n k out true).2=true:=fun n=>by
            induction n with
            |zero=>intro k out;rfl
            |succ n ih=>intro k out;rw[bR];split<;>simp[ih]
          rw[hmono] at h;cases h
      have hset:out.set k (dG d out k)=out:=by
        rw[hb]
        apply List.ext_getElem?
        intro j
        by_cases e:k=j
        · subst e;rw[List.getElem?_set_self (by omega),hf]
        · rw[List.getElem?_set_ne e]
      rw[hset] at h1 h2;rw[hset]
      exact⟨h1,fun j hj1 hj2 hj3=>by
        by_cases e:j=k
        · subst e;exact hb
        · exact h2 j (by omega) (by omega) hj3⟩
def yl (d:bK) (out:List Bool):Prop:=∀k,k<d.next.length->out.getD k false=false->dG d out k=false
theorem wB {d:bK}:∀(n:Nat) (out:List Bool),out.length=d.next.length->gH out<n->iF d out->iF d (rR d n out)/\yl d (rR d n out)
  | 0,_,_,h,_=>absurd h (Nat.not_lt_zero _)
  |n+1,out,hl,hf,hs=>by
    have hless:=iJ d d.next.length 0 out false (by omega)
    have hsp:=jF d.next.length 0 out false hs
    rw[rR];split
    · rename_i ht
      rcases hless.2 ht with e|e
      · cases e
      · exact wB n _ (by rw[gW];exact hl) (by omega) hsp
    · rename_i ht;have hst:=jE d.next.length 0 out false (by omega) (by simpa using ht)
      rw[hst.1];exact⟨hs,fun k hk hko=>hst.2 k (Nat.zero_le _) (by omega) hko⟩
theorem sC {d:bK}{out:List Bool}(hok:d.Ok) (h:yl d out):∀(w:By) (k:Nat),k<d.next.length->0<=d.fR (k:Int) w->out.getD k false=true
  | [],k,hk,hw=>by
    rw[dM] at hw;cases ho:out.getD k false with
    |true=>rfl
    |false =>
      have:=h k hk ho;unfold dG at this;rw[decide_eq_true hw] at this;cases this
  |c::w,k,hk,hw=>by
    rw[dX] at hw;have ht:=bK.rq hok (s:=k) c
    have h0:0<=d.to k c:=by
      by_cases e:d.to k c<0
      · rw[kZ d w e] at hw;omega
      · omega
    obtain⟨t,htt⟩:=Int.eq_ofNat_of_zero_le h0;rw[htt] at hw;have ih:=sC hok h w t (by omega) hw;cases ho:out.getD k false with
    |true=>rfl
    |false =>
      have:=h k hk ho;unfold dG at this;rw[Bool.or_eq_false_iff] at this;have h2:=List.any_eq_false.1 this.2 _ (Mb c hk);unfold gE at h2;rw[htt,Int.toNat_natCast,ih] at h2;simp at h2
theorem wA {d:bK}(hok:d.Ok) (hk:k<d.next.length):(br d).getD k false=true↔J6 d k:=by
  have h:=wB (d:=d) (d.next.length+1) (List.replicate d.next.length false) (by simp) (by
    have:gH (List.replicate d.next.length false)<=d.next.length:=by unfold gH;exact Nat.le_trans (List.length_filter_le _ _) (by simp)
    omega) (fun k hk=>by
      rw[List.getD_eq_getElem?_getD,List.getElem?_replicate] at hk;split at hk<;>cases hk)
  exact⟨h.1 k,fun⟨w,hw⟩=>sC hok h.2 w k hk hw⟩
structure FM (d:bK) (live:List Bool) (cls:List Int) (k:Nat) (seen:List (List Int)) (after:List Int):Prop where
  len:after.length=k
  once:seen.Nodup
  at_:∀j,j<k->∃i:Nat,after[j]? =some (i:Int)/\seen[i]? =some (fA d live cls j)
theorem xg:∀(ls:List (List Int)) (i:Nat) (l:List Int),ke i ls l=none->l∉ls
  | [],i,l,_=>List.not_mem_nil
  |x::r,i,l,h=>by
    rw[ke] at h;split at h
    · cases h
    · rename_i e;have:=xg r (i+1) l h;simp only[List.mem_cons,not_or];exact⟨e,this⟩
theorem kO {d:bK}{live:List Bool}{cls:List Int}:∀(n k:Nat) (seen:List (List Int)) (after:List Int),FM d live cls k seen after->FM d live cls (k+n) (bg d live cls n k seen after).1 (bg d live cls n k seen after).2
  | 0,k,seen,after,h=>h
  |n+1,k,seen,after,h=>by
    rw[bg,show k+(n+1)=(k+1)+n by omega];split
    · rename_i i hi;have hi':=qI seen 0 i _ hi;refine kO n (k+1) _ _ ⟨by simp[h.len],h.once,fun j hj=>?_⟩
      by_cases e:j=k
      · subst e;refine⟨i,?_,hi'.2⟩;rw[<-h.len,List.getElem?_concat_length]
      · obtain⟨i',h1,h2⟩:=h.at_ j (by omega);exact⟨i',by rw[List.getElem?_append_left (by rw[h.len];omega)];exact h1,h2⟩
    · rename_i hi;have hno:=xg seen 0 _ hi;refine kO n (k+1) _ _ ⟨by simp[h.len],List.nodup_append.2 ⟨h.once,by simp,fun a ha b hb e=>?_⟩,fun j hj=>?_⟩
      · have:b=fA d live cls k:=by simpa using hb
        rw[e,this] at ha;exact hno ha
      · by_cases e:j=k
        · subst e;refine⟨seen.length,?_,by rw[List.getElem?_concat_length]⟩;rw[<-h.len,List.getElem?_concat_length]
        · obtain⟨i',h1,h2⟩:=h.at_ j (by omega);exact⟨i',by rw[List.getElem?_append_left (by rw[h.len];omega)];exact h1,by rw[List.getElem?_append_left (List.getElem?_eq_some_iff.1 h2).1];exact h2⟩
theorem kP {d:bK}{t:Nat}(hs:s<d.next.length) (ht:t<d.next.length) :
    (bg d live cls d.next.length 0 [] []).2.getD s 0=(bg d live cls d.next.length 0 [] []).2.getD t 0↔fA d live cls s=fA d live cls t:=by
  have h:=kO (d:=d) (live:=live) (cls:=cls) d.next.length 0 [] [] ⟨rfl,by simp,fun j hj=>absurd hj (Nat.not_lt_zero _)⟩
  rw[Nat.zero_add] at h;obtain⟨i,h1,h2⟩:=h.at_ s hs;obtain⟨j,h3,h4⟩:=h.at_ t ht;rw[List.getD_eq_getElem?_getD,List.getD_eq_getElem?_getD,h1,h3];constructor
  · intro e
    have:i=j:=by
      have e':(i:Int)=(j:Int):=e;omega
    subst this;rw[h2] at h4;exact Option.some.inj h4
  · intro e;rw[<-e] at h4;have hi:=(List.getElem?_eq_some_iff.1 h2)
    have hj:=(List.getElem?_eq_some_iff.1 h4)
    obtain⟨hi1,hi2⟩:=hi;obtain⟨hj1,hj2⟩:=hj
    have:i=j:=by
      rcases Nat.lt_trichotomy i j with e|e|e
      · exact absurd (hi2.trans hj2.symm) (List.pairwise_iff_getElem.1 h.once i j hi1 hj1 e)
      · exact e
      · exact absurd (hj2.trans hi2.symm) (List.pairwise_iff_getElem.1 h.once j i hj1 hi1 e)
    subst this;rfl
theorem ux:∀(m:Nat) (l:List Int),jO m l->l.length=m->l.Nodup
  | 0,l,_,hl=>by rw[List.length_eq_zero_iff.1 hl];exact List.Pairwise.nil
  |m+1,l,h,hl=>by
    have hm:=h m (Nat.lt_succ_self m);have h1:jO m (l.erase (m:Int)):=fun i hi=>(List.mem_erase_of_ne (by omega)).2 (h i (by omega))
    have h3:=List.length_erase_of_mem hm;have h2:=ux m _ h1 (by omega)
    have hno:(m:Int)∉l.erase (m:Int):=fun hin=>by
      have h4:jO m ((l.erase (m:Int)).erase (m:Int)):=fun i hi=>(List.mem_erase_of_ne (by omega)).2 (h1 i hi)
      have h5:=qP _ _ h4;have h6:=List.length_erase_of_mem hin;have h7:=List.length_pos_of_mem hin;omega
    exact(List.perm_cons_erase hm).nodup_iff.2 (List.nodup_cons.2 ⟨hno,h2⟩)
theorem rL {d:bK}(hs:s<d.next.length) (c:UInt8):(d.row s)[c.toNat]? =some (d.to s c):=by
  have hr:d.next[s]? =some (d.next[s]'hs):=List.getElem?_eq_getElem _
  obtain⟨x,hx,he,_⟩:=(d.next[s]'hs).at c;unfold bK.row bK.to;rw[hr];simp only;rw[he];exact hx
theorem Av {d:bK}(hs:s<d.next.length):(d.row s).length=256:=by
  have hr:d.next[s]? =some (d.next[s]'hs):=List.getElem?_eq_getElem _
  unfold bK.row;rw[hr];exact(d.next[s]'hs).len
theorem Fc {d:bK}{t:Nat}(hs:s<d.next.length) (ht:t<d.next.length) (f:Int->Int):(d.row s).map f=(d.row t).map f↔∀c:UInt8,f (d.to s c)=f (d.to t c):=by
  constructor
  · intro e c;have:=congrArg (fun l=>l[c.toNat]?) e;simp only[List.getElem?_map,rL hs c,rL ht c,Option.map_some,Option.some.injEq] at this;exact this
  · intro h
    apply List.ext_getElem?
    intro i
    by_cases hi:i<256
    · have hc:(UInt8.ofNat i).toNat=i:=by simp;omega
      have h1:=rL hs (UInt8.ofNat i);have h2:=rL ht (UInt8.ofNat i);rw[hc] at h1 h2;rw[List.getElem?_map,List.getElem?_map,h1,h2,Option.map_some,Option.map_some,h]
    · rw[List.getElem?_eq_none (by rw[List.length_map,Av hs];omega),List.getElem?_eq_none (by rw[List.length_map,Av ht];omega)]
def Alike (d:bK) (a b:Int):Prop:=∀w,d.fR a w=d.fR b w
theorem E8 {d:bK}(hok:d.Ok) (a:Int) (w:By) : -1<=d.fR a w:=by
  unfold bK.fR;split
  · omega
  · unfold bK.ru;rw[List.getD_eq_getElem?_getD];cases h:d.rule[(d.go w a).toNat]? with
    |none=>decide
    |some x=>exact(hok.ru x (List.mem_of_getElem? h)).1
theorem jK {d:bK}(hok:d.Ok){a:Int}(ha:a<d.next.length):(a<0\/(br d).getD a.toNat false=false)↔∀w,d.fR a w= -1:=by
  constructor
  · intro h w
    rcases h with h|h
    · exact kZ d w h
    · by_cases hn:a<0
      · exact kZ d w hn
      · obtain⟨k,rfl⟩:=Int.eq_ofNat_of_zero_le (show 0<=a by omega);have hl:=wA hok (k:=k) (by omega);have hg:=E8 hok (k:Int) w
        by_cases hw:0<=d.fR (k:Int) w
        · rw[Int.toNat_natCast,hl.2 ⟨w,hw⟩] at h;cases h
        · omega
  · intro h
    by_cases hn:a<0
    · exact .inl hn
    · right
      obtain⟨k,rfl⟩:=Int.eq_ofNat_of_zero_le (show 0<=a by omega);have hl:=wA hok (k:=k) (by omega);rw[Int.toNat_natCast];cases hb:(br d).getD k false with
      |false=>rfl
      |true =>
        obtain⟨w,hw⟩:=hl.1 hb;have:=h w;omega
structure uF (d:bK) (cls:List Int):Prop where
  len:cls.length=d.next.length
  ge:∀k,-1<=cls.getD k 0
  alike:∀s t:Nat,s<d.next.length->t<d.next.length->Alike d s t->cls.getD s 0=cls.getD t 0
  rule:∀s t:Nat,s<d.next.length->t<d.next.length->cls.getD s 0=cls.getD t 0->d.ru s=d.ru t
theorem Bl {d:bK}(hok:d.Ok) (k:uF d cls){a b:Int}(ha:a<d.next.length) (hb:b<d.next.length) (h:Alike d a b):bW (br d) cls a=bW (br d) cls b:=by
  by_cases hd:a<0\/(br d).getD a.toNat false=false
  · have hd':b<0\/(br d).getD b.toNat false=false:=(jK hok hb).2 fun w=>by rw[<-h w];exact(jK hok ha).1 hd w
    rw[bW,if_pos hd,bW,if_pos hd']
  · have hd':¬(b<0\/(br d).getD b.toNat false=false):=fun e=>hd ((jK hok ha).2 fun w=>by rw[h w];exact(jK hok hb).1 e w)
    rw[bW,if_neg hd,bW,if_neg hd']
    have ha0:0<=a:=by
      by_cases e:a<0
      · exact absurd (.inl e) hd
      · omega
    have hb0:0<=b:=by
      by_cases e:b<0
      · exact absurd (.inl e) hd'
      · omega
    exact k.alike a.toNat b.toNat (by omega) (by omega) (by rw[Int.toNat_of_nonneg ha0,Int.toNat_of_nonneg hb0];exact h)
theorem GO {d:bK}(hok:d.Ok) (k:uF d cls){t:Nat}(hs:s<d.next.length) (ht:t<d.next.length) (h:Alike d s t):fA d (br d) cls s=fA d (br d) cls t:=by
  unfold fA;rw[k.alike s t hs ht h,(Fc hs ht _).2 fun c=>Bl hok k (bK.rq hok c).2 (bK.rq hok c).2 fun w=>by rw[<-dX,<-dX];exact h (c::w)]
theorem CB {d:bK}{t:Nat}(h:fA d live cls s=fA d live cls t):cls.getD s 0=cls.getD t 0:=by
  unfold fA at h;exact(List.cons.inj h).1
theorem IA {d:bK}(hok:d.Ok) (k:uF d cls):uF d (bg d (br d) cls d.next.length 0 [] []).2:=by
  have hend:=eT d (br d) cls;refine⟨hend.len,fun j=>?_,fun s t hs ht h=>(kP hs ht).2 (GO hok k hs ht h),fun s t hs ht h=>k.rule s t hs ht (CB ((kP hs ht).1 h))⟩;rw[List.getD_eq_getElem?_getD];cases hx:(bg d (br d) cls d.next.length 0 [] []).2[j]? with
  |none=>decide
  |some x=>have:=hend.bound x (List.mem_of_getElem? hx);show -1<=x;omega
theorem uS {d:bK}(hok:d.Ok) (hs:s<d.next.length):d.rule.getD s 0=d.ru s:=by
  have hl:=hok.len;unfold bK.ru;rw[List.getD_eq_getElem?_getD,List.getD_eq_getElem?_getD,List.getElem?_eq_getElem (by omega)];rfl
theorem Io {d:bK}(hok:d.Ok):uF d d.rule:=by
  refine⟨hok.len,fun k=>?_,fun s t hs ht h=>?_,fun s t hs ht h=>?_⟩
  · rw[List.getD_eq_getElem?_getD];cases hx:d.rule[k]? with
    |none=>decide
    |some x=>exact(hok.ru x (List.mem_of_getElem? hx)).1
  · rw[uS hok hs,uS hok ht];have:=h []
    rwa [dM,dM] at this
  · rwa [uS hok hs,uS hok ht] at h
theorem rF {d:bK}(hok:d.Ok){cls:List Int}(k:uF d cls) (hst:∀s t,s<d.next.length->t<d.next.length->cls.getD s 0=cls.getD t 0->fA d (br d) cls s=fA d (br d) cls t):∀(w:By) (s t:Nat),s<d.next.length->t<d.next.length->cls.getD s 0=cls.getD t 0->d.fR (s:Int) w=d.fR (t:Int) w
  | [],s,t,hs,ht,h=>by rw[dM,dM];exact k.rule s t hs ht h
  |c::w,s,t,hs,ht,h=>by
    rw[dX,dX];have hk:=hst s t hs ht h;unfold fA at hk;have hb:=(Fc hs ht _).1 (List.cons.inj hk).2 c;have ha:=(bK.rq hok (s:=s) c).2;have hb2:=(bK.rq hok (s:=t) c).2;generalize d.to s c=a at *;generalize d.to t c=b at *
    by_cases hd:a<0\/(br d).getD a.toNat false=false
    · have hd':b<0\/(br d).getD b.toNat false=false:=by
        by_cases e:b<0\/(br d).getD b.toNat false=false
        · exact e
        · rw[bW,if_pos hd,bW,if_neg e] at hb;have:=k.ge b.toNat;omega
      rw[(jK hok ha).1 hd w,(jK hok hb2).1 hd' w]
    · by_cases hd':b<0\/(br d).getD b.toNat false=false
      · rw[bW,if_neg hd,bW,if_pos hd'] at hb;have:=k.ge a.toNat;omega
      · rw[bW,if_neg hd,bW,if_neg hd'] at hb
        have ha0:0<=a:=by
          by_cases e:a<0
          · exact absurd (.inl e) hd
          · omega
        have hb0:0<=b:=by
          by_cases e:b<0
          · exact absurd (.inl e) hd'
          · omega
        have ih:=rF hok k hst w a.toNat b.toNat (by omega) (by omega) hb
        rwa [Int.toNat_of_nonneg ha0,Int.toNat_of_nonneg hb0] at ih
theorem uB {d:bK}(hok:d.Ok):∀(n many:Nat) (cls:List Int),uF d cls->jO many cls->many<=d.next.length->d.next.length+1<=n+many->uF d (kQ d (br d) n many cls)/\∀s t:Nat,s<d.next.length->t<d.next.length->(kQ d (br d) n many cls).getD s 0=(kQ d (br d) n many cls).getD t 0->Alike d s t
  | 0,many,cls,k,hc,hm,hf=>by omega
  |n+1,many,cls,k,hc,hm,hf=>by
    have hend:=eT d (br d) cls;have hmore:=oC (live:=br d) hc k.len;have hp:=IA hok k;rw[kQ];split
    · rename_i he;refine⟨hp,fun s t hs ht h w=>?_⟩;have hkey:=(kP hs ht).1 h;refine rF hok k (fun s t hs ht h=>?_) w s t hs ht (CB hkey)
      have hcov:jO many ((bg d (br d) cls d.next.length 0 [] []).1.map fun s=>s.getD 0 0):=fun i hi=>by
        obtain⟨k',hk'⟩:=List.getElem?_of_mem (hc i hi);have hkl:=(List.getElem?_eq_some_iff.1 hk').1;have:=hend.all k' (by have:=k.len;omega);refine List.mem_map.2 ⟨_,this,?_⟩;simp[fA,List.getD_eq_getElem?_getD,hk']
      have hon:=ux many _ hcov (by simpa using he);obtain⟨i,hi⟩:=List.getElem?_of_mem (hend.all s hs);obtain⟨j,hj⟩:=List.getElem?_of_mem (hend.all t ht);have h1:((bg d (br d) cls d.next.length 0 [] []).1.map fun s=>s.getD 0 0)[i]? =some (cls.getD s 0):=by rw[List.getElem?_map,hi];rfl
      have h2:((bg d (br d) cls d.next.length 0 [] []).1.map fun s=>s.getD 0 0)[j]? =some (cls.getD s 0):=by rw[List.getElem?_map,hj,h];rfl
      obtain⟨hi1,hi2⟩:=List.getElem?_eq_some_iff.1 h1;obtain⟨hj1,hj2⟩:=List.getElem?_eq_some_iff.1 h2
      have hij:i=j:=by
        rcases Nat.lt_trichotomy i j with e|e|e
        · exact absurd (hi2.trans hj2.symm) (List.pairwise_iff_getElem.1 hon i j hi1 hj1 e)
        · exact e
        · exact absurd (hj2.trans hi2.symm) (List.pairwise_iff_getElem.1 hon j i hj1 hi1 e)
      subst hij;rw[hi] at hj;exact Option.some.inj hj
    · rename_i hne;have hsz:=hend.size;exact uB hok n _ _ hp hend.nums hsz (by omega)
theorem oD {d:bK}(hok:d.Ok){t:Nat}(hs:s<d.next.length) (ht:t<d.next.length):(dS d (br d)).getD s 0=(dS d (br d)).getD t 0↔Alike d s t:=by
  have h:=uB hok (d.next.length+1) 0 d.rule (Io hok) (fun i hi=>absurd hi (Nat.not_lt_zero _)) (Nat.zero_le _) (by omega);exact⟨h.2 s t hs ht,h.1.alike s t hs ht⟩
def J0 (d e:bK) (a b:Int):Prop:=∀w,d.fR a w=e.fR b w
inductive EV (d e:bK):List Nat->List Nat->Prop
  |nil:EV d e [] []
  |cons {x y:Nat}{o p:List Nat}:x<d.next.length->y<e.next.length->J0 d e x y->EV d e o p->EV d e (x::o) (y::p)
theorem Cf:of <+: (cF live cls of t).1:=by
  unfold cF;split
  · exact List.prefix_refl _
  · split
    · exact List.prefix_refl _
    · exact List.prefix_append _ _
theorem qy {live:List Bool}{cls:List Int}:∀(r:List Int) (of:List Nat) (row:List Int),of <+: (fT live cls r of row).1
  | [],of,row=>List.prefix_refl _
  |t::r,of,row=>by
    rw[fT];exact Cf.trans (qy r _ _)
theorem Ml {d:bK}(hd:d.Ok) (k:Nat):∀t∈d.row k,t<(d.next.length:Int):=fun t ht=>by
  obtain⟨c,rfl⟩:=Ip ht;exact(bK.rq hd c).2
def qV (d:bK) (of:List Nat) (t y:Int):Prop:=((∀w,d.fR t w= -1)/\y= -1)\/((∃w,0<=d.fR t w)/\∃(i x:Nat),y=(i:Int)/\of[i]? =some x/\Alike d t x)
theorem qV.mono {d:bK}{of':List Nat}{y:Int}(k:qV d of t y) (h:of <+: of'):qV d of' t y:=by
  rcases k with k|⟨k,i,x,e,hi,ha⟩
  · exact .inl k
  · obtain⟨l,rfl⟩:=h;exact .inr ⟨k,i,x,e,by rw[List.getElem?_append_left (List.getElem?_eq_some_iff.1 hi).1];exact hi,ha⟩
def OW (d:bK) (of:List Nat):Prop:=∀(i j x y:Nat),of[i]? =some x->of[j]? =some y->Alike d x y->i=j
structure OS (d:bK) (of:List Nat):Prop where
  ok:Dh d.next.length of
  apart:OW d of
theorem Ce {d:bK}(hd:d.Ok) (k:OS d of) (ht:t<d.next.length) :
    OS d (cF (br d) (dS d (br d)) of t).1/\qV d (cF (br d) (dS d (br d)) of t).1 t (cF (br d) (dS d (br d)) of t).2:=by
  have hdead:=jK hd ht;have hok:=wh (live:=br d) (cls:=dS d (br d)) k.ok ht
  revert hok
  unfold cF;split
  · rename_i h;exact fun _=>⟨k,.inl ⟨hdead.1 h,rfl⟩⟩
  · rename_i h
    have halive:∃w,0<=d.fR t w:=by
      by_cases q:∃w,0<=d.fR t w
      · exact q
      · refine absurd (hdead.2 fun w=>?_) h;have h1:=E8 hd t w;have h2:¬0<=d.fR t w:=fun z=>q ⟨w,z⟩
        omega
    obtain⟨n,rfl⟩:=Int.eq_ofNat_of_zero_le (show 0<=t by omega);simp only[Int.toNat_natCast];split
    · rename_i i hi;intro _;obtain⟨_,x,hx,he⟩:=xh of 0 i _ hi;have hxl:=k.ok.lt x (List.mem_of_getElem? hx);exact⟨k,.inr ⟨halive,i,x,rfl,by simpa using hx,(oD hd (by omega) hxl).1 he⟩⟩
    · rename_i hi;intro hok;have hne:=qJ of 0 _ hi;refine⟨⟨hok,fun i j x y hx hy ha=>?_⟩,.inr ⟨halive,of.length,n,rfl,by simp,fun w=>rfl⟩⟩
      have hcase:∀(i x:Nat),(of++[n])[i]? =some x->(i<of.length/\of[i]? =some x)\/(i=of.length/\x=n):=fun i x hx=>by
        rcases Nat.lt_or_ge i of.length with hl|hl
        · rw[List.getElem?_append_left hl] at hx;exact .inl ⟨hl,hx⟩
        · have:=(List.getElem?_eq_some_iff.1 hx).1;simp at this;have hil:i=of.length:=by omega
          subst hil;simp only[List.getElem?_concat_length,Option.some.injEq] at hx;exact .inr ⟨rfl,hx.symm⟩
      rcases hcase i x hx with ⟨h1,h2⟩|⟨h1,h2⟩<;>rcases hcase j y hy with ⟨h3,h4⟩|⟨h3,h4⟩
      · exact k.apart i j x y h2 h4 ha
      · subst h4;have hxm:=List.mem_of_getElem? h2;exact absurd ((oD hd (by omega) (k.ok.lt x hxm)).2 fun w=>(ha w).symm) (hne x hxm)
      · subst h2;have hym:=List.mem_of_getElem? h4;exact absurd ((oD hd (by omega) (k.ok.lt y hym)).2 ha) (hne y hym)
      · omega
theorem wj {d:bK}(hd:d.Ok):∀(r:List Int) (of:List Nat) (row:List Int),OS d of->(∀t∈r,t<(d.next.length:Int)) ->
    OS d (fT (br d) (dS d (br d)) r of row).1/\∃ys,(fT (br d) (dS d (br d)) r of row).2=row++ys/\ys.length=r.length/\∀(j:Nat) (t y:Int),r[j]? =some t->ys[j]? =some y->qV d (fT (br d) (dS d (br d)) r of row).1 t y
  | [],of,row,k,_=>⟨k,[],by simp[fT],rfl,fun j t y h=>by simp at h⟩
  |t::r,of,row,k,h=>by
    obtain⟨h1,h2⟩:=Ce hd k (h t (by simp));obtain⟨k1,ys,k3,k4,k5⟩:=wj hd r (cF (br d) (dS d (br d)) of t).1 (row++[(cF (br d) (dS d (br d)) of t).2]) h1 (fun u hu=>h u (by simp[hu]));rw[fT];refine⟨k1,(cF (br d) (dS d (br d)) of t).2::ys,by rw[k3];simp,by simp[k4],fun j u y hu hy=>?_⟩;cases j with
    |zero =>
      simp only[List.getElem?_cons_zero,Option.some.injEq] at hu hy;subst hu;subst hy;exact h2.mono (qy _ _ _)
    |succ j=>exact k5 j u y (by simpa using hu) (by simpa using hy)
structure ye (d:bK) (of:List Nat) (m:bK):Prop where
  rep:OS d of
  first:of[0]? =some 0
  rlen:m.rule.length=m.next.length
  row:∀(k:Nat) (r:Row) (x:Nat),m.next[k]? =some r->of[k]? =some x->∀(c:UInt8) (y:Int),r.v[c.toNat]? =some y->qV d of (d.to x c) y
  rule:∀(k:Nat) (y:Int) (x:Nat),m.rule[k]? =some y->of[k]? =some x->y=d.ru x
theorem Cg {d:bK}(hd:d.Ok):∀(n i:Nat) (of:List Nat) (next:List Row) (rule:List Int),ye d of ⟨next,rule⟩->next.length=i->i<=of.length->n+i=d.next.length+1 ->
    ∃of',ye d of' (Ch d (br d) (dS d (br d)) n i of next rule)/\of'.length=(Ch d (br d) (dS d (br d)) n i of next rule).next.length
  | 0,i,of,next,rule,h,hi,hio,hn=>by have:=h.rep.ok.len;omega
  |n+1,i,of,next,rule,h,hi,hio,hn=>by
    rw[Ch];split
    · rename_i hnone;have:=List.getElem?_eq_none_iff.1 hnone;exact⟨of,h,by show of.length=next.length;omega⟩
    · rename_i x hx;have hxl:=h.rep.ok.lt x (List.mem_of_getElem? hx);obtain⟨k1,ys,k3,k4,k5⟩:=wj hd (d.row x) of [] h.rep (Ml hd x);have hpre:=qy (live:=br d) (cls:=dS d (br d)) (d.row x) of [];rw[Av hxl] at k4;have hol:=(List.getElem?_eq_some_iff.1 hx).1;generalize fT (br d) (dS d (br d)) (d.row x) of []=q at *
      have hb:∀(j y:Nat),j<of.length->q.1[j]? =some y->of[j]? =some y:=fun j y hj hy=>by
        obtain⟨t,ht⟩:=hpre;rw[<-ht,List.getElem?_append_left hj] at hy;exact hy
      have hf:∀(j y:Nat),of[j]? =some y->q.1[j]? =some y:=fun j y hy=>by
        obtain⟨t,ht⟩:=hpre;rw[<-ht,List.getElem?_append_left (List.getElem?_eq_some_iff.1 hy).1];exact hy
      have hrl:rule.length=next.length:=h.rlen
      have hlen:=hpre.length_le;refine Cg hd n (i+1) _ _ _ ⟨k1,hf _ _ h.first,by simp[hrl],fun k r z hr hz c y hy=>?_,fun k y z hy hz=>?_⟩ (by simp[hi]) (by omega) (by omega)
      · rcases Nat.lt_or_ge k next.length with hk|hk
        · rw[List.getElem?_append_left hk] at hr;exact(h.row k r z hr (hb k z (by omega) hz) c y hy).mono hpre
        · have hkn:k=next.length:=by
            have:=(List.getElem?_eq_some_iff.1 hr).1;simp at this;omega
          subst hkn;simp only[List.getElem?_concat_length,Option.some.injEq] at hr;subst hr;have hzx:=hb _ z (by omega) hz;rw[hi,hx] at hzx;cases hzx;rw[k3,List.nil_append,uT k4] at hy;exact k5 c.toNat _ y (rL hxl c) hy
      · rcases Nat.lt_or_ge k rule.length with hk|hk
        · rw[List.getElem?_append_left hk] at hy;exact h.rule k y z hy (hb k z (by omega) hz)
        · have hkn:k=rule.length:=by
            have:=(List.getElem?_eq_some_iff.1 hy).1;simp at this;omega
          subst hkn;simp only[List.getElem?_concat_length,Option.some.injEq] at hy;subst hy;have hzx:=hb _ z (by omega) hz;rw[hrl,hi,hx] at hzx;cases hzx;rfl
theorem GA {d:bK}(hd:d.Ok) (hn:0<d.next.length):∃of,ye d of (lA d)/\of.length=(lA d).next.length:=by
  unfold lA;rw[if_neg (by omega)];refine Cg hd _ 0 [0] [] [] ⟨⟨⟨by simp,fun x hx=>by simp at hx;omega⟩,fun i j x y hx hy _=>?_⟩,rfl,rfl,fun k r x hr=>by simp at hr,fun k y x hy=>by simp at hy⟩ rfl (by simp) (by omega);have h1:=(List.getElem?_eq_some_iff.1 hx).1;have h2:=(List.getElem?_eq_some_iff.1 hy).1;simp at h1 h2;omega
theorem ye.to {d m:bK}{of:List Nat}(k:ye d of m) (hl:of.length=m.next.length){s x:Nat}(hx:of[s]? =some x) (c:UInt8):qV d of (d.to x c) (m.to s c):=by
  have hs:=(List.getElem?_eq_some_iff.1 hx).1;have hr:m.next[s]? =some (m.next[s]'(by omega)):=List.getElem?_eq_getElem _
  obtain⟨y,hy,he,_⟩:=(m.next[s]'(by omega)).at c;unfold bK.to;rw[hr];simp only;rw[he];exact k.row s _ x hr hx c y hy
theorem ye.ru {d m:bK}{of:List Nat}(k:ye d of m) (hl:of.length=m.next.length){s x:Nat}(hx:of[s]? =some x):m.ru s=d.ru x:=by
  have hs:=(List.getElem?_eq_some_iff.1 hx).1;have hlt:s<m.rule.length:=by rw[k.rlen];omega
  have hr:m.rule[s]? =some (m.rule[s]'hlt):=List.getElem?_eq_getElem _;have:=k.rule s _ x hr hx;unfold bK.ru at this ⊢;rw[List.getD_eq_getElem?_getD,hr];exact this
theorem ye.fR {d m:bK}{of:List Nat}(k:ye d of m) (hl:of.length=m.next.length):∀(w:By) (s x:Nat),of[s]? =some x->m.fR (s:Int) w=d.fR (x:Int) w
  | [],s,x,hx=>by rw[dM,dM,k.ru hl hx]
  |c::w,s,x,hx=>by
    rw[dX,dX]
    rcases k.to hl hx c with ⟨h1,h2⟩|⟨_,i,y,h2,h3,h4⟩
    · rw[h2,kZ m w (by decide),h1]
    · rw[h2,k.fR hl w i y h3,h4]
theorem ye.QO {d m:bK}(hd:d.Ok) (k:ye d of m) (hl:of.length=m.next.length):m.Ok:=by
  refine⟨k.rlen,by have:=k.rep.ok.len;have:=hd.size;omega,fun r hr x hx=>?_,fun x hx=>?_⟩
  · obtain⟨i,hi⟩:=List.getElem?_of_mem hr;obtain⟨j,hj⟩:=List.getElem?_of_mem hx;have hil:=(List.getElem?_eq_some_iff.1 hi).1;have hjl:=(List.getElem?_eq_some_iff.1 hj).1;rw[r.len] at hjl;have hc:(UInt8.ofNat j).toNat=j:=by simp;omega
    obtain⟨y,hy⟩:∃y,of[i]? =some y:=⟨_,List.getElem?_eq_getElem (by omega)⟩
    rcases k.row i r y hi hy (UInt8.ofNat j) x (by rw[hc];exact hj) with ⟨_,rfl⟩|⟨_,a,z,rfl,h3,_⟩
    · omega
    · have:=(List.getElem?_eq_some_iff.1 h3).1;omega
  · obtain⟨i,hi⟩:=List.getElem?_of_mem hx;have hil:=(List.getElem?_eq_some_iff.1 hi).1;have:=k.rlen;obtain⟨y,hy⟩:∃y,of[i]? =some y:=⟨_,List.getElem?_eq_getElem (by omega)⟩
    rw[k.rule i x y hi hy];unfold bK.ru;rw[List.getD_eq_getElem?_getD];cases h:d.rule[y]? with
    |none=>show -1<=(-1:Int)/\(-1:Int)<=1000000;omega
    |some v=>exact hd.ru v (List.mem_of_getElem? h)
def Trim (m:bK):Prop:=∀(s:Nat) (c:UInt8),s<m.next.length->0<=m.to s c->∃w,0<=m.fR (m.to s c) w
theorem s8 {d:bK}(hd:d.Ok) (hn:0<d.next.length):(lA d).Ok/\0<(lA d).next.length/\(lA d).next.length<=d.next.length/\J0 (lA d) d 0 0/\Trim (lA d):=by
  obtain⟨of,k,hl⟩:=GA hd hn;have h0:=(List.getElem?_eq_some_iff.1 k.first).1;refine⟨k.QO hd hl,by omega,by have:=k.rep.ok.len;omega,fun w=>k.fR hl w 0 0 k.first,fun s c hs h=>?_⟩;obtain⟨x,hx⟩:∃x,of[s]? =some x:=⟨_,List.getElem?_eq_getElem (by omega)⟩
  rcases k.to hl hx c with ⟨h1,h2⟩|⟨⟨w,hw⟩,i,y,h2,h3,h4⟩
  · rw[h2] at h;omega
  · exact⟨w,by rw[h2,k.fR hl w i y h3,<-h4];exact hw⟩
theorem sA (d:bK):∀(l:By) (s k:Nat) (b:Int×Int),(∀w,d.fR (s:Int) w= -1)->(aL d l s k b).1=b.1/\(aL d l s k b).2.1=b.2/\(k:Int)<=(aL d l s k b).2.2
  | [],s,k,b,h=>by
    have h0:=h [];rw[dM] at h0;rw[aL,if_neg (by omega)];exact⟨rfl,rfl,Int.le_refl _⟩
  |c::l,s,k,b,h=>by
    have h0:=h [];rw[dM] at h0;rw[aL,if_neg (by omega:¬0<=d.ru s),if_neg (by omega:¬0<=d.ru s)];split
    · rename_i hp;have:=sA d l (d.to s c).toNat (k+1) b (fun w=>by rw[Int.toNat_of_nonneg hp,<-dX];exact h (c::w));exact⟨this.1,this.2.1,by have:=this.2.2;omega⟩
    · exact⟨rfl,rfl,Int.le_refl _⟩
theorem mD {d m:bK}(hd:d.Ok) (hm:m.Ok) (ht:Trim m):∀(l:By) (s t k:Nat) (b:Int×Int),s<d.next.length->t<m.next.length->J0 d m s t ->
    (aL d l s k b).1=(aL m l t k b).1/\(aL d l s k b).2.1=(aL m l t k b).2.1/\(aL m l t k b).2.2<=(aL d l s k b).2.2
  | [],s,t,k,b,hs,htl,h=>by
    have h0:=h [];rw[dM,dM] at h0;rw[aL,aL,h0];exact⟨rfl,rfl,Int.le_refl _⟩
  |c::l,s,t,k,b,hs,htl,h=>by
    have h0:=h [];rw[dM,dM] at h0;have hl:J0 d m (d.to s c) (m.to t c):=fun w=>by rw[<-dX,<-dX];exact h _
    have h1:=bK.rq hd (s:=s) c;have h2:=bK.rq hm (s:=t) c;rw[aL,aL,h0]
    by_cases hmt:0<=m.to t c
    · obtain⟨w,hw⟩:=ht t c htl hmt
      have hdt:0<=d.to s c:=by
        by_cases e:d.to s c<0
        · rw[<-hl w,kZ d w e] at hw;omega
        · omega
      rw[if_pos hmt,if_pos hdt];exact mD hd hm ht l _ _ _ _ (by omega) (by omega) (fun w=>by rw[Int.toNat_of_nonneg hmt,Int.toNat_of_nonneg hdt];exact hl w)
    · rw[if_neg hmt]
      by_cases hdt:0<=d.to s c
      · rw[if_pos hdt];have hdd:=sA d l (d.to s c).toNat (k+1) (if 0<=m.ru t then ((k:Int),m.ru t) else b) (fun w=>by rw[Int.toNat_of_nonneg hdt,hl w];exact kZ m w (by omega));obtain⟨d1,d2,d3⟩:=hdd;rw[d1,d2];generalize (aL d l (d.to s c).toNat (k+1) (if 0<=m.ru t then ((k:Int),m.ru t) else b)).2.2=z at *;split
        · exact⟨rfl,rfl,by show (k:Int)<=_;omega⟩
        · exact⟨rfl,rfl,by show (k:Int)<=_;omega⟩
      · rw[if_neg hdt];exact⟨rfl,rfl,Int.le_refl _⟩
theorem DD {d m:bK}(hd:d.Ok) (hm:m.Ok) (ht:Trim m) (hd0:0<d.next.length) (hm0:0<m.next.length) (hl:J0 d m 0 0) (s:By) (a:Int) :
    (de d s a).1=(de m s a).1/\(de d s a).2.1=(de m s a).2.1/\(de m s a).2.2<=(de d s a).2.2:=by
  unfold de
  by_cases ha:a<0\/(s.length:Int)<a
  · rw[if_pos (.inr ha),if_pos (.inr ha)];exact⟨rfl,rfl,Int.le_refl _⟩
  · rw[if_neg (by omega),if_neg (by omega)];exact mD hd hm ht (s.drop a.toNat) 0 0 0 (0,-1) hd0 hm0 hl
theorem oO.to {ss:List bA}{st0:Nat}{L:List (List Nat)}{d:bK}(k:oO ss st0 L d) (hL:L.length=d.next.length){st:Nat}{now:List Nat}(hn:L[st]? =some now) (c:UInt8):ym L (cB ss c now) (d.to st c):=by
  have hl:=(List.getElem?_eq_some_iff.1 hn).1;have hr:d.next[st]? =some (d.next[st]'(by omega)):=List.getElem?_eq_getElem _
  obtain⟨x,hx,he,hm⟩:=(d.next[st]'(by omega)).at c;unfold bK.to;rw[hr];simp only;rw[he];have:=k.row st _ now hr hn c.toNat x hx
  rwa [UInt8.ofNat_toNat] at this
theorem oO.ru {ss:List bA}{st0:Nat}{L:List (List Nat)}{d:bK}(k:oO ss st0 L d) (hL:L.length=d.next.length){st:Nat}{now:List Nat}(hn:L[st]? =some now):d.ru st=bh ss now:=by
  have hl:=(List.getElem?_eq_some_iff.1 hn).1;have hlt:st<d.rule.length:=by rw[k.rlen];omega
  have hr:d.rule[st]? =some (d.rule[st]'hlt):=List.getElem?_eq_getElem _;have:=k.rule st _ now hr hn;unfold bK.ru;rw[List.getD_eq_getElem?_getD,hr];exact this
theorem uq {ss:List bA}{st0:Nat}{L:List (List Nat)}{d:bK}(k:oO ss st0 L d) (hL:L.length=d.next.length):∀(l:By) (st j:Nat) (now:List Nat) (b:Int×Int),L[st]? =some now->now.length≠0 ->
    ((aL d l st j b).1,(aL d l st j b).2.1)=jD ss l now j b
  | [],st,j,now,b,hn,h0=>by
    rw[aL,jD,if_neg h0,k.ru hL hn];split<;>rfl
  |c::l,st,j,now,b,hn,h0=>by
    rw[aL,jD,if_neg h0,k.ru hL hn]
    rcases k.to hL hn c with ⟨e,h⟩|⟨e,i,h,hi⟩
    · rw[h,if_neg (by decide),wk e];split<;>rfl
    · rw[h,if_pos (by omega),Int.toNat_natCast];exact uq k hL l i (j+1) _ _ hi e
theorem mE {d:bK}(h:gI ss st= .inr d) (hs:ss.length≠0) (l:By):((aL d l 0 0 (0,-1)).1,(aL d l 0 0 (0,-1)).2.1)=cX ss st l:=by
  obtain⟨h0,L,h1,h2,_⟩:=jn h;rw[cX,if_neg hs];exact uq h1 h2 l 0 0 _ _ h1.first h0
theorem qg (d:bK):∀(l:By) (st k:Nat) (b:Int×Int),b.1<=k->(aL d l st k b).1<=(aL d l st k b).2.2/\(aL d l st k b).2.2<=k+l.length
  | [],st,k,b,h=>by
    rw[aL];split
    · exact⟨Int.le_refl _,by simp⟩
    · exact⟨h,by simp⟩
  |c::l,st,k,b,h=>by
    rw[aL];split
    · have hb:(if 0<=d.ru st then ((k:Int),d.ru st) else b).1<=((k+1:Nat):Int):=by
        split
        · show (k:Int)<=_;omega
        · omega
      have:=qg d l (d.to st c).toNat (k+1) _ hb;rw[List.length_cons];exact⟨this.1,by have:=this.2;omega⟩
    · split
      · exact⟨Int.le_refl _,by show (k:Int)<=_;omega⟩
      · exact⟨h,by show (k:Int)<=_;omega⟩
theorem vX {α:Type}[DecidableEq α]:∀(l m:List α),l.Nodup->(∀x∈l,x∈m)->l.length<=m.length
  | [],m,_,_=>Nat.zero_le _
  |a::l,m,h,hs=>by
    rw[List.nodup_cons] at h;have ha:=hs a (by simp);have:=vX l (m.erase a) h.2 (fun x hx=>(List.mem_erase_of_ne (fun e=>h.1 (by rw[<-e];exact hx))).2 (hs x (by simp[hx])));have h2:=List.length_erase_of_mem ha;have h3:=List.length_pos_of_mem ha;simp only[List.length_cons];omega
def K0 (ss:List bA) (S:List (List Nat)):Prop:=∀T∈S,∀c:UInt8,(cB ss c T).length=0\/cB ss c T∈S
theorem Fe {ss:List bA}{S:List (List Nat)}{cur:List Nat}(hS:K0 ss S) (hc:cur∈S):∀(n b:Nat) (lists:List (List Nat)) (row:List Int),(∀T∈lists,T∈S)->∀T∈(lZ ss cur n b lists row).1,T∈S
  | 0,b,lists,row,h=>h
  |n+1,b,lists,row,h=>by
    rw[lZ];refine Fe hS hc n (b+1) _ _ fun T hT=>?_
    unfold dI at hT;split at hT
    · exact h T hT
    · rename_i hne;split at hT
      · exact h T hT
      · rcases List.mem_append.1 hT with k|k
        · exact h T k
        · rw[List.mem_singleton.1 k];exact(hS cur hc (UInt8.ofNat b)).resolve_left hne
theorem uu {ss:List bA}{S:List (List Nat)}(hS:K0 ss S) (hlen:S.length<=2000):∀(n k:Nat) (lists:List (List Nat)) (next:List Row) (rule:List Int),lists.Nodup->(∀T∈lists,T∈S)->k<=lists.length->2002<=n+k->∃d,kN ss n k lists next rule=some d
  | 0,k,lists,next,rule,hn,hin,hk,hf=>by
    have:=vX lists S hn hin;omega
  |n+1,k,lists,next,rule,hn,hin,hk,hf=>by
    rw[kN];split
    · exact⟨_,rfl⟩
    · rename_i cur hcur;have hkl:=(List.getElem?_eq_some_iff.1 hcur).1;obtain⟨h1,h2,_⟩:=s4 ss cur 256 0 lists [] hn;have h3:=Fe hS (hin cur (List.mem_of_getElem? hcur)) 256 0 lists [] hin;have h4:=vX _ S h2 h3;have h5:=h1.length_le;rw[if_neg (by omega)];exact uu hS hlen n (k+1) _ _ _ h2 h3 (by omega) (by omega)
theorem CT {S:List (List Nat)}(hS:K0 ss S) (hlen:S.length<=2000) (h0:(bX ss st).length≠0) (hst:bX ss st∈S):∃d,gI ss st= .inr d:=by
  obtain⟨d,hd⟩:=uu hS hlen 2002 0 [bX ss st] [] [] (by simp) (fun T hT=>by rw[List.mem_singleton.1 hT];exact hst) (Nat.zero_le _) (Nat.le_refl _);refine⟨d,?_⟩;unfold gI;rw[if_neg h0,hd]
theorem sV {ss:List bA}{c r:UInt8}(h:∀x∈ss,x.set.testBit c.toNat=x.set.testBit r.toNat):∀(l a:List Nat),stepG ss c l a=stepG ss r l a
  | [],a=>rfl
  |j::l,a=>by
    rw[stepG,stepG];cases hx:ss[j]? with
    |none=>exact sV h l a
    |some x =>
      simp only;rw[show jz x c=jz x r by unfold jz;rw[h x (List.mem_of_getElem? hx)]];exact sV h l _
theorem F9 {c r:UInt8}(h:∀x∈ss,x.set.testBit c.toNat=x.set.testBit r.toNat) (T:List Nat):cB ss c T=cB ss r T:=by
  unfold cB;rw[sV h]
def A3:List (List Nat×Nat)->List Nat->Option Nat
  | [],_=>none
  |(T,h)::l,U=>if T=U then some h else A3 l U
theorem wS:∀{l:List (List Nat×Nat)}{U:List Nat}{h:Nat},A3 l U=some h->(U,h)∈l
  | [],U,h,e=>by cases e
  |(T,h')::l,U,h,e=>by
    rw[A3] at e;split at e
    · rename_i k;cases e;subst k;simp
    · exact List.mem_cons_of_mem _ (wS e)
def FE (ss:List bA) (H:List (List Nat×Nat)) (T:List Nat) (h:Nat) (r:UInt8):Bool :=
  (cB ss r T).isEmpty ||match A3 H (cB ss r T) with
    |none=>false
    |some h'=>decide (0<=bh ss (cB ss r T)) ||decide ((if 0<=bh ss T then 0 else h)+1<=h')
def qT (ss:List bA) (H:List (List Nat×Nat)) (reps:List UInt8):Bool:=H.all fun p=>decide (p.2<=2) && reps.all fun r=>FE ss H p.1 p.2 r
def jo (ss:List bA) (tab:List UInt8) (reps:List UInt8):Bool:=decide (tab.length=256) && (List.range 256).all fun b=>reps.contains (tab.getD b 0) && ss.all fun x=>x.set.testBit b ==x.set.testBit (tab.getD b 0).toNat
theorem KW (h:jo ss tab reps=true) (c:UInt8):∃r∈reps,∀x∈ss,x.set.testBit c.toNat=x.set.testBit r.toNat:=by
  unfold jo at h;rw[Bool.and_eq_true] at h;have h2:=List.all_eq_true.1 h.2 c.toNat (List.mem_range.2 c.toNat_lt);rw[Bool.and_eq_true] at h2;exact⟨_,by simpa using h2.1,fun x hx=>by simpa using List.all_eq_true.1 h2.2 x hx⟩
theorem CW {H:List (List Nat×Nat)}(hr:jo ss tab reps=true) (ha:qT ss H reps=true){T:List Nat}{h:Nat}(hT:(T,h)∈H) (c:UInt8) :
    (cB ss c T).length=0\/∃h',(cB ss c T,h')∈H/\h'<=2/\(0<=bh ss (cB ss c T)\/(if 0<=bh ss T then 0 else h)+1<=h'):=by
  obtain⟨r,hrm,hx⟩:=KW hr c;rw[F9 hx];have h1:=List.all_eq_true.1 ha _ hT;rw[Bool.and_eq_true] at h1;have h2:=List.all_eq_true.1 h1.2 r hrm;simp only[FE,Bool.or_eq_true,List.isEmpty_iff] at h2
  rcases h2 with h2|h2
  · left;rw[h2];rfl
  · right
    cases hh:A3 H (cB ss r T) with
    |none=>rw[hh] at h2;cases h2
    |some h' =>
      rw[hh] at h2;simp only[Bool.or_eq_true,decide_eq_true_eq] at h2;have hm:=wS hh;have h3:=List.all_eq_true.1 ha _ hm;rw[Bool.and_eq_true] at h3;exact⟨h',hm,of_decide_eq_true h3.1,h2⟩
theorem Jy {H:List (List Nat×Nat)}(hr:jo ss tab reps=true) (ha:qT ss H reps=true):K0 ss (H.map (·.1)):=fun T hT c=>by
  obtain⟨⟨T',h⟩,hm,rfl⟩:=List.mem_map.1 hT
  rcases CW hr ha hm c with k|⟨h',k,_⟩
  · exact .inl k
  · exact .inr (List.mem_map.2 ⟨_,k,rfl⟩)
theorem yW {ss:List bA}{st0:Nat}{L:List (List Nat)}{d:bK}(k:oO ss st0 L d) (hL:L.length=d.next.length){H:List (List Nat×Nat)}{tab reps:List UInt8}(hr:jo ss tab reps=true) (ha:qT ss H reps=true):∀(l:By) (s j:Nat) (b:Int×Int) (T:List Nat) (h:Nat),
    L[s]? =some T->(T,h)∈H->(j:Int)<=(if 0<=bh ss T then (j:Int) else b.1+h)->(aL d l s j b).2.2<=(aL d l s j b).1+2
  | [],s,j,b,T,h,hs,hm,hj=>by
    have h2:=List.all_eq_true.1 ha _ hm;rw[Bool.and_eq_true] at h2;have h3:=of_decide_eq_true h2.1;rw[aL,k.ru hL hs];split
    · show (j:Int)<=j+2;omega
    · rename_i hn;rw[if_neg hn] at hj
      show (j:Int)<=b.1+2
      simp only at h3;omega
  |c::l,s,j,b,T,h,hs,hm,hj=>by
    have h2:=List.all_eq_true.1 ha _ hm;rw[Bool.and_eq_true] at h2;have h3:=of_decide_eq_true h2.1;simp only at h3;rw[aL,k.ru hL hs]
    rcases k.to hL hs c with ⟨h1,e1⟩|⟨h1,i,e1,hi⟩
    · rw[e1,if_neg (by decide)];split
      · show (j:Int)<=j+2;omega
      · rename_i hn;rw[if_neg hn] at hj
        show (j:Int)<=b.1+2
        omega
    · rw[e1,if_pos (by omega),Int.toNat_natCast]
      rcases CW hr ha hm c with q|⟨h',q1,q2,q3⟩
      · exact absurd q h1
      · refine yW k hL hr ha l i (j+1) _ _ h' hi q1 ?_
        by_cases hacc:0<=bh ss (cB ss c T)
        · rw[if_pos hacc];omega
        · rw[if_neg hacc];have q4:=q3.resolve_left hacc
          by_cases ht:0<=bh ss T
          · rw[if_pos ht] at q4;rw[if_pos ht]
            show ((j+1:Nat):Int)<=(j:Int)+h'
            omega
          · rw[if_neg ht] at q4 hj;rw[if_neg ht];omega
end
end Go.Proofs.YtpjgdgdnbkjoiaaGreatDoor
namespace Go.Proofs.YtpjgdgdnbkjoiaaGreatDoor
open Go
set_option maxRecDepth 100000
def DO:List By:=[[91,32,92,116,92,114,93,43],[92,110],[91,97,45,122,65,45,90,95,93,91,97,45,122,65,45,90,48,45,57,95,93,42],[91,48,45,57,93,43,40,92,46,91,48,45,57,93,43,41,63,40,91,101,69,93,91,92,43,92,45,93,63,91,48,45,57,93,43,41,63],[47,47,91,94,92,110,93,42],[47,92,42],[34],[91,92,40,92,91,123,93],[91,92,41,92,93,125,93],[91,92,43,92,45,92,42,47,37,60,62,33,61,44,59,58,92,46,93,124,61,61,124,33,61,124,60,61,124,62,61,124,38,38,124,92,124,92,124,124,92,45,62]]
def An:List bA:=[⟨2,0,[],0⟩,⟨0,0,[2,0],0⟩,⟨1,4294976000,[1],0⟩,⟨2,0,[],1⟩,⟨1,1024,[3],0⟩,⟨2,0,[],2⟩,⟨0,0,[7,5],0⟩,⟨1,10633823849912963253799171395480977408,[6],0⟩,⟨1,10633823849912963253511222494305976320,[6],0⟩,⟨2,0,[],3⟩,⟨0,0,[11,9],0⟩,⟨1,287948901175001088,[10],0⟩,⟨1,43980465111040,[11],0⟩,⟨0,0,[12,11],0⟩,⟨1,2535301201046754613352112062464,[13],0⟩,⟨0,0,[14,9],0⟩,⟨0,0,[17,15],0⟩,⟨1,287948901175001088,[16],0⟩,⟨1,70368744177664,[17],0⟩,⟨0,0,[18,15],0⟩,⟨0,0,[21,19],0⟩,⟨1,287948901175001088,[20],0⟩,⟨2,0,[],4⟩,⟨0,0,[24,22],0⟩,⟨1,115792089237316195423570985008687907853269984665640564039457584007913129638911,[23],0⟩,⟨1,140737488355328,[23],0⟩,⟨1,140737488355328,[25],0⟩,⟨2,0,[],5⟩,⟨1,4398046511104,[27],0⟩,⟨1,140737488355328,[28],0⟩,⟨2,0,[],6⟩,⟨1,17179869184,[30],0⟩,⟨2,0,[],7⟩,⟨1,10633823968755207061801218131552632832,[32],0⟩,⟨2,0,[],8⟩,⟨1,42535295875020828247204870327187275776,[34],0⟩,⟨2,0,[],9⟩,⟨1,8935418883662151680,[36],0⟩,⟨1,2305843009213693952,[36],0⟩,⟨1,2305843009213693952,[38],0⟩,⟨1,2305843009213693952,[36],0⟩,⟨1,8589934592,[40],0⟩,⟨1,2305843009213693952,[36],0⟩,⟨1,1152921504606846976,[42],0⟩,⟨1,2305843009213693952,[36],0⟩,⟨1,4611686018427387904,[44],0⟩,⟨1,274877906944,[36],0⟩,⟨1,274877906944,[46],0⟩,⟨1,21267647932558653966460912964485513216,[36],0⟩,⟨1,21267647932558653966460912964485513216,[48],0⟩,⟨1,4611686018427387904,[36],0⟩,⟨1,35184372088832,[50],0⟩,⟨0,0,[37,39,41,43,45,47,49,51],0⟩,⟨0,0,[2,4,8,21,26,29,31,33,35,52],0⟩]
theorem O0:fh DO= .inr (An,53):=rfl
def Nn:List (List Nat×Nat):=[([2,4,8,21,26,29,31,33,35,37,39,41,43,45,47,49,51],0),([0,2],0),([3],0),([36,40],0),([30],0),([36],0),([46],1),([32],0),([34],0),([36,50],0),([25,28,36],0),([9,14,18,21],0),([36,42],0),([36,38],0),([36,44],0),([5,7],0),([48],1),([27],0),([22,24],0),([17],1),([11,12],1),([9,14,17],0),([11],2),([9,11],0)]
def Pd:List UInt8:=[0,0,0,0,0,0,0,0,0,9,10,0,0,9,0,0,0,0,0,0,0,0,0,0,0,0,0,0,0,0,0,0,9,33,34,0,0,37,38,0,40,41,42,43,37,45,46,47,48,48,48,48,48,48,48,48,48,48,37,37,60,61,62,0,0,65,65,65,65,69,65,65,65,65,65,65,65,65,65,65,65,65,65,65,65,65,65,65,65,65,65,40,0,41,0,65,0,65,65,65,65,69,65,65,65,65,65,65,65,65,65,65,65,65,65,65,65,65,65,65,65,65,65,40,124,41]++List.replicate 130 0
def LA:List UInt8:=[0,9,10,33,34,37,38,40,41,42,43,45,46,47,48,60,61,62,65,69,124]
def DN:List By:=[[91,94,34,92,92,92,110,93,43],[92,92,91,110,114,116,34,92,92,48,93],[34],[92,110]]
def Am:List bA:=[⟨2,0,[],0⟩,⟨0,0,[2,0],0⟩,⟨1,115792089237316195423570985008687907853269984665635612279300442486796353272831,[1],0⟩,⟨2,0,[],1⟩,⟨1,105144016337090416619545142419783680,[3],0⟩,⟨1,4951760157141521099596496896,[4],0⟩,⟨2,0,[],2⟩,⟨1,17179869184,[6],0⟩,⟨2,0,[],3⟩,⟨1,1024,[8],0⟩,⟨0,0,[2,5,7,9],0⟩]
theorem Kb:fh DN= .inr (Am,10):=rfl
def PX:List (List Nat×Nat):=[([2,5,7,9],0),([0,2],0),([8],0),([6],0),([4],1),([3],0)]
def Pc:List UInt8:=[0,0,0,0,0,0,0,0,0,0,10,0,0,0,0,0,0,0,0,0,0,0,0,0,0,0,0,0,0,0,0,0,0,0,34,0,0,0,0,0,0,0,0,0,0,0,0,0,48]++List.replicate 43 0++[92,0,0,0,0,0,0,0,0,0,0,0,0,0,0,0,0,0,48,0,0,0,48,0,48]++List.replicate 139 0
def Lz:List UInt8:=[0,10,34,48,92]
def DM:List By:=[[47,92,42],[92,42,47],[91,94,92,42,47,93,43],[91,92,42,47,93]]
def Al:List bA:=[⟨2,0,[],0⟩,⟨1,4398046511104,[0],0⟩,⟨1,140737488355328,[1],0⟩,⟨2,0,[],1⟩,⟨1,140737488355328,[3],0⟩,⟨1,4398046511104,[4],0⟩,⟨2,0,[],2⟩,⟨0,0,[8,6],0⟩,⟨1,115792089237316195423570985008687907853269984665640564039457583862777594773503,[7],0⟩,⟨2,0,[],3⟩,⟨1,145135534866432,[9],0⟩,⟨0,0,[2,5,8,10],0⟩]
theorem OZ:fh DM= .inr (Al,11):=rfl
def KM:List (List Nat×Nat):=[([2,5,8,10],0),([6,8],0),([4,9],0),([1,9],0),([3],0),([0],0)]
def Pb:List UInt8:=List.replicate 42 0++[42,0,0,0,0,47]++List.replicate 208 0
def Ly:List UInt8:=[0,42,47]
theorem LV:jo An Pd LA=true:=by decide +kernel
theorem LY:qT An Nn LA=true:=by decide +kernel
theorem LR:A3 Nn (bX An 53)=some 0/\bX An 53≠[]/\¬0<=bh An (bX An 53):=by decide +kernel
theorem LU:jo Am Pc Lz=true:=by decide +kernel
theorem LX:qT Am PX Lz=true:=by decide +kernel
theorem LQ:A3 PX (bX Am 10)=some 0/\bX Am 10≠[]/\¬0<=bh Am (bX Am 10):=by decide +kernel
theorem LS:jo Al Pb Ly=true:=by decide +kernel
theorem LW:qT Al KM Ly=true:=by decide +kernel
theorem LP:A3 KM (bX Al 11)=some 0/\bX Al 11≠[]/\¬0<=bh Al (bX Al 11):=by decide +kernel
end Go.Proofs.YtpjgdgdnbkjoiaaGreatDoor

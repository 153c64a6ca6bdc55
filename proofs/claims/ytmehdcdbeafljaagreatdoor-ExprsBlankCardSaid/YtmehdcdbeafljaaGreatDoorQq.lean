/- What the proof of the statement leans on (part 17). -/
import Derived.Lib.ConvBytes
import Derived.Lib.AtoiErrMem
import Derived.Laws.Runes
import Derived.Test.YtmehdcdbeafljaaGreatDoorQp

namespace Go.Lw
open Go.RowKit
section
variable {P:Program}{ρ:Env}{h:az}{dst:Option Nat}{ty:TypeId}{pos:String}{after:Array Edge}{guard:Option (Nat×Bool)}{X:List PanicEntry->az->Prop}
theorem aj.zU {t e:TypeId}{x:Operand}{b o m sz:Nat}(hu:P.underlying t=some (.array m e)) (hs:dI P e=some sz) (hx:bO ρ x=some (.pointer (some ⟨b,o,none⟩))) :
 aj P ⟨dst,.slice t x none none none,ty,pos,after,guard⟩ ρ h (.slice (dm (some ⟨b,o,none⟩) 0 sz m) (m-0) (m-0)):=by
 intro _ B a w hf _;simp[execOp,Instr.sliceAt,Instr.sliceBounds,Instr.sliceBound,run_underlying hu,hf.eval hx,run_sizeOf hs,dm,Instr.sureAddr];split<;>simp
end
end Go.Lw
namespace Go.Lw
open Go.ChangeShapes Go.WideShapes Go.ChangeAt Go.RowKit
section
variable {P:Program}{H:Type}{enc:TypeId×Value->H}
theorem Eb {W:World}{fuel:Nat}{sp:Nat->Bool}{held:Bool}{t e:TypeId}{cs:List Value}{L:List (List UInt8)}{rest:List (DataW H)}{pl:List MemPlace}
 (ht:P.underlying t=some (.slice e)) (he:P.underlying e=some .string) (hC:P.cellsOf e=1)
 (h:DataW.trod enc P W 0 sp held fuel t cs=some (.slice (L.map fun s=>.lit (.string s)) rest,pl)):∃v,cs=[v]/\bS (.flat (fun s=>Value.string ⟨s.toArray⟩) fun _=>rfl) W.heap (fun _=>False) v L:=by
 rcases Deep.open_slice ht h with ⟨_,hx⟩|⟨a,len,cap,m,n,D,Pl,rfl,_,hle,hm,hmm,hx,hel⟩
 · simp at hx
 · simp only[Prod.mk.injEq,DataW.slice.injEq] at hx;have hlen:L.length=len:=by have:=congrArg List.length hx.1.1;simpa using this
   have hlm:len<=m:=by rw[hmm];split<;>omega
   have hD:∀(i:Nat) (r:List UInt8),L[i]? =some r->D i= .lit (.string r):=fun i r hr=>by
    have hil:i<len:=by rw[<-hlen];exact(List.getElem?_eq_some_iff.1 hr).1
    have:=congrArg (fun z=>z[i]?) hx.1.1;simp only[List.getElem?_map,hr,Option.map_some,List.getElem?_range hil,Option.some.injEq] at this;exact this.symm
   refine⟨_,rfl,some a,len,cap,rfl,hlen,hle,hm,fun i r hr=>?_⟩;have hil:i<len:=by rw[<-hlen];exact(List.getElem?_eq_some_iff.1 hr).1
   obtain⟨cs',hc1,hc2⟩:=hel i (by omega);rw[hC] at hc1;rw[hD i r hr] at hc2;obtain⟨_,hcl,hcell⟩:=World.cells?_some hc1;obtain rfl:=oS he hc2;obtain⟨cs0,hc0,_⟩:=hel 0 (by omega);rw[hC] at hc0;obtain⟨_,hcl0,hcell0⟩:=World.cells?_some hc0;have hs0:=hcell0 0 (by omega);rw[List.getElem?_eq_getElem (by omega)] at hs0;have hspot:a.spot=none:=by simpa [Addr.add] using World.cell?_spot hs0
   obtain⟨b,o,spot⟩:=a;have hspot:spot=none:=hspot;subst hspot;refine⟨b,o,[.string ⟨r.toArray⟩],rfl,fun k=>k,fun j u hj=>?_,rfl⟩;have hj0:j=0:=by cases j with|zero=>rfl|succ j=>simp at hj
   subst hj0;have:=hcell 0 (by omega);rw[Deep.add_add,Addr.add_mid,dM] at this
   show cellAt W.heap ⟨b,o+i*1+0,none⟩=some u
   rw[Nat.add_assoc,this];exact hj
end
end Go.Lw
namespace Go.Proofs.YtmehdcdbeafljaaGreatDoor
abbrev By:=List UInt8
inductive Nd where
 |mk (kind:Nat) (set:Nat) (kids:List Nd)
def Nd.kind:Nd->Nat|.mk k _ _=>k
def Nd.set:Nd->Nat|.mk _ s _=>s
def Nd.kids:Nd->List Nd|.mk _ _ l=>l
def GO:Nat:=2 ^ 256-1
def wE (s a:Nat):Nat->Nat
 | 0=>s
 |n+1=>wE (s |||(1 <<< a)) (a+1) n
def nK (s:Nat) (a b:UInt8):Nat:=wE s a.toNat (b.toNat+1-a.toNat)
def mz (s:Nat):Nat:=GO ^^^ s
def yX (b:UInt8):Nd:=.mk 1 (nK 0 b b) []
def IN:Nd:=.mk 1 (nK (nK 0 0 9) 11 255) []
def nu:Nd:=.mk 0 0 []
def fP:By:=[40,41,91,93,124,42,43,63,46,92,45,94]
def lg (b:UInt8):Option Nat :=
 if 48<=b.toNat/\b.toNat<=57 then some (b.toNat-48) else if 97<=b.toNat/\b.toNat<=102 then some (b.toNat-87) else if 65<=b.toNat/\b.toNat<=70 then some (b.toNat-55) else none
def pU:By->Option (UInt8×By)
 | []=>none
 |b::r =>
  if b=110 then some (10,r) else if b=116 then some (9,r) else if b=114 then some (13,r)
  else if b=120 then
   match r with
   |x::y::r=>match lg x,lg y with
    |some m,some n=>some (UInt8.ofNat (m*16+n),r)
    |_,_=>none
   |_=>none
  else if b∈fP then some (b,r) else none
def ou:By->Option (UInt8×By)
 | []=>none
 |b::r=>if b=92 then pU r else if b∈fP then none else some (b,r)
def fm (s:By):Option ((UInt8×UInt8)×By) :=
 match ou s with
 |none=>none
 |some (a,r)=>match r with
  | 45::r'=>match ou r' with
   |none=>none
   |some (b,r'')=>if b.toNat<a.toNat then none else some ((a,b),r'')
  |_=>some ((a,a),r)
def lO:Nat->Nat->By->Option (Nat×By)
 | 0,_,_=>none
 |n+1,acc,s=>match fm s with
  |none=>none
  |some ((a,b),r)=>match r with
   | 93::r'=>some (nK acc a b,r')
   |_=>lO n (nK acc a b) r
def iy (s:By):Option (Nd×By) :=
 match s with
 | 94::r=>(lO (r.length+1) 0 r).map fun p=>(.mk 1 (mz p.1) [],p.2)
 |_=>(lO (s.length+1) 0 s).map fun p=>(.mk 1 p.1 [],p.2)
def fD (rows:By->Option (Nd×By)):By->Option (Nd×By)
 | []=>none
 |c::r =>
  if c=40 then
   match rows r with
   |none=>none
   |some (n,r')=>match r' with
    | 41::r''=>some (n,r'')
    |_=>none
  else if c=91 then iy r
  else if c=46 then some (IN,r)
  else if c=92 then (pU r).map fun p=>(yX p.1,p.2)
  else if c∈[(41:UInt8),93,124,42,43,63] then none
  else some (yX c,r)
def dP (c:UInt8):Nat:=if c=42 then 4 else if c=43 then 5 else if c=63 then 6 else 0
def fc (n:Nd):By->Nd×By
 | []=>(n,[])
 |c::r=>if dP c=0 then (n,c::r) else fc (.mk (dP c) 0 [n]) r
def gi (rows:By->Option (Nd×By)) (s:By):Option (Nd×By) :=
 (fD rows s).map fun p=>fc p.1 p.2
def cD (kind:Nat):List Nd->Nd
 | []=>nu
 | [n]=>n
 |l=>.mk kind 0 l
def jJ:By->Bool
 | []=>true
 |c::_=>c ==124 ||c ==41
def mo (rows:By->Option (Nd×By)):Nat->By->Option (List Nd×By)
 | 0,_=>none
 |n+1,s=>if jJ s then some ([],s) else
  match gi rows s with
  |none=>none
  |some (x,r)=>(mo rows n r).map fun p=>(x::p.1,p.2)
def iH (rows:By->Option (Nd×By)):Nat->List Nd->List Nd->By->Option (Nd×By)
 | 0,_,_,_=>none
 |n+1,all,row,s=>if jJ s then
  if s.head? =some 124 then iH rows n (all++[cD 2 row]) [] s.tail
  else some (cD 3 (all++[cD 2 row]),s)
  else match gi rows s with
   |none=>none
   |some (x,r)=>iH rows n all (row++[x]) r
def eu:Nat->By->Option (Nd×By)
 | 0,_=>none
 |d+1,s=>iH (eu d) (s.length+1) [] [] s
def jK (s:By):Option Nd :=
 match eu (s.length+1) s with
 |some (n,[])=>some n
 |_=>none
theorem uR {s:By}{b:UInt8}{r:By}(h:pU s=some (b,r)):r.length<s.length:=by
 unfold pU at h;split at h
 · cases h
 · rename_i c t;split at h
   · cases h;simp
   · split at h
     · cases h;simp
     · split at h
       · cases h;simp
       · split at h
         · split at h
           · split at h
             · cases h;simp only[List.length_cons];omega
             · cases h
           · cases h
         · split at h
           · cases h;simp
           · cases h
theorem pK {s:By}{b:UInt8}{r:By}(h:ou s=some (b,r)):r.length<s.length:=by
 unfold ou at h;split at h
 · cases h
 · split at h
   · have:=uR h;simp only[List.length_cons];omega
   · split at h
     · cases h
     · cases h;simp
theorem mG {s:By}{p:UInt8×UInt8}{r:By}(h:fm s=some (p,r)):r.length<s.length:=by
 unfold fm at h;split at h
 · cases h
 · rename_i a t ha;have h1:=pK ha;split at h
   · rename_i t';split at h
     · cases h
     · rename_i b t'' hb;have h2:=pK hb;split at h
       · cases h
       · cases h;simp only[List.length_cons] at h1;omega
   · cases h;exact h1
theorem qv:∀(n acc:Nat){s:By}{m:Nat}{r:By},lO n acc s=some (m,r)->r.length<s.length
 | 0,_,s,m,r,h=>by cases h
 |n+1,acc,s,m,r,h=>by
  rw[lO] at h;split at h
  · cases h
  · rename_i a b t ht;have h1:=mG ht;split at h
    · cases h;simp only[List.length_cons] at h1;omega
    · have:=qv n _ h;omega
theorem qb {s:By}{x:Nd}{r:By}(h:iy s=some (x,r)):r.length<s.length:=by
 unfold iy at h;split at h
 · rename_i t;simp only[Option.map_eq_some_iff] at h;obtain⟨⟨m,r'⟩,h1,h2⟩:=h;cases h2;have:=qv _ _ h1;simp only[List.length_cons];omega
 · simp only[Option.map_eq_some_iff] at h;obtain⟨⟨m,r'⟩,h1,h2⟩:=h;cases h2;exact qv _ _ h1
theorem xC {rows:By->Option (Nd×By)}(hr:∀{s x r},rows s=some (x,r)->r.length<=s.length){s:By}{x:Nd}{r:By}(h:fD rows s=some (x,r)):r.length<s.length:=by
 unfold fD at h;split at h
 · cases h
 · rename_i c t;simp only[List.length_cons];split at h
   · split at h
     · cases h
     · rename_i n t' ht;have:=hr ht;split at h
       · rename_i t'' _;cases h;simp only[List.length_cons] at this;omega
       · cases h
   · split at h
     · have:=qb h;omega
     · split at h
       · cases h;omega
       · split at h
         · simp only[Option.map_eq_some_iff] at h;obtain⟨⟨b,r'⟩,h1,h2⟩:=h;cases h2;have:=uR h1;dsimp only;omega
         · split at h
           · cases h
           · cases h;omega
theorem tB:∀(s:By) (n:Nd),(fc n s).2.length<=s.length
 | [],n=>by simp[fc]
 |c::r,n=>by
  rw[fc];split
  · simp
  · have:=tB r (.mk (dP c) 0 [n]);simp only[List.length_cons];omega
theorem ga {rows:By->Option (Nd×By)}(hr:∀{s x r},rows s=some (x,r)->r.length<=s.length){s:By}{x:Nd}{r:By}(h:gi rows s=some (x,r)):r.length<s.length:=by
 unfold gi at h;simp only[Option.map_eq_some_iff] at h;obtain⟨⟨n,t⟩,h1,h2⟩:=h;have h3:=xC hr h1;have h4:=tB t n;rw[h2] at h4;simp only at h4;omega
theorem qy {rows:By->Option (Nd×By)}(hr:∀{s x r},rows s=some (x,r)->r.length<=s.length):∀(n:Nat) (all row:List Nd){s:By}{x:Nd}{r:By},iH rows n all row s=some (x,r)->r.length<=s.length/\(r=[]\/r.head? =some 41)
 | 0,_,_,s,x,r,h=>by cases h
 |n+1,all,row,s,x,r,h=>by
  rw[iH] at h;split at h
  · rename_i he;split at h
    · have:=qy hr n _ _ h;exact⟨by have h2:=this.1;simp only[List.length_tail] at h2;omega,this.2⟩
    · rename_i hn;cases h;refine⟨Nat.le_refl _,?_⟩;cases s with
      |nil=>exact .inl rfl
      |cons c t =>
       right
       unfold jJ at he;have h1:c≠124:=fun e=>hn (by rw[e];rfl)
       simp[h1] at he;simp[he]
  · split at h
    · cases h
    · rename_i y t ht;have h1:=ga hr ht;have h2:=qy hr n _ _ h;exact⟨by omega,h2.2⟩
theorem ko:∀(d:Nat){s:By}{x:Nd}{r:By},eu d s=some (x,r)->r.length<=s.length
 | 0,s,x,r,h=>by cases h
 |d+1,s,x,r,h=>(qy (fun h=>ko d h) _ _ _ h).1
theorem Ag {rows:By->Option (Nd×By)}(hr:∀{s x r},rows s=some (x,r)->r.length<=s.length):∀(n:Nat){s:By}{l:List Nd}{r:By},mo rows n s=some (l,r)->r.length<=s.length/\jJ r=true/\l.length<=s.length
 | 0,s,l,r,h=>by cases h
 |n+1,s,l,r,h=>by
  rw[mo] at h;split at h
  · rename_i he;cases h;exact⟨Nat.le_refl _,he,Nat.zero_le _⟩
  · split at h
    · cases h
    · rename_i y t ht;have h1:=ga hr ht;simp only[Option.map_eq_some_iff] at h;obtain⟨⟨m,r'⟩,h2,h3⟩:=h;cases h3;have h4:=Ag hr n h2;have h5:=h4.1;have h6:=h4.2.2;exact⟨by first|omega|(dsimp only;omega),h4.2.1,by simp only[List.length_cons];first|omega|(dsimp only at h6;omega)⟩
theorem tM {rows:By->Option (Nd×By)}(hr:∀{s x r},rows s=some (x,r)->r.length<=s.length):∀(k:Nat) (n m:Nat) (all row:List Nd) (s:By),s.length<=k->s.length<n->s.length<m->iH rows n all row s=iH rows m all row s:=by
 intro k
 induction k with
 |zero =>
  intro n m all row s hk hn hm;cases n with
  |zero=>omega
  |succ n =>
   cases m with
   |zero=>omega
   |succ m =>
    have:s=[]:=List.eq_nil_of_length_eq_zero (by omega);subst this;rfl
 |succ k ih =>
  intro n m all row s hk hn hm;cases n with
  |zero=>omega
  |succ n =>
   cases m with
   |zero=>omega
   |succ m =>
    rw[iH,iH];split
    · split
      · rename_i h1;have h2:s.tail.length+1=s.length:=by cases s with|nil=>cases h1|cons a b=>simp
        exact ih _ _ _ _ _ (by omega) (by omega) (by omega)
      · rfl
    · cases hp:gi rows s with
      |none=>rfl
      |some p =>
       obtain⟨y,t⟩:=p;have:=ga hr hp;exact ih _ _ _ _ _ (by omega) (by omega) (by omega)
theorem wM {rows:By->Option (Nd×By)}(hr:∀{s x r},rows s=some (x,r)->r.length<=s.length):∀(n m:Nat) (s:By),s.length<n->s.length<m->mo rows n s=mo rows m s
 | 0,_,_,h,_=>by omega
 |_,0,_,_,h=>by omega
 |n+1,m+1,s,hn,hm=>by
  rw[mo,mo];split
  · rfl
  · cases hp:gi rows s with
    |none=>rfl
    |some p =>
     obtain⟨y,t⟩:=p;have:=ga hr hp;simp only;rw[wM hr n m t (by omega) (by omega)]
def yd (rows:By->Option (Nd×By)) (s:By):Option (Nd×By):=(mo rows (s.length+1) s).map fun p=>(cD 2 p.1,p.2)
def rT (rows:By->Option (Nd×By)) (all:List Nd) (m:By):Option (Nd×By) :=
 if m.head? =some 124 then iH rows (m.tail.length+1) all [] m.tail else some (cD 3 all,m)
theorem DP {rows:By->Option (Nd×By)}(hr:∀{s x r},rows s=some (x,r)->r.length<=s.length):∀(n m:Nat) (all row:List Nd) (s:By),s.length<n->s.length<m ->
 iH rows n all row s=match mo rows m s with
  |none=>none
  |some (l,r)=>if r.head? =some 124 then iH rows (r.length+1) (all++[cD 2 (row++l)]) [] r.tail else some (cD 3 (all++[cD 2 (row++l)]),r):=by
 have fuel:=fun k=>@tM rows hr k
 intro n
 induction n with
 |zero=>intro m all row s h;omega
 |succ n ih =>
  intro m all row s hn hm;cases m with
  |zero=>omega
  |succ m =>
   rw[iH,mo]
   by_cases he:jJ s=true
   · rw[if_pos he,if_pos he];simp only[List.append_nil];split
     · rename_i h1;have h2:s.tail.length+1=s.length:=by cases s with|nil=>cases h1|cons a b=>simp
       exact fuel _ _ _ _ _ _ (Nat.le_refl _) (by omega) (by omega)
     · rfl
   · rw[if_neg he,if_neg he];cases hp:gi rows s with
     |none=>rfl
     |some p =>
      obtain⟨y,t⟩:=p;have hlt:=ga hr hp;simp only;rw[ih m all (row++[y]) t (by omega) (by omega)];cases hl:mo rows m t with
      |none=>rfl
      |some q =>
       obtain⟨l,r⟩:=q;simp only[Option.map_some,List.append_assoc,List.singleton_append]
theorem tN {rows:By->Option (Nd×By)}(hr:∀{s x r},rows s=some (x,r)->r.length<=s.length) (all:List Nd) (s:By) :
 iH rows (s.length+1) all [] s=match yd rows s with|none=>none|some (x,r)=>rT rows (all++[x]) r:=by
 rw[DP hr _ (s.length+1) _ _ _ (Nat.lt_succ_self _) (Nat.lt_succ_self _)];unfold yd;cases hl:mo rows (s.length+1) s with
 |none=>rfl
 |some q =>
  obtain⟨l,r⟩:=q;simp only[Option.map_some,List.nil_append,rT];split
  · exact tM hr r.length _ _ _ _ _ (by simp) (by simp;omega) (by omega)
  · rfl
theorem Af {rows:By->Option (Nd×By)}(hr:∀{s x r},rows s=some (x,r)->r.length<=s.length){s:By}{x:Nd}{r:By}(h:yd rows s=some (x,r)):r.length<=s.length:=by
 unfold yd at h;simp only[Option.map_eq_some_iff] at h;obtain⟨⟨l,r'⟩,h1,h2⟩:=h;cases h2;exact(Ag hr _ h1).1
def bZ (s:By):Nd×Int:=if 200<s.length then (nu,3) else match jK s with|some x=>(x,0)|none=>(nu,10)
end Go.Proofs.YtmehdcdbeafljaaGreatDoor
namespace Go.Proofs.YtmehdcdbeafljaaGreatDoor
open Go
section
variable {k e:Int}{n:Nat}
inductive Tr where
 |mk (k:Int) (t:By) (l:List Tr)
def Tr.kind:Tr->Int|.mk k _ _=>k
def Tr.text:Tr->By|.mk _ t _=>t
def Tr.kids:Tr->List Tr|.mk _ _ l=>l
abbrev Un:=Int×By×Int
inductive PS where
 |ok (r:List Un)
 |bad (m:Int)
def PS.cZ:PS->Bool|.ok _=>false|.bad _=>true
def PS.len:PS->Nat|.ok r=>r.length|.bad _=>0
def KI (e:Int):List Un->Int| []=>e|u::_=>u.2.2
def dx (e:Int):PS->PS|.ok r=>.bad (KI e r)|.bad m=>.bad m
def cU (k:Int) (ts:List By):PS->Option By×PS
 |.ok (u::r)=>if u.1=k/\u.2.1∈ts then (some u.2.1,.ok r) else (none,.ok (u::r))
 |.ok []=>(none,.ok [])
 |.bad m=>(none,.bad m)
def dc (e k:Int) (t:By) (s:PS):PS:=match (cU k [t] s).1 with|some _=>(cU k [t] s).2|none=>dx e (cU k [t] s).2
def cY (e:Int):PS->By×PS
 |.ok (u::r)=>if u.1=3 then (u.2.1,.ok r) else ([],dx e (.ok (u::r)))
 |.ok []=>([],dx e (.ok []))
 |.bad m=>([],.bad m)
abbrev nD:By:=[108,101,116]
abbrev G5:By:=[105,110]
abbrev xR:By:=[105,102]
abbrev lK:By:=[101,108,115,101]
abbrev zO:By:=[102,117,110]
abbrev zN:By:=[111,114]
abbrev l9:By:=[97,110,100]
abbrev n7:By:=[110,111,116]
abbrev lJ:By:=[116,114,117,101]
abbrev l7:By:=[102,97,108,115,101]
abbrev tf:By:=[124,124]
abbrev tj:By:=[38,38]
abbrev tg:By:=[33]
abbrev jH:By:=[45]
abbrev E1:List By:=[[61,61],[33,61],[60],[60,61],[62],[62,61]]
abbrev E0:List By:=[[43],[45]]
abbrev zM:List By:=[[42],[47],[37]]
def Ap (k:Nat) (s:PS):Option By×PS :=
 if k=0 then (match cU 4 [zN] s with|(some _,s)=>(some zN,s)|(none,s)=>match cU 6 [tf] s with|(some _,s)=>(some zN,s)|(none,s)=>(none,s))
 else if k=1 then (match cU 4 [l9] s with|(some _,s)=>(some l9,s)|(none,s)=>match cU 6 [tj] s with|(some _,s)=>(some l9,s)|(none,s)=>(none,s))
 else if k=3 then cU 6 E1 s
 else if k=4 then cU 6 E0 s
 else cU 6 zM s
inductive EG where
 |stmt|expr|lt (alone:Bool)|choice|fn|block
 |blockL (l:List Tr)|part (k:Nat)|opL (k:Nat) (t:Tr)|callL (t:Tr)|argL (t:Tr)|atom
def iJ (u:Un):Option Tr :=
 if u.1=5 then some (.mk 0 u.2.1 []) else if u.1=9 then some (.mk 1 u.2.1 []) else if u.1=3 then some (.mk 3 u.2.1 [])
 else if u.1=4/\(u.2.1=lJ\/u.2.1=l7) then some (.mk 2 u.2.1 []) else none
def G4:Tr:=.mk 0 [] []
abbrev mV:=Option (Tr×PS)
def dO (a:mV) (f:Tr->PS->mV):mV:=a.bind fun p=>f p.1 p.2
def pM (e:Int):Nat->EG->PS->mV
 | 0,_,_=>none
 |n+1,.stmt,s=>match cU 4 [nD] s with
  |(some _,s)=>pM e n (.lt true) s
  |(none,s)=>pM e n .expr s
 |n+1,.expr,s=>match cU 4 [nD] s with
  |(some _,s)=>pM e n (.lt false) s
  |(none,s)=>match cU 4 [xR] s with
   |(some _,s)=>pM e n .choice s
   |(none,s)=>match cU 4 [zO] s with
    |(some _,s)=>pM e n .fn s
    |(none,s)=>pM e n (.part 0) s
 |n+1,.lt alone,s=>dO (pM e n .expr (dc e 6 [61] (cY e s).2)) fun v s1=>match cU 4 [G5] s1 with
  |(some _,s2)=>dO (pM e n .expr s2) fun w s3=>some (.mk 7 (cY e s).1 [v,w],s3)
  |(none,s2)=>some (.mk 7 (cY e s).1 [v],if alone then s2 else dx e s2)
 |n+1,.choice,s=>dO (pM e n .expr s) fun a s=>dO (pM e n .block s) fun b s=>match cU 4 [xR] (dc e 4 lK s) with
  |(some _,s)=>dO (pM e n .choice s) fun c s=>some (.mk 6 [] [a,b,c],s)
  |(none,s)=>dO (pM e n .block s) fun c s=>some (.mk 6 [] [a,b,c],s)
 |n+1,.fn,s=>match cU 6 [[44]] (cY e s).2 with
  |(some _,s1)=>dO (pM e n .fn s1) fun a s2=>some (.mk 8 (cY e s).1 [a],s2)
  |(none,s1)=>dO (pM e n .expr (dc e 6 [45,62] s1)) fun a s2=>some (.mk 8 (cY e s).1 [a],s2)
 |n+1,.block,s=>pM e n (.blockL []) (dc e 7 [123] s)
 |n+1,.blockL l,s=>dO (pM e n .stmt s) fun t s=>match cU 6 [[59]] s with
  |(more,s)=>match cU 8 [[125]] s with
   |(some _,s)=>some (.mk 10 [] (l++[t]),s)
   |(none,s)=>if more.isSome && !s.cZ then pM e n (.blockL (l++[t])) s else some (.mk 10 [] (l++[t]),dx e s)
 |n+1,.part k,s =>
  if k=7 then dO (pM e n .atom s) fun t s=>pM e n (.callL t) s
  else if k=2 then match cU 4 [n7] s with
   |(some _,s)=>dO (pM e n (.part 2) s) fun t s=>some (.mk 4 n7 [t],s)
   |(none,s)=>match cU 6 [tg] s with
    |(some _,s)=>dO (pM e n (.part 2) s) fun t s=>some (.mk 4 n7 [t],s)
    |(none,s)=>pM e n (.part 3) s
  else if k=6 then match cU 6 [jH] s with
   |(some _,s)=>dO (pM e n (.part 6) s) fun t s=>some (.mk 4 jH [t],s)
   |(none,s)=>pM e n (.part 7) s
  else dO (pM e n (.part (k+1)) s) fun t s=>pM e n (.opL k t) s
 |n+1,.opL k t,s=>match Ap k s with
  |(some op,s)=>dO (pM e n (.part (k+1)) s) fun u s=>if k=3 then some (.mk 5 op [t,u],s) else pM e n (.opL k (.mk 5 op [t,u])) s
  |(none,s)=>some (t,s)
 |n+1,.callL t,s=>match cU 7 [[40]] s with
  |(some _,s)=>pM e n (.argL t) s
  |(none,s)=>some (t,s)
 |n+1,.argL t,s=>dO (pM e n .expr s) fun a s=>match cU 6 [[44]] s with
  |(some _,s)=>pM e n (.argL (.mk 9 [] [t,a])) s
  |(none,s)=>pM e n (.callL (.mk 9 [] [t,a])) (dc e 8 [41] s)
 |n+1,.atom,s=>match s with
  |.bad m=>some (G4,.bad m)
  |.ok []=>some (G4,dx e (.ok []))
  |.ok (u::r)=>match iJ u with
   |some t=>some (t,.ok r)
   |none=>if u.1=7/\u.2.1=[123] then pM e n .block (.ok (u::r))
    else if u.1=7/\u.2.1=[40] then dO (pM e n .expr (.ok r)) fun t s=>some (t,dc e 8 [41] s)
    else some (G4,dx e (.ok (u::r)))
theorem iw (k:Int) (ts:List By) (u:Un) (r:List Un):cU k ts (.ok (u::r))=if u.1=k/\u.2.1∈ts then (some u.2.1,.ok r) else (none,.ok (u::r)):=rfl
theorem jf (e:Int) (u:Un) (r:List Un):cY e (.ok (u::r))=if u.1=3 then (u.2.1,.ok r) else ([],dx e (.ok (u::r))):=rfl
theorem HG (k:Int) (ts:List By) (m:Int):cU k ts (.bad m)=(none,.bad m):=rfl
theorem cv {ts:List By}{s s':PS}(h:cU k ts s=(none,s')):s'=s:=by
 cases s with
 |bad m=>cases h;rfl
 |ok r=>cases r with
  |nil=>cases h;rfl
  |cons u r=>rw[iw] at h;split at h<;>cases h;rfl
theorem uC {ts:List By}{s s':PS}{t:By}(h:cU k ts s=(some t,s')):∃u r,s= .ok (u::r)/\s'= .ok r/\u.1=k/\u.2.1=t/\t∈ts:=by
 cases s with
 |bad m=>cases h
 |ok r=>cases r with
  |nil=>cases h
  |cons u r=>rw[iw] at h;split at h<;>cases h;rename_i q;exact⟨u,r,rfl,rfl,q.1,rfl,q.2⟩
theorem dJ {ts:List By}{s s':PS}{t:By}(h:cU k ts s=(some t,s')):s.len=s'.len+1:=by
 obtain⟨u,r,rfl,rfl,_⟩:=uC h;simp[PS.len]
theorem xy (e:Int) (s:PS):∃m,dx e s= .bad m:=by cases s<;>exact⟨_,rfl⟩
theorem iU (e k:Int) (t:By) (s:PS):(dc e k t s).len<=s.len:=by
 unfold dc
 rcases hq:cU k [t] s with ⟨q,s'⟩
 cases q with
 |none=>have:=cv hq;subst this;obtain⟨m,hm⟩:=xy e s';simp[hm,PS.len]
 |some x=>have:=dJ hq;simp;omega
theorem qB (e:Int) (s:PS):(cY e s).2.len<=s.len/\((cY e s).2.len<s.len\/(cY e s).2.cZ=true):=by
 cases s with
 |bad m=>simp[cY,PS.cZ]
 |ok r=>cases r with
  |nil=>simp[cY,dx,PS.cZ,PS.len]
  |cons u r =>
   rw[jf];split
   · simp[PS.len]
   · simp[dx,PS.len,PS.cZ]
theorem xw (e:Int) (s:PS):(dx e s).len=0:=by cases s<;>rfl
theorem Fz {k:Nat}{s s':PS}(h:Ap k s=(none,s')):s'=s:=by
 unfold Ap at h;split at h
 · rcases hq:cU 4 [zN] s with ⟨q,s1⟩
   rw[hq] at h;cases q with
   |some x=>simp at h
   |none =>
    have e1:=cv hq;subst e1
    rcases hq2:cU 6 [tf] s1 with ⟨q,s2⟩
    simp only[hq2] at h;cases q with
    |some x=>simp at h
    |none=>have:=cv hq2;subst this;simp at h;exact h.symm
 · split at h
   · rcases hq:cU 4 [l9] s with ⟨q,s1⟩
     rw[hq] at h;cases q with
     |some x=>simp at h
     |none =>
      have e1:=cv hq;subst e1
      rcases hq2:cU 6 [tj] s1 with ⟨q,s2⟩
      simp only[hq2] at h;cases q with
      |some x=>simp at h
      |none=>have:=cv hq2;subst this;simp at h;exact h.symm
   · split at h
     · exact cv h
     · split at h<;>exact cv h
theorem Ao {k:Nat}{s s':PS}{t:By}(h:Ap k s=(some t,s')):∃u r,s= .ok (u::r)/\s'= .ok r:=by
 have key:∀{k ts}{s s':PS}{t:By},cU k ts s=(some t,s')->∃u r,s= .ok (u::r)/\s'= .ok r:=fun h=>by
  obtain⟨u,r,h1,h2,_⟩:=uC h;exact⟨u,r,h1,h2⟩
 unfold Ap at h;split at h
 · rcases hq:cU 4 [zN] s with ⟨q,s1⟩
   rw[hq] at h;cases q with
   |some x=>simp at h;rw[<-h.2];exact key hq
   |none =>
    have e1:=cv hq;subst e1
    rcases hq2:cU 6 [tf] s1 with ⟨q,s2⟩
    simp only[hq2] at h;cases q with
    |some x=>simp at h;rw[<-h.2];exact key hq2
    |none=>simp at h
 · split at h
   · rcases hq:cU 4 [l9] s with ⟨q,s1⟩
     rw[hq] at h;cases q with
     |some x=>simp at h;rw[<-h.2];exact key hq
     |none =>
      have e1:=cv hq;subst e1
      rcases hq2:cU 6 [tj] s1 with ⟨q,s2⟩
      simp only[hq2] at h;cases q with
      |some x=>simp at h;rw[<-h.2];exact key hq2
      |none=>simp at h
   · split at h
     · exact key h
     · split at h<;>exact key h
theorem C3 {k:Nat}{s s':PS}{t:By}(h:Ap k s=(some t,s')):s.len=s'.len+1:=by
 obtain⟨u,r,rfl,rfl⟩:=Ao h;simp[PS.len]
theorem aU {a:mV}{f:Tr->PS->mV}{y:Tr×PS}(h:dO a f=some y):∃t s,a=some (t,s)/\f t s=some y:=by
 cases a with
 |none=>cases h
 |some p=>exact⟨p.1,p.2,rfl,h⟩
theorem zK {a:mV}{f:Tr->PS->mV}{t:Tr}{s:PS}(h:a=some (t,s)):dO a f=f t s:=by rw[h];rfl
theorem ym (e:Int):∀(n:Nat) (j:EG) (s:PS) (t:Tr) (s':PS),pM e n j s=some (t,s')->s'.len<=s.len/\(∀m,s= .bad m->s'= .bad m)
 | 0,_,_,_,_,h=>by cases h
 |n+1,j,s,t,s',h=>by
  have ih:=ym e n;have hm:∀{k t}{s:PS},(dc e k t s).len<=s.len/\(∀m,s= .bad m->dc e k t s= .bad m):=fun {k t s}=>⟨iU e k t s,fun m q=>by subst q;rfl⟩
  have hi:∀{k ts}{s s':PS} {o},cU k ts s=(o,s')->s'.len<=s.len/\(∀m,s= .bad m->s'= .bad m):=fun {k ts s s' o} q=>by
   cases o with
   |none=>have:=cv q;subst this;exact⟨Nat.le_refl _,fun m q=>q⟩
   |some x=>exact⟨by have:=dJ q;omega,fun m q2=>by subst q2;cases q⟩
  have ho:∀{k}{s s':PS} {o},Ap k s=(o,s')->s'.len<=s.len/\(∀m,s= .bad m->s'= .bad m):=fun {k s s' o} q=>by
   cases o with
   |none=>have:=Fz q;subst this;exact⟨Nat.le_refl _,fun m q=>q⟩
   |some x=>exact⟨by have:=C3 q;omega,fun m q2=>by subst q2;obtain⟨_,_,q3,_⟩:=Ao q;cases q3⟩
  have hn:∀{s:PS},(cY e s).2.len<=s.len/\(∀m,s= .bad m->(cY e s).2= .bad m):=fun {s}=>⟨(qB e s).1,fun m q=>by subst q;rfl⟩
  have hf:∀{s:PS},(dx e s).len<=s.len/\(∀m,s= .bad m->dx e s= .bad m):=fun {s}=>⟨by rw[xw];omega,fun m q=>by subst q;rfl⟩
  have tr:∀{a b c:PS},(b.len<=a.len/\(∀m,a= .bad m->b= .bad m))->(c.len<=b.len/\(∀m,b= .bad m->c= .bad m))->(c.len<=a.len/\(∀m,a= .bad m->c= .bad m)) :=
   fun p q=>⟨Nat.le_trans q.1 p.1,fun m r=>q.2 m (p.2 m r)⟩
  cases j with
  |stmt =>
   simp only[pM] at h
   rcases h1:cU 4 [nD] s with ⟨o,s1⟩
   rw[h1] at h;cases o<;>exact tr (hi h1) (ih _ _ _ _ h)
  |expr =>
   simp only[pM] at h
   rcases h1:cU 4 [nD] s with ⟨o,s1⟩
   rw[h1] at h;cases o with
   |some x=>exact tr (hi h1) (ih _ _ _ _ h)
   |none =>
    simp only at h
    rcases h2:cU 4 [xR] s1 with ⟨o,s2⟩
    rw[h2] at h;cases o with
    |some x=>exact tr (hi h1) (tr (hi h2) (ih _ _ _ _ h))
    |none =>
     simp only at h
     rcases h3:cU 4 [zO] s2 with ⟨o,s3⟩
     rw[h3] at h;cases o<;>exact tr (hi h1) (tr (hi h2) (tr (hi h3) (ih _ _ _ _ h)))
  |lt alone =>
   simp only[pM] at h;obtain⟨v,s1,h1,h⟩:=aU h;have k1:=tr hn (tr hm (ih _ _ _ _ h1))
   rcases h2:cU 4 [G5] s1 with ⟨o,s2⟩
   rw[h2] at h;cases o with
   |some x =>
    simp only at h;obtain⟨w,s3,h3,h⟩:=aU h;cases h;exact tr k1 (tr (hi h2) (ih _ _ _ _ h3))
   |none =>
    simp only at h;cases h;cases alone
    · exact tr k1 (tr (hi h2) hf)
    · exact tr k1 (hi h2)
  |choice =>
   simp only[pM] at h;obtain⟨a,s1,h1,h⟩:=aU h;obtain⟨b,s2,h2,h⟩:=aU h;have k:=tr (ih _ _ _ _ h1) (tr (ih _ _ _ _ h2) (hm (k:=4) (t:=lK)))
   rcases h3:cU 4 [xR] (dc e 4 lK s2) with ⟨o,s3⟩
   rw[h3] at h;cases o with
   |some x=>simp only at h;obtain⟨c,s4,h4,h⟩:=aU h;cases h;exact tr k (tr (hi h3) (ih _ _ _ _ h4))
   |none=>simp only at h;obtain⟨c,s4,h4,h⟩:=aU h;cases h;exact tr k (tr (hi h3) (ih _ _ _ _ h4))
  |fn =>
   simp only[pM] at h
   rcases h3:cU 6 [[44]] (cY e s).2 with ⟨o,s3⟩
   rw[h3] at h;cases o with
   |some x=>simp only at h;obtain⟨c,s4,h4,h⟩:=aU h;cases h;exact tr hn (tr (hi h3) (ih _ _ _ _ h4))
   |none=>simp only at h;obtain⟨c,s4,h4,h⟩:=aU h;cases h;exact tr hn (tr (hi h3) (tr hm (ih _ _ _ _ h4)))
  |block=>simp only[pM] at h;exact tr hm (ih _ _ _ _ h)
  |blockL l =>
   simp only[pM] at h;obtain⟨t1,s1,h1,h⟩:=aU h
   rcases h2:cU 6 [[59]] s1 with ⟨o,s2⟩
   rw[h2] at h;simp only at h
   rcases h3:cU 8 [[125]] s2 with ⟨q,s3⟩
   rw[h3] at h;have k:=tr (ih _ _ _ _ h1) (tr (hi h2) (hi h3));cases q with
   |some x=>simp only at h;cases h;exact k
   |none =>
    simp only at h;split at h
    · exact tr k (ih _ _ _ _ h)
    · cases h;exact tr k hf
  |part k =>
   simp only[pM] at h;split at h
   · obtain⟨t1,s1,h1,h⟩:=aU h;exact tr (ih _ _ _ _ h1) (ih _ _ _ _ h)
   · split at h
     · rcases h1:cU 4 [n7] s with ⟨o,s1⟩
       rw[h1] at h;cases o with
       |some x=>simp only at h;obtain⟨c,s4,h4,h⟩:=aU h;cases h;exact tr (hi h1) (ih _ _ _ _ h4)
       |none =>
        simp only at h
        rcases h2:cU 6 [tg] s1 with ⟨o,s2⟩
        rw[h2] at h;cases o with
        |some x=>simp only at h;obtain⟨c,s4,h4,h⟩:=aU h;cases h;exact tr (hi h1) (tr (hi h2) (ih _ _ _ _ h4))
        |none=>exact tr (hi h1) (tr (hi h2) (ih _ _ _ _ h))
     · split at h
       · rcases h1:cU 6 [jH] s with ⟨o,s1⟩
         rw[h1] at h;cases o with
         |some x=>simp only at h;obtain⟨c,s4,h4,h⟩:=aU h;cases h;exact tr (hi h1) (ih _ _ _ _ h4)
         |none=>exact tr (hi h1) (ih _ _ _ _ h)
       · obtain⟨t1,s1,h1,h⟩:=aU h;exact tr (ih _ _ _ _ h1) (ih _ _ _ _ h)
  |opL k t0 =>
   simp only[pM] at h
   rcases h1:Ap k s with ⟨o,s1⟩
   rw[h1] at h;cases o with
   |some x =>
    simp only at h;obtain⟨c,s4,h4,h⟩:=aU h;split at h
    · cases h;exact tr (ho h1) (ih _ _ _ _ h4)
    · exact tr (ho h1) (tr (ih _ _ _ _ h4) (ih _ _ _ _ h))
   |none=>simp only at h;cases h;exact ho h1
  |callL t0 =>
   simp only[pM] at h
   rcases h1:cU 7 [[40]] s with ⟨o,s1⟩
   rw[h1] at h;cases o with
   |some x=>exact tr (hi h1) (ih _ _ _ _ h)
   |none=>simp only at h;cases h;exact hi h1
  |argL t0 =>
   simp only[pM] at h;obtain⟨t1,s1,h1,h⟩:=aU h
   rcases h2:cU 6 [[44]] s1 with ⟨o,s2⟩
   rw[h2] at h;cases o with
   |some x=>exact tr (ih _ _ _ _ h1) (tr (hi h2) (ih _ _ _ _ h))
   |none=>exact tr (ih _ _ _ _ h1) (tr (hi h2) (tr hm (ih _ _ _ _ h)))
  |atom =>
   cases s with
   |bad m=>simp only[pM] at h;cases h;exact⟨Nat.le_refl _,fun _ q=>q⟩
   |ok r=>cases r with
    |nil=>simp only[pM] at h;cases h;exact hf
    |cons u r =>
     simp only[pM] at h;have kk:(PS.ok r).len<=(PS.ok (u::r)).len/\(∀m,PS.ok (u::r)= .bad m->PS.ok r= .bad m):=⟨by simp[PS.len],fun m q=>by cases q⟩
     split at h
     · cases h;exact kk
     · split at h
       · exact ih _ _ _ _ h
       · split at h
         · obtain⟨t1,s1,h1,h⟩:=aU h;cases h;exact tr kk (tr (ih _ _ _ _ h1) hm)
         · cases h;exact hf
theorem yl {j:EG}{s:PS}{t:Tr}{s':PS}(h:pM e n j s=some (t,s')):s'.len<=s.len:=(ym e n j s t s' h).1
theorem Fv {j:EG}{m:Int}{t:Tr}{s':PS}(h:pM e n j (.bad m)=some (t,s')):s'= .bad m:=(ym e n j _ t s' h).2 m rfl
theorem C1 (e:Int):∀(n:Nat) (j:EG) (s:PS) (y:Tr×PS),pM e n j s=some y->pM e (n+1) j s=some y
 | 0,_,_,_,h=>by cases h
 |n+1,j,s,y,h=>by
  have ih:=C1 e n
  have th:∀{a:EG}{s:PS}{f g:Tr->PS->mV}{y:Tr×PS},dO (pM e n a s) f=some y->(∀t s y,f t s=some y->g t s=some y)->dO (pM e (n+1) a s) g=some y:=fun {a s f g y} q k=>by
   obtain⟨t,s1,q1,q2⟩:=aU q;rw[zK (ih _ _ _ q1)];exact k _ _ _ q2
  cases j with
  |stmt=>rw[pM] at h ⊢;split at h<;>exact ih _ _ _ h
  |expr =>
   rw[pM] at h ⊢;split at h
   · exact ih _ _ _ h
   · split at h
     · exact ih _ _ _ h
     · split at h<;>exact ih _ _ _ h
  |lt alone =>
   rw[pM] at h ⊢;refine th h fun t s y k=>?_
   split at k
   · exact th k fun _ _ _ k=>k
   · exact k
  |choice =>
   rw[pM] at h ⊢;refine th h fun t s y k=>th k fun t s y k=>?_
   split at k
   · exact th k fun _ _ _ k=>k
   · exact th k fun _ _ _ k=>k
  |fn =>
   rw[pM] at h ⊢;split at h
   · exact th h fun _ _ _ k=>k
   · exact th h fun _ _ _ k=>k
  |block=>rw[pM] at h ⊢;exact ih _ _ _ h
  |blockL l =>
   rw[pM] at h ⊢;refine th h fun t s y k=>?_
   rcases h2:cU 6 [[59]] s with ⟨o,s2⟩
   rw[h2] at k;simp only at k ⊢;split at k
   · exact k
   · split at k
     · rename_i q;rw[if_pos q];exact ih _ _ _ k
     · rename_i q;rw[if_neg q];exact k
  |part k =>
   rw[pM] at h ⊢;split at h
   · rename_i q;rw[if_pos q];exact th h fun _ _ _ k=>ih _ _ _ k
   · rename_i q;rw[if_neg q];split at h
     · rename_i q;rw[if_pos q];split at h
       · exact th h fun _ _ _ k=>k
       · split at h
         · exact th h fun _ _ _ k=>k
         · exact ih _ _ _ h
     · rename_i q;rw[if_neg q];split at h
       · rename_i q;rw[if_pos q];split at h
         · exact th h fun _ _ _ k=>k
         · exact ih _ _ _ h
       · rename_i q;rw[if_neg q];exact th h fun _ _ _ k=>ih _ _ _ k
  |opL k t0 =>
   rw[pM] at h ⊢;split at h
   · refine th h fun t s y k=>?_
     split at k
     · rename_i q;rw[if_pos q];exact k
     · rename_i q;rw[if_neg q];exact ih _ _ _ k
   · exact h
  |callL t0 =>
   rw[pM] at h ⊢;split at h
   · exact ih _ _ _ h
   · exact h
  |argL t0 =>
   rw[pM] at h ⊢;refine th h fun t s y k=>?_
   split at k<;>exact ih _ _ _ k
  |atom =>
   cases s with
   |bad m=>exact h
   |ok r=>cases r with
    |nil=>exact h
    |cons u r =>
     rw[pM] at h ⊢;split at h
     · exact h
     · split at h
       · rename_i q;rw[if_pos q];exact ih _ _ _ h
       · rename_i q;rw[if_neg q];split at h
         · rename_i q;rw[if_pos q];exact th h fun _ _ _ k=>k
         · rename_i q;rw[if_neg q];exact h
def Tm (F:Nat->mV):Prop:=∃n y,∀m,n<=m->F m=some y
theorem eM (y:Tr×PS):Tm fun _=>some y:=⟨0,y,fun _ _=>rfl⟩
theorem Tm.then {j:EG}{s:PS}{f:Nat->Tr->PS->mV}(h:Tm fun n=>pM e n j s) (k:∀t s',s'.len<=s.len->Tm fun n=>f n t s'):Tm fun n=>dO (pM e n j s) (f n):=by
 obtain⟨n,⟨t,s'⟩,h⟩:=h;obtain⟨n2,y2,k⟩:=k t s' (yl (h n (Nat.le_refl _)))
 exact⟨max n n2,y2,fun m hm=>by
  show dO (pM e m j s) (f m)=some y2
  rw[zK (h m (by omega))];exact k m (by omega)⟩
theorem Tm.succ {j:EG}{s:PS}{F:Nat->mV}(h:Tm F) (k:∀n,pM e (n+1) j s=F n):Tm fun n=>pM e n j s:=by
 obtain⟨n,y,h⟩:=h;refine⟨n+1,y,fun m hm=>?_⟩;obtain⟨m',rfl⟩:∃m',m=m'+1:=⟨m-1,by omega⟩
 show pM e (m'+1) j s=some y
 rw[k];exact h m' (by omega)
def Mt:EG->Prop|.part k=>k<=7|.opL k _=>k<=5|_=>True
theorem Fu (e:Int):∀(L:Nat) (s:PS),s.len<=L->∀j,Mt j->Tm fun n=>pM e n j s:=by
 intro L
 induction L using Nat.strongRecOn with
 |_ L lo0 =>
 have lo:∀s:PS,s.len<L->∀j,Mt j->Tm fun n=>pM e n j s:=fun s hs j hj=>lo0 s.len hs s (Nat.le_refl _) j hj
 have atom:∀s:PS,s.len<=L->Tm fun n=>pM e n .atom s:=by
  intro s hs;cases s with
  |bad m=>exact(eM _).succ fun n=>by rw[pM]
  |ok r=>cases r with
   |nil=>exact(eM _).succ fun n=>by rw[pM]
   |cons u r =>
    have hr:r.length<L:=hs;have hl:=lo (.ok r) hr;cases h1:iJ u with
    |some t=>exact(eM (t,.ok r)).succ fun n=>by rw[pM];simp only[h1]
    |none =>
     by_cases h2:u.1=7/\u.2.1=[123]
     · have hb:Tm fun n=>pM e n .block (.ok (u::r)):=(hl (.blockL []) trivial).succ fun n=>by
        rw[pM];have:dc e 7 [123] (.ok (u::r))= .ok r:=by unfold dc;rw[iw,if_pos ⟨h2.1,by simp[h2.2]⟩]
        rw[this]
       exact hb.succ fun n=>by rw[pM];simp only[h1];rw[if_pos h2]
     · by_cases h3:u.1=7/\u.2.1=[40]
       · exact((hl .expr trivial).then fun t s' _=>eM (t,dc e 8 [41] s')).succ fun n=>by rw[pM];simp only[h1];rw[if_neg h2,if_pos h3]
       · exact(eM (G4,dx e (.ok (u::r)))).succ fun n=>by rw[pM];simp only[h1];rw[if_neg h2,if_neg h3]
 have callL:∀t (s:PS),s.len<=L->Tm fun n=>pM e n (.callL t) s:=by
  intro t s hs
  rcases h1:cU 7 [[40]] s with ⟨o,s1⟩
  cases o with
  |some x=>exact(lo s1 (by have:=dJ h1;omega) (.argL t) trivial).succ fun n=>by rw[pM,h1]
  |none=>exact(eM (t,s1)).succ fun n=>by rw[pM,h1]
 have p7:∀s:PS,s.len<=L->Tm fun n=>pM e n (.part 7) s:=fun s hs =>
  ((atom s hs).then (f:=fun n t s=>pM e n (.callL t) s) fun t s' hl=>callL t s' (Nat.le_trans hl hs)).succ fun n=>by rw[pM,if_pos rfl]
 have p6:∀s:PS,s.len<=L->Tm fun n=>pM e n (.part 6) s:=by
  intro s hs
  rcases h1:cU 6 [jH] s with ⟨o,s1⟩
  cases o with
  |some x=>exact((lo s1 (by have:=dJ h1;omega) (.part 6) (by decide:(6:Nat)<=7)).then fun t s' _=>eM (.mk 4 jH [t],s')).succ fun n=>by rw[pM,if_neg (by decide),if_neg (by decide),if_pos rfl,h1]
  |none=>exact(p7 s1 (by have:=cv h1;subst this;exact hs)).succ fun n=>by rw[pM,if_neg (by decide),if_neg (by decide),if_pos rfl,h1]
 have opL:∀k,k<=5->∀t (s:PS),s.len<=L->Tm fun n=>pM e n (.opL k t) s:=by
  intro k hk t s hs
  rcases h1:Ap k s with ⟨o,s1⟩
  cases o with
  |some x =>
   have hl:=C3 h1
   by_cases h3:k=3
   · exact((lo s1 (by omega) (.part (k+1)) (show k+1<=7 by omega)).then (f:=fun _ u s=>some (.mk 5 x [t,u],s)) fun u s' _=>eM _).succ fun n=>by
      rw[pM,h1];simp only[if_pos h3]
   · exact((lo s1 (by omega) (.part (k+1)) (show k+1<=7 by omega)).then (f:=fun n u s=>pM e n (.opL k (.mk 5 x [t,u])) s) fun u s' hl'=>lo s' (by omega) _ hk).succ fun n=>by
      rw[pM,h1];simp only[if_neg h3]
  |none=>exact(eM (t,s1)).succ fun n=>by rw[pM,h1]
 have up:∀k,k<=5->k≠2->(∀s:PS,s.len<=L->Tm fun n=>pM e n (.part (k+1)) s)->∀s:PS,s.len<=L->Tm fun n=>pM e n (.part k) s:=by
  intro k hk h2 h s hs
  exact((h s hs).then (f:=fun n t s=>pM e n (.opL k t) s) fun t s' hl=>opL k hk t s' (Nat.le_trans hl hs)).succ fun n=>by
   rw[pM,if_neg (by omega),if_neg h2,if_neg (by omega)]
 have p3:=up 3 (by decide) (by decide) (up 4 (by decide) (by decide) (up 5 (by decide) (by decide) p6))
 have p2:∀s:PS,s.len<=L->Tm fun n=>pM e n (.part 2) s:=by
  intro s hs
  rcases h1:cU 4 [n7] s with ⟨o,s1⟩
  cases o with
  |some x=>exact((lo s1 (by have:=dJ h1;omega) (.part 2) (by decide:(2:Nat)<=7)).then fun t s' _=>eM (.mk 4 n7 [t],s')).succ fun n=>by rw[pM,if_neg (by decide),if_pos rfl,h1]
  |none =>
   have e1:=cv h1
   rcases h2:cU 6 [tg] s1 with ⟨o,s2⟩
   cases o with
   |some x=>exact((lo s2 (by have:=dJ h2;subst e1;omega) (.part 2) (by decide:(2:Nat)<=7)).then fun t s' _=>eM (.mk 4 n7 [t],s')).succ fun n=>by rw[pM,if_neg (by decide),if_pos rfl,h1];simp only[h2]
   |none=>exact(p3 s2 (by have:=cv h2;subst this e1;exact hs)).succ fun n=>by rw[pM,if_neg (by decide),if_pos rfl,h1];simp only[h2]
 have p1:=up 1 (by decide) (by decide) p2;have p0:=up 0 (by decide) (by decide) p1
 have part:∀k,k<=7->∀s:PS,s.len<=L->Tm fun n=>pM e n (.part k) s:=fun k hk s hs=>by
  match k,hk with
  | 0,_=>exact p0 s hs
  | 1,_=>exact p1 s hs
  | 2,_=>exact p2 s hs
  | 3,_=>exact p3 s hs
  | 4,_=>exact up 4 (by decide) (by decide) (up 5 (by decide) (by decide) p6) s hs
  | 5,_=>exact up 5 (by decide) (by decide) p6 s hs
  | 6,_=>exact p6 s hs
  | 7,_=>exact p7 s hs
 have expr:∀s:PS,s.len<=L->Tm fun n=>pM e n .expr s:=by
  intro s hs
  rcases h1:cU 4 [nD] s with ⟨o,s1⟩
  cases o with
  |some x=>exact(lo s1 (by have:=dJ h1;omega) (.lt false) trivial).succ fun n=>by rw[pM,h1]
  |none =>
   have e1:=cv h1
   rcases h2:cU 4 [xR] s1 with ⟨o,s2⟩
   cases o with
   |some x=>exact(lo s2 (by have:=dJ h2;subst e1;omega) .choice trivial).succ fun n=>by rw[pM,h1];simp only[h2]
   |none =>
    have e2:=cv h2
    rcases h3:cU 4 [zO] s2 with ⟨o,s3⟩
    cases o with
    |some x=>exact(lo s3 (by have:=dJ h3;subst e2 e1;omega) .fn trivial).succ fun n=>by rw[pM,h1];simp only[h2,h3]
    |none=>exact(p0 s3 (by have:=cv h3;subst this e2 e1;exact hs)).succ fun n=>by rw[pM,h1];simp only[h2,h3]
 have stmt:∀s:PS,s.len<=L->Tm fun n=>pM e n .stmt s:=by
  intro s hs
  rcases h1:cU 4 [nD] s with ⟨o,s1⟩
  cases o with
  |some x=>exact(lo s1 (by have:=dJ h1;omega) (.lt true) trivial).succ fun n=>by rw[pM,h1]
  |none=>exact(expr s1 (by have:=cv h1;subst this;exact hs)).succ fun n=>by rw[pM,h1]
 have blockL:∀l (s:PS),s.len<=L->Tm fun n=>pM e n (.blockL l) s:=by
  intro l s hs;refine((stmt s hs).then (f:=fun n t s=>match cU 6 [[59]] s with
  |(more,s)=>match cU 8 [[125]] s with
   |(some _,s)=>some (.mk 10 [] (l++[t]),s)
   |(none,s)=>if more.isSome && !s.cZ then pM e n (.blockL (l++[t])) s else some (.mk 10 [] (l++[t]),dx e s)) fun t s1 hl=>?_).succ fun n=>by rw[pM]<;>rfl
  rcases h2:cU 6 [[59]] s1 with ⟨o,s2⟩
  rcases h3:cU 8 [[125]] s2 with ⟨q,s3⟩
  simp only[h2,h3];cases q with
  |some x=>exact eM _
  |none =>
   have e3:=cv h3;cases o with
   |none=>simp only[Option.isSome_none,Bool.false_and,Bool.false_eq_true,if_false];exact eM _
   |some x =>
    have:=dJ h2;cases hb:s3.cZ with
    |true=>exact⟨0,_,fun m _=>by show (if _ then _ else _)=_;rw[if_neg (by simp[hb])]⟩
    |false =>
     obtain⟨n,y,h⟩:=lo s3 (by subst e3;omega) (.blockL (l++[t])) trivial;exact⟨n,y,fun m hm=>by show (if _ then _ else _)=_;rw[if_pos (by simp[hb])];exact h m hm⟩
 have block:∀s:PS,s.len<=L->Tm fun n=>pM e n .block s:=fun s hs =>
  (blockL [] _ (Nat.le_trans (iU e 7 [123] s) hs)).succ fun n=>by rw[pM]
 have lt:∀a (s:PS),s.len<=L->Tm fun n=>pM e n (.lt a) s:=by
  intro a s hs;have hl0:(dc e 6 [61] (cY e s).2).len<=L:=Nat.le_trans (iU _ _ _ _) (Nat.le_trans (qB e s).1 hs);refine((expr _ hl0).then (f:=fun n v s1=>match cU 4 [G5] s1 with
  |(some _,s2)=>dO (pM e n .expr s2) fun w s3=>some (.mk 7 (cY e s).1 [v,w],s3)
  |(none,s2)=>some (.mk 7 (cY e s).1 [v],if a then s2 else dx e s2)) fun t s1 hl=>?_).succ fun n=>by rw[pM]<;>rfl
  rcases h2:cU 4 [G5] s1 with ⟨o,s2⟩
  cases o with
  |none=>simp only[h2];exact eM _
  |some x=>simp only[h2];exact(expr s2 (by have:=dJ h2;omega)).then fun w s3 _=>eM _
 have fn:∀s:PS,s.len<=L->Tm fun n=>pM e n .fn s:=by
  intro s hs
  rcases h2:cU 6 [[44]] (cY e s).2 with ⟨o,s2⟩
  have hn:=(qB e s).1;cases o with
  |some x=>exact((lo s2 (by have:=dJ h2;omega) .fn trivial).then fun t s' _=>eM (.mk 8 (cY e s).1 [t],s')).succ fun n=>by rw[pM,h2]
  |none=>exact((expr (dc e 6 [45,62] s2) (by have:=iU e 6 [45,62] s2;have:=cv h2;subst this;omega)).then fun t s' _=>eM (.mk 8 (cY e s).1 [t],s')).succ fun n=>by rw[pM,h2]
 have choice:∀s:PS,s.len<=L->Tm fun n=>pM e n .choice s:=by
  intro s hs;refine((expr s hs).then (f:=fun n a s=>dO (pM e n .block s) fun b s=>match cU 4 [xR] (dc e 4 lK s) with
  |(some _,s)=>dO (pM e n .choice s) fun c s=>some (.mk 6 [] [a,b,c],s)
  |(none,s)=>dO (pM e n .block s) fun c s=>some (.mk 6 [] [a,b,c],s)) fun a s1 h1=>?_).succ fun n=>by rw[pM]<;>rfl
  refine(block s1 (by omega)).then (f:=fun n b s=>match cU 4 [xR] (dc e 4 lK s) with
  |(some _,s)=>dO (pM e n .choice s) fun c s=>some (.mk 6 [] [a,b,c],s)
  |(none,s)=>dO (pM e n .block s) fun c s=>some (.mk 6 [] [a,b,c],s)) fun b s2 h2=>?_
  have hm:=iU e 4 lK s2
  rcases h3:cU 4 [xR] (dc e 4 lK s2) with ⟨o,s3⟩
  cases o with
  |some x=>simp only[h3];exact(lo s3 (by have:=dJ h3;omega) .choice trivial).then fun w s3 _=>eM _
  |none=>simp only[h3];exact(block s3 (by have:=cv h3;subst this;omega)).then fun w s3 _=>eM _
 have argL:∀t (s:PS),s.len<=L->Tm fun n=>pM e n (.argL t) s:=by
  intro t s hs;refine((expr s hs).then (f:=fun n a s=>match cU 6 [[44]] s with
  |(some _,s)=>pM e n (.argL (.mk 9 [] [t,a])) s
  |(none,s)=>pM e n (.callL (.mk 9 [] [t,a])) (dc e 8 [41] s)) fun a s1 h1=>?_).succ fun n=>by rw[pM]<;>rfl
  rcases h2:cU 6 [[44]] s1 with ⟨o,s2⟩
  cases o with
  |some x=>simp only[h2];exact lo s2 (by have:=dJ h2;omega) _ trivial
  |none=>simp only[h2];exact callL _ _ (by have:=iU e 8 [41] s2;have:=cv h2;subst this;omega)
 intro s hs j hj;cases j with
 |stmt=>exact stmt s hs
 |expr=>exact expr s hs
 |lt a=>exact lt a s hs
 |choice=>exact choice s hs
 |fn=>exact fn s hs
 |block=>exact block s hs
 |blockL l=>exact blockL l s hs
 |part k=>exact part k hj s hs
 |opL k t=>exact opL k hj t s hs
 |callL t=>exact callL t s hs
 |argL t=>exact argL t s hs
 |atom=>exact atom s hs
abbrev Tok:=Int×Int×Int
def dF (s:By) (t:Tok):By:=(s.drop t.2.1.toNat).take (t.2.2.toNat-t.2.1.toNat)
def yI (s:By) (t:Tok):Bool:=decide (0<=t.2.1) && decide (t.2.2<=s.length) && decide (t.2.1<=t.2.2)
def iB:List (UInt8×UInt8):=[(110,10),(114,13),(116,9),(34,34),(92,92),(48,0)]
def HN (c:UInt8):UInt8:=match iB.find? (fun p=>p.1 ==c) with|some p=>p.2|none=>c
def oF (t:By):UInt8:=match t[1]? with|some c=>HN c|none=>32
def iP (x:By):List Un->List Un
 | []=>[]
 | [u]=>[(u.1,u.2.1++x,u.2.2)]
 |u::v::l=>u::iP x (v::l)
theorem xE (x:By):∀(l:List Un) (u:Un),iP x (l++[u])=l++[(u.1,u.2.1++x,u.2.2)]
 | [],_=>rfl
 | [a],u=>rfl
 |a::b::l,u=>by
  show a::iP x ((b::l)++[u])=_
  rw[xE x (b::l) u];rfl
theorem vv (x:By):∀l:List Un,(iP x l).length=l.length
 | []=>rfl
 | [_]=>rfl
 |_::b::l=>by show (iP x (b::l)).length+1=_;rw[vv x (b::l)];rfl
inductive UR where
 |er (at_ e:Int)
 |go (out:List Un) (op:Bool)
def jT (s:By) (out:List Un) (op:Bool) (t:Tok):UR :=
 if t.1=0 then .er t.2.1 10
 else if op then
  if t.1=9/\dF s t=[34] then .go out false
  else if t.1=10 then .go (iP [oF (dF s t)] out) true
  else .go (iP (dF s t) out) true
 else if t.1=1\/t.1=2\/t.1=11 then .go out false
 else if out.length=500 then .er t.2.1 3
 else .go (out++[(t.1,if t.1=9 then [] else dF s t,t.2.1)]) (decide (t.1=9))
def iq (s:By):List Tok->List Un->Bool->UR
 | [],out,op=>.go out op
 |t::l,out,op=>match jT s out op t with
  |.er a e=>.er a e
  |.go out op=>iq s l out op
def fH (s:By) (l:List Tok) (m:Int):(Int×Int) ⊕ List Un :=
 if l.all (yI s) then match iq s l [] false with
  |.er a e=>.inl (a,e)
  |.go out op=>if op\/m≠0 then .inl (s.length,10) else .inr out
 else .inl (0,2)
def dy (e:Int):Nat->List Tr->PS->Option (List Tr×PS)
 | 0,_,_=>none
 |n+1,l,s=>if s.len=0 then some (l,s) else (pM e n .stmt s).bind fun p=>match cU 6 [[59]] p.2 with
  |(some _,s2)=>dy e n (l++[p.1]) s2
  |(none,s2)=>dy e n (l++[p.1]) (if s2.len=0 then s2 else dx e s2)
theorem kU (e:Int):∀(L:Nat) (s:PS),s.len<=L->∀l,∃n y,∀m,n<=m->dy e m l s=some y:=by
 intro L
 induction L with
 |zero =>
  intro s hs l
  exact⟨1,(l,s),fun m hm=>by
   obtain⟨m,rfl⟩:∃k,m=k+1:=⟨m-1,by omega⟩
   rw[dy,if_pos (by omega)]⟩
 |succ L ih =>
  intro s hs l
  by_cases h0:s.len=0
  · exact ih s (by omega) l
  obtain⟨n,⟨t,s1⟩,h1⟩:=Fu e _ s (Nat.le_refl _) .stmt trivial;have h1:∀m,n<=m->pM e m .stmt s=some (t,s1):=h1;have hl:=yl (h1 n (Nat.le_refl _))
  rcases h2:cU 6 [[59]] s1 with ⟨o,s2⟩
  cases o with
  |some x =>
   obtain⟨n2,y,h3⟩:=ih s2 (by have:=dJ h2;omega) (l++[t]);refine⟨max n n2+1,y,fun m hm=>?_⟩;obtain⟨m,rfl⟩:∃k,m=k+1:=⟨m-1,by omega⟩
   rw[dy,if_neg h0,h1 m (by omega)];simp only[Option.bind_some,h2];exact h3 m (by omega)
  |none =>
   have e2:=cv h2
   have hle:(if s2.len=0 then s2 else dx e s2).len<=L:=by
    split
    · omega
    · rw[xw];omega
   obtain⟨n2,y,h3⟩:=ih _ hle (l++[t]);refine⟨max n n2+1,y,fun m hm=>?_⟩;obtain⟨m,rfl⟩:∃k,m=k+1:=⟨m-1,by omega⟩
   rw[dy,if_neg h0,h1 m (by omega)];simp only[Option.bind_some,h2];exact h3 m (by omega)
inductive cj (s:By) (l:List Tok) (m:Int):List Tr->Int->Int->Prop where
 |units {a e:Int}:fH s l m= .inl (a,e)->cj s l m [] a e
 |bad {u:List Un}{n:Nat}{k:List Tr}{a:Int}:fH s l m= .inr u->dy s.length n [] (.ok u)=some (k,.bad a)->cj s l m [] a 10
 |ok {u:List Un}{n:Nat}{k:List Tr}{r:List Un}:fH s l m= .inr u->dy s.length n [] (.ok u)=some (k,.ok r)->cj s l m k 0 0
theorem rB (e:Int):∀(n:Nat) (l:List Tr) (s:PS) (y),dy e n l s=some y->dy e (n+1) l s=some y
 | 0,_,_,_,h=>by cases h
 |n+1,l,s,y,h=>by
  rw[dy] at h ⊢;split at h
  · rename_i q;rw[if_pos q];exact h
  · rename_i q;rw[if_neg q];cases h1:pM e n .stmt s with
    |none=>rw[h1] at h;cases h
    |some p =>
     rw[h1] at h;rw[C1 e n _ _ _ h1];simp only[Option.bind_some] at h ⊢
     rcases h2:cU 6 [[59]] p.2 with ⟨o,s2⟩
     rw[h2] at h;cases o<;>exact rB e n _ _ _ h
theorem rC {m:Nat}{l:List Tr}{s:PS} {y} (h:dy e n l s=some y) (hm:n<=m):dy e m l s=some y:=by
 induction m with
 | zero => have : n = 0 := by omega
           subst this;exact h
 |succ m ih =>
  rcases Nat.lt_or_ge m n with q|q
  · have:n=m+1:=by omega
    subst this;exact h
  · exact rB e m l s y (ih q)
theorem nX (s:By) (l:List Tok) (m:Int):∃k a e,cj s l m k a e:=by
 rcases h:fH s l m with ⟨a,e⟩|u
 · exact⟨_,_,_,.units h⟩
 · obtain⟨n,⟨k,r⟩,h2⟩:=kU s.length _ (.ok u) (Nat.le_refl _) [];have h2:=h2 n (Nat.le_refl _);cases r with
   |ok r=>exact⟨_,_,_,.ok h h2⟩
   |bad a=>exact⟨_,_,_,.bad h h2⟩
theorem cj.one {s:By}{l:List Tok}{m:Int}{k k':List Tr}{a a' e':Int}(h:cj s l m k a e) (h':cj s l m k' a' e'):k=k'/\a=a'/\e=e':=by
 have key:∀{u:List Un} {n n' y y'},dy s.length n [] (.ok u)=some y->dy s.length n' [] (.ok u)=some y'->y=y':=fun {u n n' y y'} p q=>by
  have p:=rC p (Nat.le_max_left n n');have q:=rC q (Nat.le_max_right n n');rw[p] at q;exact Option.some.inj q
 cases h with
 |units h =>
  cases h' with
  |units h'=>rw[h] at h';cases h';exact⟨rfl,rfl,rfl⟩
  |bad h' _=>rw[h] at h';cases h'
  |ok h' _=>rw[h] at h';cases h'
 |bad h h2 =>
  cases h' with
  |units h'=>rw[h] at h';cases h'
  |bad h' h3=>rw[h] at h';cases h';have:=key h2 h3;cases this;exact⟨rfl,rfl,rfl⟩
  |ok h' h3=>rw[h] at h';cases h';have:=key h2 h3;cases this
 |ok h h2 =>
  cases h' with
  |units h'=>rw[h] at h';cases h'
  |bad h' h3=>rw[h] at h';cases h';have:=key h2 h3;cases this
  |ok h' h3=>rw[h] at h';cases h';have:=key h2 h3;cases this;exact⟨rfl,rfl,rfl⟩
def Tr.dep:Tr->Nat
 |.mk _ _ l=>depL l+1
where depL:List Tr->Nat
 | []=>0
 |t::l=>max t.dep (depL l)
theorem yS {t:By}{l:List Tr}{x:Tr}(h:x∈l):x.dep<(Tr.mk k t l).dep:=by
 show x.dep<Tr.dep.depL l+1
 have:x.dep<=Tr.dep.depL l:=by
  induction l with
  |nil=>simp at h
  |cons a l ih =>
   show x.dep<=max a.dep (Tr.dep.depL l)
   rcases List.mem_cons.1 h with rfl|h
   · omega
   · have:=ih h;omega
 omega
end
mutual
def rm:Tr->Tr->Bool
 |.mk k t l,.mk k' t' l'=>decide (k=k') && (decide (t=t') && ke l l')
def ke:List Tr->List Tr->Bool
 | [],[]=>true
 |a::l,b::l'=>rm a b && ke l l'
 | [],_::_=>false
 |_::_,[]=>false
end
mutual
theorem wJ:∀a b:Tr,rm a b=true↔a=b
 |.mk k t l,.mk k' t' l'=>by
  rw[rm,Bool.and_eq_true,Bool.and_eq_true,decide_eq_true_iff,decide_eq_true_iff,qx l l',Tr.mk.injEq]
theorem qx:∀l l':List Tr,ke l l'=true↔l=l'
 | [],[]=>by simp[ke]
 |a::l,b::l'=>by rw[ke,Bool.and_eq_true,wJ a b,qx l l',List.cons.injEq]
 | [],_::_=>by simp[ke]
 |_::_,[]=>by simp[ke]
end
section
variable {k e:Int}{n:Nat}
def fJ (c:UInt8):By:=match iB.find? (fun p=>p.2 ==c) with|some p=>[92,p.1] |none=>[c]
def yf (s:By):By:=34::(s.flatMap fJ++[34])
def gJ:List By->By
 | []=>[]
 | [x]=>x
 |x::y::l=>x++([59,32]++gJ (y::l))
def rY (k:List By):By:=[105,102,32]++k.getD 0 []++[32]++k.getD 1 []++[32,101,108,115,101,32]++k.getD 2 []
def tE (k:Int) (t:By) (l:List By):By :=
 if k=1 then yf t
 else if k=4 then [40]++t++[32]++l.getD 0 []++[41]
 else if k=5 then [40]++l.getD 0 []++[32]++t++[32]++l.getD 1 []++[41]
 else if k=6 then [40]++rY l++[41]
 else if k=7 then (if l.length=1 then [108,101,116,32]++t++[32,61,32]++l.getD 0 [] else [40,108,101,116,32]++t++[32,61,32]++l.getD 0 []++[32,105,110,32]++l.getD 1 []++[41])
 else if k=8 then [40,102,117,110,32]++t++[32,45,62,32]++l.getD 0 []++[41]
 else if k=9 then l.getD 0 []++[40]++l.getD 1 []++[41]
 else if k=10 then [123,32]++gJ l++[32,125]
 else t
end
mutual
def bL:Bool->Tr->By
 |bare,.mk k t l=>if k=6/\bare=true then rY (gH (decide (k=6)) 0 l) else tE k t (gH (decide (k=6)) 0 l)
def gH:Bool->Nat->List Tr->List By
 |_,_,[]=>[]
 |six,i,x::l=>bL (six && decide (i=2)) x::gH six (i+1) l
end
section
variable {k e:Int}{n:Nat}
def jj (c:UInt8):Bool:=decide (48<=c) && decide (c<=57)
def isLet (c:UInt8):Bool:=(decide (97<=c) && decide (c<=122)) ||((decide (65<=c) && decide (c<=90)) ||decide (c=95))
def dG (s:By):By:=s.dropWhile jj
def fG (s:By):Bool:=decide ((dG s).length<s.length)
def qI (s:By) (ok:Bool):Bool:=match s with
 |c::r=>if ok=true/\(c=101\/c=69) then
  (match r with
   |d::r'=>if d=43\/d=45 then fG r' && decide (dG r'=[]) else fG r && decide (dG r=[])
   | []=>false)
  else false
 | []=>ok
def Hs (s:By):Bool:=match dG s with
 |c::r=>if fG s=true/\c=46 then qI (dG r) (fG r) else qI (c::r) (fG s)
 | []=>fG s
def om (word:By->Bool) (s:By):Bool :=
 (match s with| []=>false|c::r=>isLet c && r.all fun c=>isLet c ||jj c) && !word s
def ES:List By:=[[45],n7]
def GB:List By:=[zN,l9,[61,61],[33,61],[60],[60,61],[62],[62,61],[43],[45],[42],[47],[37]]
def iV (word:By->Bool) (k:Int) (t:By):Bool :=
 if k=0 then Hs t
 else if k=1 then decide (t.length<=16384)
 else if k=2 then decide (t=lJ) ||decide (t=l7)
 else if k=3\/k=7\/k=8 then om word t
 else if k=4 then decide (t∈ES)
 else if k=5 then decide (t∈GB)
 else decide (t=[])
def fe (k:Int):Nat×Nat :=
 if k=4\/k=8 then (1,1) else if k=5\/k=9 then (2,2) else if k=6 then (3,3) else if k=7 then (1,2) else if k=10 then (1,500) else (0,0)
def og (word:By->Bool) (k:Int) (t:By) (n:Nat):Bool :=
 decide ((fe k).1<=n) && (decide (n<=(fe k).2) && (decide (0<=k) && (decide (k<=10) && iV word k t)))
def F5 (k:Int) (i:Nat):Tr->Bool
 |.mk k' _ l=>(decide (k=10) ||(decide (k'≠7) ||decide (l.length=2))) && (decide (k≠6) ||(decide (i=0) ||(decide (k'=10) ||(decide (i≠1) && decide (k'=6)))))
end
mutual
def eD (word:By->Bool):Tr->Bool
 |.mk k t l=>og word k t l.length && kN word k 0 l
def kN (word:By->Bool) (k:Int):Nat->List Tr->Bool
 |_,[]=>true
 |i,x::l=>(eD word x && F5 k i x) && kN word k (i+1) l
end
end Go.Proofs.YtmehdcdbeafljaaGreatDoor
namespace Go.Proofs.YtmehdcdbeafljaaGreatDoor
open Go Go.Lw
section
variable {h:az}{O:Nat->Prop}{cs:List Value}
def Bv (s q:Nat):Nat:=(s >>> (64*q))%2 ^ 64
def eW (s q:Nat):Value:=.int .u64 (Bv s q:Nat)
def uS (s:Nat):List Value:=[eW s 0,eW s 1,eW s 2,eW s 3]
theorem Bu (s q:Nat):Bv s q<18446744073709551616:=Nat.mod_lt _ (by decide)
theorem kL (s q i:Nat):(Bv s q).testBit i=(decide (i<64) && s.testBit (64*q+i)):=by
 unfold Bv;rw[Nat.testBit_mod_two_pow,Nat.testBit_shiftRight]
theorem EN (s b:Nat) (q:Nat) (h:q≠b / 64):Bv (s |||(1 <<< b)) q=Bv s q:=by
 apply Nat.eq_of_testBit_eq
 intro i;rw[kL,kL,Nat.testBit_or,Nat.one_shiftLeft,Nat.testBit_two_pow]
 by_cases hi:i<64
 · have:b≠64*q+i:=by omega
   simp[this]
 · simp[hi]
theorem EM (s b:Nat):Bv (s |||(1 <<< b)) (b / 64)=Bv s (b / 64) ||| 2 ^ (b%64):=by
 apply Nat.eq_of_testBit_eq
 intro i;rw[kL,Nat.testBit_or,Nat.testBit_or,kL,Nat.one_shiftLeft,Nat.testBit_two_pow,Nat.testBit_two_pow]
 by_cases hi:i<64
 · have:(b=64*(b / 64)+i)↔(b%64=i):=by omega
   simp[hi,this]
 · have:¬b%64=i:=by omega
   simp[hi,this]
theorem ng {i:Int}(h:0<=i/\i<=18446744073709551615):IntKind.u64.wrap i=i:=by
 have h64:(2:Int) ^ 64=18446744073709551616:=rfl;simp only[IntKind.wrap,IntKind.bits,IntKind.signed,h64,Bool.false_and,Bool.false_eq_true,if_false];omega
theorem LH {x y:Nat}(hx:x<18446744073709551616) (hy:y<18446744073709551616):IntKind.u64.wrap ((BitVec.ofInt IntKind.u64.bits (x:Int) |||BitVec.ofInt IntKind.u64.bits (y:Int)).toNat:Int)=((x |||y:Nat):Int):=by
 have e:(BitVec.ofInt IntKind.u64.bits (x:Int) |||BitVec.ofInt IntKind.u64.bits (y:Int)).toNat=x |||y:=by
  rw[BitVec.toNat_or]
  have h1:(BitVec.ofInt IntKind.u64.bits (x:Int)).toNat=x:=by
   show (BitVec.ofInt 64 (x:Int)).toNat=x
   simp only[BitVec.toNat_ofInt];omega
  have h2:(BitVec.ofInt IntKind.u64.bits (y:Int)).toNat=y:=by
   show (BitVec.ofInt 64 (y:Int)).toNat=y
   simp only[BitVec.toNat_ofInt];omega
  rw[h1,h2]
 rw[e];have:x |||y<2 ^ 64:=Nat.or_lt_two_pow hx hy;exact ng ⟨by omega,by omega⟩
theorem JU (b:Nat):IntKind.u64.wrap (1*2 ^ min ((b%64:Nat):Int).toNat IntKind.u64.bits)=((2 ^ (b%64):Nat):Int):=by
 have hb:b%64<64:=Nat.mod_lt _ (by decide);have h1:min ((b%64:Nat):Int).toNat IntKind.u64.bits=b%64:=by show min _ 64=_;simp;omega
 rw[h1,Int.one_mul];have h2:2 ^ (b%64)<2 ^ 64:=Nat.pow_lt_pow_right (by decide) hb;have h3:((2:Int) ^ (b%64))=((2 ^ (b%64):Nat):Int):=by push_cast;rfl
 rw[h3];generalize 2 ^ (b%64)=p at *;exact ng ⟨by omega,by omega⟩
theorem Mi {x:Nat}(hx:x<18446744073709551616):IntKind.u64.wrap ((BitVec.ofInt IntKind.u64.bits (x:Int) &&& BitVec.ofInt IntKind.u64.bits 1).toNat:Int)=((x%2:Nat):Int):=by
 have e:(BitVec.ofInt IntKind.u64.bits (x:Int) &&& BitVec.ofInt IntKind.u64.bits 1).toNat=x%2:=by
  rw[BitVec.toNat_and]
  have h1:(BitVec.ofInt IntKind.u64.bits (x:Int)).toNat=x:=by
   show (BitVec.ofInt 64 (x:Int)).toNat=x
   simp only[BitVec.toNat_ofInt];omega
  rw[h1]
  show x &&& 1=_
  exact Nat.and_one_is_mod x
 rw[e];exact ng ⟨by omega,by omega⟩
theorem JT (x:Nat) (b:Nat) (hb:b<64):((x:Int)).fdiv (2 ^ min ((b:Nat):Int).toNat IntKind.u64.bits)=((x >>> b:Nat):Int):=by
 have h1:min ((b:Nat):Int).toNat IntKind.u64.bits=b:=by show min _ 64=_;simp;omega
 rw[h1,Nat.shiftRight_eq_div_pow];have h3:((2:Int) ^ b)=((2 ^ b:Nat):Int):=by push_cast;rfl
 rw[h3,Int.fdiv_eq_ediv_of_nonneg _ (Int.natCast_nonneg _)]
 push_cast;rfl
theorem Hf (s b:Nat):(Bv s (b / 64) >>> (b%64))%2=(s.testBit b).toNat:=by
 have h:=kL s (b / 64) (b%64);rw[show 64*(b / 64)+b%64=b from Nat.div_add_mod b 64] at h;have hb:b%64<64:=Nat.mod_lt _ (by decide);simp only[hb,decide_true,Bool.true_and] at h;rw[Nat.shiftRight_eq_div_pow,<-Nat.toNat_testBit,h]
def dY (k s:Nat) (v:Value):List Value:=[.int .i64 k,eW s 0,eW s 1,eW s 2,eW s 3,v]
inductive b8 (h:az) (O:Nat->Prop):List Value->Nd->Prop
 |mk (k s:Nat) (kids:List Nd) (oa:Option Addr) (n c:Nat) (css:Nat->List Value) (hl:kids.length=n) (hc:n<=c) (hm:c<=maxLen)
  (hr:∀i x,kids[i]? =some x->∃b o,oa=some ⟨b,o,none⟩/\¬O b/\Lw.rowAt h b (o+i*6) (css i)) (hk:∀i x,kids[i]? =some x->b8 h O (css i) x):b8 h O (dY k s (.slice oa n c)) (.mk k s kids)
theorem b8.len {x:Nd}(k:b8 h O cs x):cs.length=6:=by cases k;rfl
theorem b8.one {x:Nd}(k:b8 h O cs x):∀v∈cs,v.oneCell'=true:=by
 cases k;intro v hv;simp[dY,eW] at hv
 rcases hv with rfl|rfl|rfl|rfl|rfl|rfl<;>rfl
theorem b8.mv {h':az}{O':Nat->Prop}{x:Nd}(k:b8 h O cs x) (m:Mv O O' h h'):b8 h' O' cs x:=by
 induction k with
 |mk k s kids oa n c css hl hc hm hr hk ih =>
  refine .mk k s kids oa n c css hl hc hm (fun i x hx=>?_) ih;obtain⟨b,o,ha,ho,hrow⟩:=hr i x hx;have hne:css i≠[]:=by intro e;have:=(hk i x hx).len;rw[e] at this;cases this
  exact⟨b,o,ha,(m.block b (gx hrow hne) ho).2,m.rowAt ho hrow⟩
def rM:gQ Nd:=⟨6,by decide,b8,b8.len,b8.one,b8.mv⟩
theorem b8.ay {h h':az}{O:Nat->Prop}{cs:List Value}{x:Nd}(k:b8 h O cs x) (e:aD h h'):b8 h' O cs x:=k.mv (Mv.ay e)
theorem b8.of {v:Value}{kids:List Nd}(k s:Nat) (hv:bS rM h O v kids):b8 h O (dY k s v) (.mk k s kids):=by
 obtain⟨oa,n,c,rfl,hl,hc,hm,hg⟩:=hv
 have hx:∀i,i<n->∃cs:List Value,∃x,kids[i]? =some x/\(∃b o,oa=some ⟨b,o,none⟩/\¬O b/\Lw.rowAt h b (o+i*6) cs)/\b8 h O cs x:=by
  intro i hi;obtain⟨b,o,cs,h1,h2,h3,h4⟩:=hg i kids[i] (List.getElem?_eq_getElem (by omega));exact⟨cs,kids[i],List.getElem?_eq_getElem (by omega),⟨b,o,h1,h2,h3⟩,h4⟩
 refine .mk k s kids oa n c (fun i=>if hi:i<n then Classical.choose (hx i hi) else []) hl hc hm (fun i x hxi=>?_) (fun i x hxi=>?_)
 · have hi:i<n:=by rw[<-hl];exact(List.getElem?_eq_some_iff.1 hxi).1
   simp only[dif_pos hi];obtain⟨y,_,h2,_⟩:=Classical.choose_spec (hx i hi);exact h2
 · have hi:i<n:=by rw[<-hl];exact(List.getElem?_eq_some_iff.1 hxi).1
   simp only[dif_pos hi];obtain⟨y,h1,_,h3⟩:=Classical.choose_spec (hx i hi);rw[h1] at hxi;cases hxi;exact h3
theorem b8.open {x:Nd}(k:b8 h O cs x):∃v,cs=dY x.kind x.set v/\bS rM h O v x.kids:=by
 cases k with
 |mk k s kids oa n c css hl hc hm hr hk =>
  exact⟨_,rfl,oa,n,c,rfl,hl,hc,hm,fun i x hx=>by
   obtain⟨b,o,h1,h2,h3⟩:=hr i x hx;exact⟨b,o,css i,h1,h2,h3,hk i x hx⟩⟩
def bs (l:List UInt8):ByteArray:=⟨l.toArray⟩
theorem gK (l:List UInt8):(bs l).data.toList=l:=by simp[bs]
theorem bu (l:List UInt8):(bs l).size=l.length:=by simp[bs,ByteArray.size]
theorem cS (l m:List UInt8):bs l++bs m=bs (l++m):=by
 apply ByteArray.ext
 simp[bs]
theorem eK {l m:List UInt8}(h:bs l=bs m):l=m:=by have:=congrArg (fun x=>x.data.toList) h;simpa [bs] using this
theorem IU (l m:List UInt8):decide (bs l=bs m)=decide (l=m):=by
 rw[decide_eq_decide];exact⟨eK,fun h=>by rw[h]⟩
theorem yY (l:List UInt8):decide (bs l=(⟨#[]⟩:ByteArray))=decide (l=[]):=IU l []
theorem gP {l:List UInt8}{i:Nat}{c:UInt8}(h:l[i]? =some c):(bs l).data[i]? =some c:=by simpa [bs] using h
theorem ny (l:List UInt8) (i:Nat):(bs l).extract i (bs l).size=bs (l.drop i):=by
 apply ByteArray.ext
 apply Array.ext'
 rw[ByteArray.data_extract,Array.toList_extract,List.extract_eq_take_drop];rw[bu];simp only[bs];exact List.take_of_length_le (by simp)
theorem sO (l:List UInt8) (i j:Nat) (_h:i<=j):(bs l).extract i j=bs ((l.take j).drop i):=by
 apply ByteArray.ext
 apply Array.ext'
 rw[ByteArray.data_extract,Array.toList_extract,List.extract_eq_take_drop];simp only[bs];rw[List.drop_take]
theorem JP (c d:UInt8):decide (((c.toNat:Nat):Int)≠((d.toNat:Nat):Int))=decide (c≠d):=by
 rw[decide_eq_decide];exact⟨fun h e=>h (by rw[e]),fun h e=>h (UInt8.toNat_inj.1 (by omega))⟩
theorem Io (c d:UInt8):decide (((c.toNat:Nat):Int)=((d.toNat:Nat):Int))=decide (c=d):=by
 rw[decide_eq_decide];exact⟨fun e=>UInt8.toNat_inj.1 (by omega),fun e=>by rw[e]⟩
theorem dD {c:UInt8}{k:Nat}{d:UInt8}(hd:d.toNat=k):(((c.toNat:Nat):Int)=(k:Int))↔c=d:=by
 subst hd;exact⟨fun e=>UInt8.toNat_inj.1 (by omega),fun e=>by rw[e]⟩
end
end Go.Proofs.YtmehdcdbeafljaaGreatDoor

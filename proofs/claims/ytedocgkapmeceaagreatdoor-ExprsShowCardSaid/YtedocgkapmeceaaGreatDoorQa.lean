/- What the proof of the statement leans on (part 1). -/

namespace Go.Proofs.YtedocgkapmeceaaGreatDoor
abbrev By:=List UInt8
inductive Nd where
 |mk (kind:Nat) (set:Nat) (kids:List Nd)
def Nd.kind:Nd→Nat|.mk k _ _=>k
def Nd.set:Nd→Nat|.mk _ s _=>s
def Nd.kids:Nd→List Nd|.mk _ _ l=>l
def GF:Nat:=2 ^ 256-1
def wN (s a:Nat):Nat→Nat
 | 0=>s
 |n+1=>wN (s |||(1 <<< a)) (a+1) n
def nX (s:Nat) (a b:UInt8):Nat:=wN s a.toNat (b.toNat+1-a.toNat)
def mK (s:Nat):Nat:=GF ^^^ s
def yZ (b:UInt8):Nd:=.mk 1 (nX 0 b b) []
def ID:Nd:=.mk 1 (nX (nX 0 0 9) 11 255) []
def nJ:Nd:=.mk 0 0 []
def fN:By:=[40,41,91,93,124,42,43,63,46,92,45,94]
def lE (b:UInt8):Option Nat :=
 if 48≤b.toNat∧b.toNat≤57 then some (b.toNat-48) else if 97≤b.toNat∧b.toNat≤102 then some (b.toNat-87) else if 65≤b.toNat∧b.toNat≤70 then some (b.toNat-55) else none
def qv:By→Option (UInt8×By)
 | []=>none
 |b::r =>
  if b=110 then some (10,r) else if b=116 then some (9,r) else if b=114 then some (13,r)
  else if b=120 then
   match r with
   |x::y::r=>match lE x,lE y with
    |some m,some n=>some (UInt8.ofNat (m*16+n),r)
    |_,_=>none
   |_=>none
  else if b∈fN then some (b,r) else none
def oM:By→Option (UInt8×By)
 | []=>none
 |b::r=>if b=92 then qv r else if b∈fN then none else some (b,r)
def fk (s:By):Option ((UInt8×UInt8)×By) :=
 match oM s with
 |none=>none
 |some (a,r)=>match r with
  | 45::r'=>match oM r' with
   |none=>none
   |some (b,r'')=>if b.toNat<a.toNat then none else some ((a,b),r'')
  |_=>some ((a,a),r)
def lY:Nat→Nat→By→Option (Nat×By)
 | 0,_,_=>none
 |n+1,acc,s=>match fk s with
  |none=>none
  |some ((a,b),r)=>match r with
   | 93::r'=>some (nX acc a b,r')
   |_=>lY n (nX acc a b) r
def iu (s:By):Option (Nd×By) :=
 match s with
 | 94::r=>(lY (r.length+1) 0 r).map fun p=>(.mk 1 (mK p.1) [],p.2)
 |_=>(lY (s.length+1) 0 s).map fun p=>(.mk 1 p.1 [],p.2)
def fC (rows:By→Option (Nd×By)):By→Option (Nd×By)
 | []=>none
 |c::r =>
  if c=40 then
   match rows r with
   |none=>none
   |some (n,r')=>match r' with
    | 41::r''=>some (n,r'')
    |_=>none
  else if c=91 then iu r
  else if c=46 then some (ID,r)
  else if c=92 then (qv r).map fun p=>(yZ p.1,p.2)
  else if c∈[(41:UInt8),93,124,42,43,63] then none
  else some (yZ c,r)
def dJ (c:UInt8):Nat:=if c=42 then 4 else if c=43 then 5 else if c=63 then 6 else 0
def eZ (n:Nd):By→Nd×By
 | []=>(n,[])
 |c::r=>if dJ c=0 then (n,c::r) else eZ (.mk (dJ c) 0 [n]) r
def fX (rows:By→Option (Nd×By)) (s:By):Option (Nd×By) :=
 (fC rows s).map fun p=>eZ p.1 p.2
def cD (kind:Nat):List Nd→Nd
 | []=>nJ
 | [n]=>n
 |l=>.mk kind 0 l
def jN:By→Bool
 | []=>true
 |c::_=>c ==124 ||c ==41
def mE (rows:By→Option (Nd×By)):Nat→By→Option (List Nd×By)
 | 0,_=>none
 |n+1,s=>if jN s then some ([],s) else
  match fX rows s with
  |none=>none
  |some (x,r)=>(mE rows n r).map fun p=>(x::p.1,p.2)
def iG (rows:By→Option (Nd×By)):Nat→List Nd→List Nd→By→Option (Nd×By)
 | 0,_,_,_=>none
 |n+1,all,row,s=>if jN s then
  if s.head? =some 124 then iG rows n (all++[cD 2 row]) [] s.tail
  else some (cD 3 (all++[cD 2 row]),s)
  else match fX rows s with
   |none=>none
   |some (x,r)=>iG rows n all (row++[x]) r
def ew:Nat→By→Option (Nd×By)
 | 0,_=>none
 |d+1,s=>iG (ew d) (s.length+1) [] [] s
def jO (s:By):Option Nd :=
 match ew (s.length+1) s with
 |some (n,[])=>some n
 |_=>none
theorem u7 {s:By}{b:UInt8}{r:By}(h:qv s=some (b,r)):r.length<s.length:=by
 unfold qv at h;split at h
 · cases h
 · rename_i c t;split at h
   · cases h;simp
   · split at h
     · cases h;simp
     · split at h
       · cases h;simp
       · split at h
         · split at h
           · split at h
             · cases h;simp only[List.length_cons];omega
             · cases h
           · cases h
         · split at h
           · cases h;simp
           · cases h
theorem qd {s:By}{b:UInt8}{r:By}(h:oM s=some (b,r)):r.length<s.length:=by
 unfold oM at h;split at h
 · cases h
 · split at h
   · have:=u7 h;simp only[List.length_cons];omega
   · split at h
     · cases h
     · cases h;simp
theorem mR {s:By}{p:UInt8×UInt8}{r:By}(h:fk s=some (p,r)):r.length<s.length:=by
 unfold fk at h;split at h
 · cases h
 · rename_i a t ha;have h1:=qd ha;split at h
   · rename_i t';split at h
     · cases h
     · rename_i b t'' hb;have h2:=qd hb;split at h
       · cases h
       · cases h;simp only[List.length_cons] at h1;omega
   · cases h;exact h1
theorem qR:∀(n acc:Nat){s:By}{m:Nat}{r:By},lY n acc s=some (m,r)→r.length<s.length
 | 0,_,s,m,r,h=>by cases h
 |n+1,acc,s,m,r,h=>by
  rw[lY] at h;split at h
  · cases h
  · rename_i a b t ht;have h1:=mR ht;split at h
    · cases h;simp only[List.length_cons] at h1;omega
    · have:=qR n _ h;omega
theorem qE {s:By}{x:Nd}{r:By}(h:iu s=some (x,r)):r.length<s.length:=by
 unfold iu at h;split at h
 · rename_i t;simp only[Option.map_eq_some_iff] at h;obtain⟨⟨m,r'⟩,h1,h2⟩:=h;cases h2;have:=qR _ _ h1;simp only[List.length_cons];omega
 · simp only[Option.map_eq_some_iff] at h;obtain⟨⟨m,r'⟩,h1,h2⟩:=h;cases h2;exact qR _ _ h1
theorem xI {rows:By→Option (Nd×By)}(hr:∀{s x r},rows s=some (x,r)→r.length≤s.length){s:By}{x:Nd}{r:By}(h:fC rows s=some (x,r)):r.length<s.length:=by
 unfold fC at h;split at h
 · cases h
 · rename_i c t;simp only[List.length_cons];split at h
   · split at h
     · cases h
     · rename_i n t' ht;have:=hr ht;split at h
       · rename_i t'' _;cases h;simp only[List.length_cons] at this;omega
       · cases h
   · split at h
     · have:=qE h;omega
     · split at h
       · cases h;omega
       · split at h
         · simp only[Option.map_eq_some_iff] at h;obtain⟨⟨b,r'⟩,h1,h2⟩:=h;cases h2;have:=u7 h1;dsimp only;omega
         · split at h
           · cases h
           · cases h;omega
theorem tQ:∀(s:By) (n:Nd),(eZ n s).2.length≤s.length
 | [],n=>by simp[eZ]
 |c::r,n=>by
  rw[eZ];split
  · simp
  · have:=tQ r (.mk (dJ c) 0 [n]);simp only[List.length_cons];omega
theorem fW {rows:By→Option (Nd×By)}(hr:∀{s x r},rows s=some (x,r)→r.length≤s.length){s:By}{x:Nd}{r:By}(h:fX rows s=some (x,r)):r.length<s.length:=by
 unfold fX at h;simp only[Option.map_eq_some_iff] at h;obtain⟨⟨n,t⟩,h1,h2⟩:=h;have h3:=xI hr h1;have h4:=tQ t n;rw[h2] at h4;simp only at h4;omega
theorem qU {rows:By→Option (Nd×By)}(hr:∀{s x r},rows s=some (x,r)→r.length≤s.length):∀(n:Nat) (all row:List Nd){s:By}{x:Nd}{r:By},iG rows n all row s=some (x,r)→r.length≤s.length∧(r=[]∨r.head? =some 41)
 | 0,_,_,s,x,r,h=>by cases h
 |n+1,all,row,s,x,r,h=>by
  rw[iG] at h;split at h
  · rename_i he;split at h
    · have:=qU hr n _ _ h;exact⟨by have h2:=this.1;simp only[List.length_tail] at h2;omega,this.2⟩
    · rename_i hn;cases h;refine⟨Nat.le_refl _,?_⟩;cases s with
      |nil=>exact .inl rfl
      |cons c t =>
       right
       unfold jN at he;have h1:c≠124:=fun e=>hn (by rw[e];rfl)
       simp[h1] at he;simp[he]
  · split at h
    · cases h
    · rename_i y t ht;have h1:=fW hr ht;have h2:=qU hr n _ _ h;exact⟨by omega,h2.2⟩
theorem kE:∀(d:Nat){s:By}{x:Nd}{r:By},ew d s=some (x,r)→r.length≤s.length
 | 0,s,x,r,h=>by cases h
 |d+1,s,x,r,h=>(qU (fun h=>kE d h) _ _ _ h).1
theorem Al {rows:By→Option (Nd×By)}(hr:∀{s x r},rows s=some (x,r)→r.length≤s.length):∀(n:Nat){s:By}{l:List Nd}{r:By},mE rows n s=some (l,r)→r.length≤s.length∧jN r=true∧l.length≤s.length
 | 0,s,l,r,h=>by cases h
 |n+1,s,l,r,h=>by
  rw[mE] at h;split at h
  · rename_i he;cases h;exact⟨Nat.le_refl _,he,Nat.zero_le _⟩
  · split at h
    · cases h
    · rename_i y t ht;have h1:=fW hr ht;simp only[Option.map_eq_some_iff] at h;obtain⟨⟨m,r'⟩,h2,h3⟩:=h;cases h3;have h4:=Al hr n h2;have h5:=h4.1;have h6:=h4.2.2;exact⟨by first|omega|(dsimp only;omega),h4.2.1,by simp only[List.length_cons];first|omega|(dsimp only at h6;omega)⟩
theorem tZ {rows:By→Option (Nd×By)}(hr:∀{s x r},rows s=some (x,r)→r.length≤s.length):∀(k:Nat) (n m:Nat) (all row:List Nd) (s:By),s.length≤k→s.length<n→s.length<m→iG rows n all row s=iG rows m all row s:=by
 intro k
 induction k with
 |zero =>
  intro n m all row s hk hn hm;cases n with
  |zero=>omega
  |succ n =>
   cases m with
   |zero=>omega
   |succ m =>
    have:s=[]:=List.eq_nil_of_length_eq_zero (by omega);subst this;rfl
 |succ k ih =>
  intro n m all row s hk hn hm;cases n with
  |zero=>omega
  |succ n =>
   cases m with
   |zero=>omega
   |succ m =>
    rw[iG,iG];split
    · split
      · rename_i h1;have h2:s.tail.length+1=s.length:=by cases s with|nil=>cases h1|cons a b=>simp
        exact ih _ _ _ _ _ (by omega) (by omega) (by omega)
      · rfl
    · cases hp:fX rows s with
      |none=>rfl
      |some p =>
       obtain⟨y,t⟩:=p;have:=fW hr hp;exact ih _ _ _ _ _ (by omega) (by omega) (by omega)
theorem wR {rows:By→Option (Nd×By)}(hr:∀{s x r},rows s=some (x,r)→r.length≤s.length):∀(n m:Nat) (s:By),s.length<n→s.length<m→mE rows n s=mE rows m s
 | 0,_,_,h,_=>by omega
 |_,0,_,_,h=>by omega
 |n+1,m+1,s,hn,hm=>by
  rw[mE,mE];split
  · rfl
  · cases hp:fX rows s with
    |none=>rfl
    |some p =>
     obtain⟨y,t⟩:=p;have:=fW hr hp;simp only;rw[wR hr n m t (by omega) (by omega)]
def yl (rows:By→Option (Nd×By)) (s:By):Option (Nd×By):=(mE rows (s.length+1) s).map fun p=>(cD 2 p.1,p.2)
def sC (rows:By→Option (Nd×By)) (all:List Nd) (m:By):Option (Nd×By) :=
 if m.head? =some 124 then iG rows (m.tail.length+1) all [] m.tail else some (cD 3 all,m)
theorem DQ {rows:By→Option (Nd×By)}(hr:∀{s x r},rows s=some (x,r)→r.length≤s.length):∀(n m:Nat) (all row:List Nd) (s:By),s.length<n→s.length<m →
 iG rows n all row s=match mE rows m s with
  |none=>none
  |some (l,r)=>if r.head? =some 124 then iG rows (r.length+1) (all++[cD 2 (row++l)]) [] r.tail else some (cD 3 (all++[cD 2 (row++l)]),r):=by
 have fuel:=fun k=>@tZ rows hr k
 intro n
 induction n with
 |zero=>intro m all row s h;omega
 |succ n ih =>
  intro m all row s hn hm;cases m with
  |zero=>omega
  |succ m =>
   rw[iG,mE]
   by_cases he:jN s=true
   · rw[if_pos he,if_pos he];simp only[List.append_nil];split
     · rename_i h1;have h2:s.tail.length+1=s.length:=by cases s with|nil=>cases h1|cons a b=>simp
       exact fuel _ _ _ _ _ _ (Nat.le_refl _) (by omega) (by omega)
     · rfl
   · rw[if_neg he,if_neg he];cases hp:fX rows s with
     |none=>rfl
     |some p =>
      obtain⟨y,t⟩:=p;have hlt:=fW hr hp;simp only;rw[ih m all (row++[y]) t (by omega) (by omega)];cases hl:mE rows m t with
      |none=>rfl
      |some q =>
       obtain⟨l,r⟩:=q;simp only[Option.map_some,List.append_assoc,List.singleton_append]
theorem ud {rows:By→Option (Nd×By)}(hr:∀{s x r},rows s=some (x,r)→r.length≤s.length) (all:List Nd) (s:By) :
 iG rows (s.length+1) all [] s=match yl rows s with|none=>none|some (x,r)=>sC rows (all++[x]) r:=by
 rw[DQ hr _ (s.length+1) _ _ _ (Nat.lt_succ_self _) (Nat.lt_succ_self _)];unfold yl;cases hl:mE rows (s.length+1) s with
 |none=>rfl
 |some q =>
  obtain⟨l,r⟩:=q;simp only[Option.map_some,List.nil_append,sC];split
  · exact tZ hr r.length _ _ _ _ _ (by simp) (by simp;omega) (by omega)
  · rfl
theorem Ak {rows:By→Option (Nd×By)}(hr:∀{s x r},rows s=some (x,r)→r.length≤s.length){s:By}{x:Nd}{r:By}(h:yl rows s=some (x,r)):r.length≤s.length:=by
 unfold yl at h;simp only[Option.map_eq_some_iff] at h;obtain⟨⟨l,r'⟩,h1,h2⟩:=h;cases h2;exact(Al hr _ h1).1
def ck (s:By):Nd×Int:=if 200<s.length then (nJ,3) else match jO s with|some x=>(x,0)|none=>(nJ,10)
end Go.Proofs.YtedocgkapmeceaaGreatDoor
namespace Go.Proofs.YtedocgkapmeceaaGreatDoor
open Go
section
variable {k:Int}
inductive Tr where
 |mk (k:Int) (t:By) (l:List Tr)
def Tr.kind:Tr→Int|.mk k _ _=>k
def Tr.text:Tr→By|.mk _ t _=>t
def Tr.kids:Tr→List Tr|.mk _ _ l=>l
abbrev Un:=Int×By×Int
inductive PS where
 |ok (r:List Un)
 |bad (m:Int)
def PS.dm:PS→Bool|.ok _=>false|.bad _=>true
def PS.len:PS→Nat|.ok r=>r.length|.bad _=>0
def Kx (e:Int):List Un→Int| []=>e|u::_=>u.2.2
def dM (e:Int):PS→PS|.ok r=>.bad (Kx e r)|.bad m=>.bad m
def dL (k:Int) (ts:List By):PS→Option By×PS
 |.ok (u::r)=>if u.1=k∧u.2.1∈ts then (some u.2.1,.ok r) else (none,.ok (u::r))
 |.ok []=>(none,.ok [])
 |.bad m=>(none,.bad m)
def eK (e k:Int) (t:By) (s:PS):PS:=match (dL k [t] s).1 with|some _=>(dL k [t] s).2|none=>dM e (dL k [t] s).2
def dX (e:Int):PS→By×PS
 |.ok (u::r)=>if u.1=3 then (u.2.1,.ok r) else ([],dM e (.ok (u::r)))
 |.ok []=>([],dM e (.ok []))
 |.bad m=>([],.bad m)
abbrev wk:By:=[108,101,116]
abbrev JE:By:=[105,110]
abbrev GV:By:=[105,102]
abbrev zQ:By:=[101,108,115,101]
abbrev EZ:By:=[102,117,110]
abbrev Bt:By:=[111,114]
abbrev nN:By:=[97,110,100]
abbrev sO:By:=[110,111,116]
abbrev iS:By:=[116,114,117,101]
abbrev kZ:By:=[102,97,108,115,101]
abbrev tL:By:=[124,124]
abbrev tM:By:=[38,38]
abbrev zR:By:=[33]
abbrev oB:By:=[45]
abbrev E0:List By:=[[61,61],[33,61],[60],[60,61],[62],[62,61]]
abbrev EY:List By:=[[43],[45]]
abbrev zP:List By:=[[42],[47],[37]]
def DX (k:Nat) (s:PS):Option By×PS :=
 if k=0 then (match dL 4 [Bt] s with|(some _,s)=>(some Bt,s)|(none,s)=>match dL 6 [tL] s with|(some _,s)=>(some Bt,s)|(none,s)=>(none,s))
 else if k=1 then (match dL 4 [nN] s with|(some _,s)=>(some nN,s)|(none,s)=>match dL 6 [tM] s with|(some _,s)=>(some nN,s)|(none,s)=>(none,s))
 else if k=3 then dL 6 E0 s
 else if k=4 then dL 6 EY s
 else dL 6 zP s
inductive Jy where
 |stmt|expr|lt (alone:Bool)|choice|fn|block
 |blockL (l:List Tr)|part (k:Nat)|opL (k:Nat) (t:Tr)|callL (t:Tr)|argL (t:Tr)|atom
def nj (u:Un):Option Tr :=
 if u.1=5 then some (.mk 0 u.2.1 []) else if u.1=9 then some (.mk 1 u.2.1 []) else if u.1=3 then some (.mk 3 u.2.1 [])
 else if u.1=4∧(u.2.1=iS∨u.2.1=kZ) then some (.mk 2 u.2.1 []) else none
def wI:Tr:=.mk 0 [] []
abbrev EG:=Option (Tr×PS)
def gH (a:EG) (f:Tr→PS→EG):EG:=a.bind fun p=>f p.1 p.2
def pM (e:Int):Nat→Jy→PS→EG
 | 0,_,_=>none
 |n+1,.stmt,s=>match dL 4 [wk] s with
  |(some _,s)=>pM e n (.lt true) s
  |(none,s)=>pM e n .expr s
 |n+1,.expr,s=>match dL 4 [wk] s with
  |(some _,s)=>pM e n (.lt false) s
  |(none,s)=>match dL 4 [GV] s with
   |(some _,s)=>pM e n .choice s
   |(none,s)=>match dL 4 [EZ] s with
    |(some _,s)=>pM e n .fn s
    |(none,s)=>pM e n (.part 0) s
 |n+1,.lt alone,s=>gH (pM e n .expr (eK e 6 [61] (dX e s).2)) fun v s1=>match dL 4 [JE] s1 with
  |(some _,s2)=>gH (pM e n .expr s2) fun w s3=>some (.mk 7 (dX e s).1 [v,w],s3)
  |(none,s2)=>some (.mk 7 (dX e s).1 [v],if alone then s2 else dM e s2)
 |n+1,.choice,s=>gH (pM e n .expr s) fun a s=>gH (pM e n .block s) fun b s=>match dL 4 [GV] (eK e 4 zQ s) with
  |(some _,s)=>gH (pM e n .choice s) fun c s=>some (.mk 6 [] [a,b,c],s)
  |(none,s)=>gH (pM e n .block s) fun c s=>some (.mk 6 [] [a,b,c],s)
 |n+1,.fn,s=>match dL 6 [[44]] (dX e s).2 with
  |(some _,s1)=>gH (pM e n .fn s1) fun a s2=>some (.mk 8 (dX e s).1 [a],s2)
  |(none,s1)=>gH (pM e n .expr (eK e 6 [45,62] s1)) fun a s2=>some (.mk 8 (dX e s).1 [a],s2)
 |n+1,.block,s=>pM e n (.blockL []) (eK e 7 [123] s)
 |n+1,.blockL l,s=>gH (pM e n .stmt s) fun t s=>match dL 6 [[59]] s with
  |(more,s)=>match dL 8 [[125]] s with
   |(some _,s)=>some (.mk 10 [] (l++[t]),s)
   |(none,s)=>if more.isSome && !s.dm then pM e n (.blockL (l++[t])) s else some (.mk 10 [] (l++[t]),dM e s)
 |n+1,.part k,s =>
  if k=7 then gH (pM e n .atom s) fun t s=>pM e n (.callL t) s
  else if k=2 then match dL 4 [sO] s with
   |(some _,s)=>gH (pM e n (.part 2) s) fun t s=>some (.mk 4 sO [t],s)
   |(none,s)=>match dL 6 [zR] s with
    |(some _,s)=>gH (pM e n (.part 2) s) fun t s=>some (.mk 4 sO [t],s)
    |(none,s)=>pM e n (.part 3) s
  else if k=6 then match dL 6 [oB] s with
   |(some _,s)=>gH (pM e n (.part 6) s) fun t s=>some (.mk 4 oB [t],s)
   |(none,s)=>pM e n (.part 7) s
  else gH (pM e n (.part (k+1)) s) fun t s=>pM e n (.opL k t) s
 |n+1,.opL k t,s=>match DX k s with
  |(some op,s)=>gH (pM e n (.part (k+1)) s) fun u s=>if k=3 then some (.mk 5 op [t,u],s) else pM e n (.opL k (.mk 5 op [t,u])) s
  |(none,s)=>some (t,s)
 |n+1,.callL t,s=>match dL 7 [[40]] s with
  |(some _,s)=>pM e n (.argL t) s
  |(none,s)=>some (t,s)
 |n+1,.argL t,s=>gH (pM e n .expr s) fun a s=>match dL 6 [[44]] s with
  |(some _,s)=>pM e n (.argL (.mk 9 [] [t,a])) s
  |(none,s)=>pM e n (.callL (.mk 9 [] [t,a])) (eK e 8 [41] s)
 |n+1,.atom,s=>match s with
  |.bad m=>some (wI,.bad m)
  |.ok []=>some (wI,dM e (.ok []))
  |.ok (u::r)=>match nj u with
   |some t=>some (t,.ok r)
   |none=>if u.1=7∧u.2.1=[123] then pM e n .block (.ok (u::r))
    else if u.1=7∧u.2.1=[40] then gH (pM e n .expr (.ok r)) fun t s=>some (t,eK e 8 [41] s)
    else some (wI,dM e (.ok (u::r)))
theorem mQ (k:Int) (ts:List By) (u:Un) (r:List Un):dL k ts (.ok (u::r))=if u.1=k∧u.2.1∈ts then (some u.2.1,.ok r) else (none,.ok (u::r)):=rfl
theorem oI (e:Int) (u:Un) (r:List Un):dX e (.ok (u::r))=if u.1=3 then (u.2.1,.ok r) else ([],dM e (.ok (u::r))):=rfl
theorem Hu (k:Int) (ts:List By) (m:Int):dL k ts (.bad m)=(none,.bad m):=rfl
theorem eD {ts:List By}{s s':PS}(h:dL k ts s=(none,s')):s'=s:=by
 cases s with
 |bad m=>cases h;rfl
 |ok r=>cases r with
  |nil=>cases h;rfl
  |cons u r=>rw[mQ] at h;split at h<;>cases h;rfl
theorem uO {ts:List By}{s s':PS}{t:By}(h:dL k ts s=(some t,s')):∃u r,s= .ok (u::r)∧s'= .ok r∧u.1=k∧u.2.1=t∧t∈ts:=by
 cases s with
 |bad m=>cases h
 |ok r=>cases r with
  |nil=>cases h
  |cons u r=>rw[mQ] at h;split at h<;>cases h;rename_i q;exact⟨u,r,rfl,rfl,q.1,rfl,q.2⟩
theorem qo {ts:List By}{s s':PS}{t:By}(h:dL k ts s=(some t,s')):s.len=s'.len+1:=by
 obtain⟨u,r,rfl,rfl,_⟩:=uO h;simp[PS.len]
theorem xE (e:Int) (s:PS):∃m,dM e s= .bad m:=by cases s<;>exact⟨_,rfl⟩
theorem D5 (e k:Int) (t:By) (s:PS):(eK e k t s).len≤s.len:=by
 unfold eK
 rcases hq:dL k [t] s with ⟨q,s'⟩
 cases q with
 |none=>have:=eD hq;subst this;obtain⟨m,hm⟩:=xE e s';simp[hm,PS.len]
 |some x=>have:=qo hq;simp;omega
theorem D4 (e:Int) (s:PS):(dX e s).2.len≤s.len∧((dX e s).2.len<s.len∨(dX e s).2.dm=true):=by
 cases s with
 |bad m=>simp[dX,PS.dm]
 |ok r=>cases r with
  |nil=>simp[dX,dM,PS.dm,PS.len]
  |cons u r =>
   rw[oI];split
   · simp[PS.len]
   · simp[dM,PS.len,PS.dm]
theorem En (e:Int) (s:PS):(dM e s).len=0:=by cases s<;>rfl
theorem Fx {k:Nat}{s s':PS}(h:DX k s=(none,s')):s'=s:=by
 unfold DX at h;split at h
 · rcases hq:dL 4 [Bt] s with ⟨q,s1⟩
   rw[hq] at h;cases q with
   |some x=>simp at h
   |none =>
    have e1:=eD hq;subst e1
    rcases hq2:dL 6 [tL] s1 with ⟨q,s2⟩
    simp only[hq2] at h;cases q with
    |some x=>simp at h
    |none=>have:=eD hq2;subst this;simp at h;exact h.symm
 · split at h
   · rcases hq:dL 4 [nN] s with ⟨q,s1⟩
     rw[hq] at h;cases q with
     |some x=>simp at h
     |none =>
      have e1:=eD hq;subst e1
      rcases hq2:dL 6 [tM] s1 with ⟨q,s2⟩
      simp only[hq2] at h;cases q with
      |some x=>simp at h
      |none=>have:=eD hq2;subst this;simp at h;exact h.symm
   · split at h
     · exact eD h
     · split at h<;>exact eD h
theorem Au {k:Nat}{s s':PS}{t:By}(h:DX k s=(some t,s')):∃u r,s= .ok (u::r)∧s'= .ok r:=by
 have key:∀{k ts}{s s':PS}{t:By},dL k ts s=(some t,s')→∃u r,s= .ok (u::r)∧s'= .ok r:=fun h=>by
  obtain⟨u,r,h1,h2,_⟩:=uO h;exact⟨u,r,h1,h2⟩
 unfold DX at h;split at h
 · rcases hq:dL 4 [Bt] s with ⟨q,s1⟩
   rw[hq] at h;cases q with
   |some x=>simp at h;rw[←h.2];exact key hq
   |none =>
    have e1:=eD hq;subst e1
    rcases hq2:dL 6 [tL] s1 with ⟨q,s2⟩
    simp only[hq2] at h;cases q with
    |some x=>simp at h;rw[←h.2];exact key hq2
    |none=>simp at h
 · split at h
   · rcases hq:dL 4 [nN] s with ⟨q,s1⟩
     rw[hq] at h;cases q with
     |some x=>simp at h;rw[←h.2];exact key hq
     |none =>
      have e1:=eD hq;subst e1
      rcases hq2:dL 6 [tM] s1 with ⟨q,s2⟩
      simp only[hq2] at h;cases q with
      |some x=>simp at h;rw[←h.2];exact key hq2
      |none=>simp at h
   · split at h
     · exact key h
     · split at h<;>exact key h
theorem G6 {k:Nat}{s s':PS}{t:By}(h:DX k s=(some t,s')):s.len=s'.len+1:=by
 obtain⟨u,r,rfl,rfl⟩:=Au h;simp[PS.len]
theorem aY {a:EG}{f:Tr→PS→EG}{y:Tr×PS}(h:gH a f=some y):∃t s,a=some (t,s)∧f t s=some y:=by
 cases a with
 |none=>cases h
 |some p=>exact⟨p.1,p.2,rfl,h⟩
theorem yw (e:Int):∀(n:Nat) (j:Jy) (s:PS) (t:Tr) (s':PS),pM e n j s=some (t,s')→s'.len≤s.len∧(∀m,s= .bad m→s'= .bad m)
 | 0,_,_,_,_,h=>by cases h
 |n+1,j,s,t,s',h=>by
  have ih:=yw e n;have hm:∀{k t}{s:PS},(eK e k t s).len≤s.len∧(∀m,s= .bad m→eK e k t s= .bad m):=fun {k t s}=>⟨D5 e k t s,fun m q=>by subst q;rfl⟩
  have hi:∀{k ts}{s s':PS} {o},dL k ts s=(o,s')→s'.len≤s.len∧(∀m,s= .bad m→s'= .bad m):=fun {k ts s s' o} q=>by
   cases o with
   |none=>have:=eD q;subst this;exact⟨Nat.le_refl _,fun m q=>q⟩
   |some x=>exact⟨by have:=qo q;omega,fun m q2=>by subst q2;cases q⟩
  have ho:∀{k}{s s':PS} {o},DX k s=(o,s')→s'.len≤s.len∧(∀m,s= .bad m→s'= .bad m):=fun {k s s' o} q=>by
   cases o with
   |none=>have:=Fx q;subst this;exact⟨Nat.le_refl _,fun m q=>q⟩
   |some x=>exact⟨by have:=G6 q;omega,fun m q2=>by subst q2;obtain⟨_,_,q3,_⟩:=Au q;cases q3⟩
  have hn:∀{s:PS},(dX e s).2.len≤s.len∧(∀m,s= .bad m→(dX e s).2= .bad m):=fun {s}=>⟨(D4 e s).1,fun m q=>by subst q;rfl⟩
  have hf:∀{s:PS},(dM e s).len≤s.len∧(∀m,s= .bad m→dM e s= .bad m):=fun {s}=>⟨by rw[En];omega,fun m q=>by subst q;rfl⟩
  have tr:∀{a b c:PS},(b.len≤a.len∧(∀m,a= .bad m→b= .bad m))→(c.len≤b.len∧(∀m,b= .bad m→c= .bad m))→(c.len≤a.len∧(∀m,a= .bad m→c= .bad m)) :=
   fun p q=>⟨Nat.le_trans q.1 p.1,fun m r=>q.2 m (p.2 m r)⟩
  cases j with
  |stmt =>
   simp only[pM] at h
   rcases h1:dL 4 [wk] s with ⟨o,s1⟩
   rw[h1] at h;cases o<;>exact tr (hi h1) (ih _ _ _ _ h)
  |expr =>
   simp only[pM] at h
   rcases h1:dL 4 [wk] s with ⟨o,s1⟩
   rw[h1] at h;cases o with
   |some x=>exact tr (hi h1) (ih _ _ _ _ h)
   |none =>
    simp only at h
    rcases h2:dL 4 [GV] s1 with ⟨o,s2⟩
    rw[h2] at h;cases o with
    |some x=>exact tr (hi h1) (tr (hi h2) (ih _ _ _ _ h))
    |none =>
     simp only at h
     rcases h3:dL 4 [EZ] s2 with ⟨o,s3⟩
     rw[h3] at h;cases o<;>exact tr (hi h1) (tr (hi h2) (tr (hi h3) (ih _ _ _ _ h)))
  |lt alone =>
   simp only[pM] at h;obtain⟨v,s1,h1,h⟩:=aY h;have k1:=tr hn (tr hm (ih _ _ _ _ h1))
   rcases h2:dL 4 [JE] s1 with ⟨o,s2⟩
   rw[h2] at h;cases o with
   |some x =>
    simp only at h;obtain⟨w,s3,h3,h⟩:=aY h;cases h;exact tr k1 (tr (hi h2) (ih _ _ _ _ h3))
   |none =>
    simp only at h;cases h;cases alone
    · exact tr k1 (tr (hi h2) hf)
    · exact tr k1 (hi h2)
  |choice =>
   simp only[pM] at h;obtain⟨a,s1,h1,h⟩:=aY h;obtain⟨b,s2,h2,h⟩:=aY h;have k:=tr (ih _ _ _ _ h1) (tr (ih _ _ _ _ h2) (hm (k:=4) (t:=zQ)))
   rcases h3:dL 4 [GV] (eK e 4 zQ s2) with ⟨o,s3⟩
   rw[h3] at h;cases o with
   |some x=>simp only at h;obtain⟨c,s4,h4,h⟩:=aY h;cases h;exact tr k (tr (hi h3) (ih _ _ _ _ h4))
   |none=>simp only at h;obtain⟨c,s4,h4,h⟩:=aY h;cases h;exact tr k (tr (hi h3) (ih _ _ _ _ h4))
  |fn =>
   simp only[pM] at h
   rcases h3:dL 6 [[44]] (dX e s).2 with ⟨o,s3⟩
   rw[h3] at h;cases o with
   |some x=>simp only at h;obtain⟨c,s4,h4,h⟩:=aY h;cases h;exact tr hn (tr (hi h3) (ih _ _ _ _ h4))
   |none=>simp only at h;obtain⟨c,s4,h4,h⟩:=aY h;cases h;exact tr hn (tr (hi h3) (tr hm (ih _ _ _ _ h4)))
  |block=>simp only[pM] at h;exact tr hm (ih _ _ _ _ h)
  |blockL l =>
   simp only[pM] at h;obtain⟨t1,s1,h1,h⟩:=aY h
   rcases h2:dL 6 [[59]] s1 with ⟨o,s2⟩
   rw[h2] at h;simp only at h
   rcases h3:dL 8 [[125]] s2 with ⟨q,s3⟩
   rw[h3] at h;have k:=tr (ih _ _ _ _ h1) (tr (hi h2) (hi h3));cases q with
   |some x=>simp only at h;cases h;exact k
   |none =>
    simp only at h;split at h
    · exact tr k (ih _ _ _ _ h)
    · cases h;exact tr k hf
  |part k =>
   simp only[pM] at h;split at h
   · obtain⟨t1,s1,h1,h⟩:=aY h;exact tr (ih _ _ _ _ h1) (ih _ _ _ _ h)
   · split at h
     · rcases h1:dL 4 [sO] s with ⟨o,s1⟩
       rw[h1] at h;cases o with
       |some x=>simp only at h;obtain⟨c,s4,h4,h⟩:=aY h;cases h;exact tr (hi h1) (ih _ _ _ _ h4)
       |none =>
        simp only at h
        rcases h2:dL 6 [zR] s1 with ⟨o,s2⟩
        rw[h2] at h;cases o with
        |some x=>simp only at h;obtain⟨c,s4,h4,h⟩:=aY h;cases h;exact tr (hi h1) (tr (hi h2) (ih _ _ _ _ h4))
        |none=>exact tr (hi h1) (tr (hi h2) (ih _ _ _ _ h))
     · split at h
       · rcases h1:dL 6 [oB] s with ⟨o,s1⟩
         rw[h1] at h;cases o with
         |some x=>simp only at h;obtain⟨c,s4,h4,h⟩:=aY h;cases h;exact tr (hi h1) (ih _ _ _ _ h4)
         |none=>exact tr (hi h1) (ih _ _ _ _ h)
       · obtain⟨t1,s1,h1,h⟩:=aY h;exact tr (ih _ _ _ _ h1) (ih _ _ _ _ h)
  |opL k t0 =>
   simp only[pM] at h
   rcases h1:DX k s with ⟨o,s1⟩
   rw[h1] at h;cases o with
   |some x =>
    simp only at h;obtain⟨c,s4,h4,h⟩:=aY h;split at h
    · cases h;exact tr (ho h1) (ih _ _ _ _ h4)
    · exact tr (ho h1) (tr (ih _ _ _ _ h4) (ih _ _ _ _ h))
   |none=>simp only at h;cases h;exact ho h1
  |callL t0 =>
   simp only[pM] at h
   rcases h1:dL 7 [[40]] s with ⟨o,s1⟩
   rw[h1] at h;cases o with
   |some x=>exact tr (hi h1) (ih _ _ _ _ h)
   |none=>simp only at h;cases h;exact hi h1
  |argL t0 =>
   simp only[pM] at h;obtain⟨t1,s1,h1,h⟩:=aY h
   rcases h2:dL 6 [[44]] s1 with ⟨o,s2⟩
   rw[h2] at h;cases o with
   |some x=>exact tr (ih _ _ _ _ h1) (tr (hi h2) (ih _ _ _ _ h))
   |none=>exact tr (ih _ _ _ _ h1) (tr (hi h2) (tr hm (ih _ _ _ _ h)))
  |atom =>
   cases s with
   |bad m=>simp only[pM] at h;cases h;exact⟨Nat.le_refl _,fun _ q=>q⟩
   |ok r=>cases r with
    |nil=>simp only[pM] at h;cases h;exact hf
    |cons u r =>
     simp only[pM] at h;have kk:(PS.ok r).len≤(PS.ok (u::r)).len∧(∀m,PS.ok (u::r)= .bad m→PS.ok r= .bad m):=⟨by simp[PS.len],fun m q=>by cases q⟩
     split at h
     · cases h;exact kk
     · split at h
       · exact ih _ _ _ _ h
       · split at h
         · obtain⟨t1,s1,h1,h⟩:=aY h;cases h;exact tr kk (tr (ih _ _ _ _ h1) hm)
         · cases h;exact hf
theorem Fs {e:Int}{n:Nat}{j:Jy}{s:PS}{t:Tr}{s':PS}(h:pM e n j s=some (t,s')):s'.len≤s.len:=(yw e n j s t s' h).1
theorem Ft {e:Int}{n:Nat}{j:Jy}{m:Int}{t:Tr}{s':PS}(h:pM e n j (.bad m)=some (t,s')):s'= .bad m:=(yw e n j _ t s' h).2 m rfl
abbrev Tok:=Int×Int×Int
def dz (s:By) (t:Tok):By:=(s.drop t.2.1.toNat).take (t.2.2.toNat-t.2.1.toNat)
def C7 (s:By) (t:Tok):Bool:=decide (0≤t.2.1) && decide (t.2.2≤s.length) && decide (t.2.1≤t.2.2)
def ir:List (UInt8×UInt8):=[(110,10),(114,13),(116,9),(34,34),(92,92),(48,0)]
def Hy (c:UInt8):UInt8:=match ir.find? (fun p=>p.1 ==c) with|some p=>p.2|none=>c
def rz (t:By):UInt8:=match t[1]? with|some c=>Hy c|none=>32
def kO (x:By):List Un→List Un
 | []=>[]
 | [u]=>[(u.1,u.2.1++x,u.2.2)]
 |u::v::l=>u::kO x (v::l)
theorem xK (x:By):∀(l:List Un) (u:Un),kO x (l++[u])=l++[(u.1,u.2.1++x,u.2.2)]
 | [],_=>rfl
 | [a],u=>rfl
 |a::b::l,u=>by
  show a::kO x ((b::l)++[u])=_
  rw[xK x (b::l) u];rfl
theorem vF (x:By):∀l:List Un,(kO x l).length=l.length
 | []=>rfl
 | [_]=>rfl
 |_::b::l=>by show (kO x (b::l)).length+1=_;rw[vF x (b::l)];rfl
inductive UR where
 |er (at_ e:Int)
 |go (out:List Un) (op:Bool)
def lV (s:By) (out:List Un) (op:Bool) (t:Tok):UR :=
 if t.1=0 then .er t.2.1 10
 else if op then
  if t.1=9∧dz s t=[34] then .go out false
  else if t.1=10 then .go (kO [rz (dz s t)] out) true
  else .go (kO (dz s t) out) true
 else if t.1=1∨t.1=2∨t.1=11 then .go out false
 else if out.length=500 then .er t.2.1 3
 else .go (out++[(t.1,if t.1=9 then [] else dz s t,t.2.1)]) (decide (t.1=9))
def pJ (s:By):List Tok→List Un→Bool→UR
 | [],out,op=>.go out op
 |t::l,out,op=>match lV s out op t with
  |.er a e=>.er a e
  |.go out op=>pJ s l out op
def jL (s:By) (l:List Tok) (m:Int):(Int×Int) ⊕ List Un :=
 if l.all (C7 s) then match pJ s l [] false with
  |.er a e=>.inl (a,e)
  |.go out op=>if op∨m≠0 then .inl (s.length,10) else .inr out
 else .inl (0,2)
def jP (e:Int):Nat→List Tr→PS→Option (List Tr×PS)
 | 0,_,_=>none
 |n+1,l,s=>if s.len=0 then some (l,s) else (pM e n .stmt s).bind fun p=>match dL 6 [[59]] p.2 with
  |(some _,s2)=>jP e n (l++[p.1]) s2
  |(none,s2)=>jP e n (l++[p.1]) (if s2.len=0 then s2 else dM e s2)
inductive ic (s:By) (l:List Tok) (m:Int):List Tr→Int→Int→Prop where
 |units {a e:Int}:jL s l m= .inl (a,e)→ic s l m [] a e
 |bad {u:List Un}{n:Nat}{k:List Tr}{a:Int}:jL s l m= .inr u→jP s.length n [] (.ok u)=some (k,.bad a)→ic s l m [] a 10
 |ok {u:List Un}{n:Nat}{k:List Tr}{r:List Un}:jL s l m= .inr u→jP s.length n [] (.ok u)=some (k,.ok r)→ic s l m k 0 0
def Tr.dep:Tr→Nat
 |.mk _ _ l=>depL l+1
where depL:List Tr→Nat
 | []=>0
 |t::l=>max t.dep (depL l)
theorem lJ {t:By}{l:List Tr}{x:Tr}(h:x∈l):x.dep<(Tr.mk k t l).dep:=by
 show x.dep<Tr.dep.depL l+1
 have:x.dep≤Tr.dep.depL l:=by
  induction l with
  |nil=>simp at h
  |cons a l ih =>
   show x.dep≤max a.dep (Tr.dep.depL l)
   rcases List.mem_cons.1 h with rfl|h
   · omega
   · have:=ih h;omega
 omega
end
mutual
def jA:Tr→Tr→Bool
 |.mk k t l,.mk k' t' l'=>decide (k=k') && (decide (t=t') && ij l l')
def ij:List Tr→List Tr→Bool
 | [],[]=>true
 |a::l,b::l'=>jA a b && ij l l'
 | [],_::_=>false
 |_::_,[]=>false
end
mutual
theorem wP:∀a b:Tr,jA a b=true↔a=b
 |.mk k t l,.mk k' t' l'=>by
  rw[jA,Bool.and_eq_true,Bool.and_eq_true,decide_eq_true_iff,decide_eq_true_iff,qT l l',Tr.mk.injEq]
theorem qT:∀l l':List Tr,ij l l'=true↔l=l'
 | [],[]=>by simp[ij]
 |a::l,b::l'=>by rw[ij,Bool.and_eq_true,wP a b,qT l l',List.cons.injEq]
 | [],_::_=>by simp[ij]
 |_::_,[]=>by simp[ij]
end
section
variable {k:Int}
def cV (c:UInt8):By:=match ir.find? (fun p=>p.2 ==c) with|some p=>[92,p.1] |none=>[c]
def uf (s:By):By:=34::(s.flatMap cV++[34])
def dP:List By→By
 | []=>[]
 | [x]=>x
 |x::y::l=>x++([59,32]++dP (y::l))
def sH (k:List By):By:=[105,102,32]++k.getD 0 []++[32]++k.getD 1 []++[32,101,108,115,101,32]++k.getD 2 []
def rV (k:Int) (t:By) (l:List By):By :=
 if k=1 then uf t
 else if k=4 then [40]++t++[32]++l.getD 0 []++[41]
 else if k=5 then [40]++l.getD 0 []++[32]++t++[32]++l.getD 1 []++[41]
 else if k=6 then [40]++sH l++[41]
 else if k=7 then (if l.length=1 then [108,101,116,32]++t++[32,61,32]++l.getD 0 [] else [40,108,101,116,32]++t++[32,61,32]++l.getD 0 []++[32,105,110,32]++l.getD 1 []++[41])
 else if k=8 then [40,102,117,110,32]++t++[32,45,62,32]++l.getD 0 []++[41]
 else if k=9 then l.getD 0 []++[40]++l.getD 1 []++[41]
 else if k=10 then [123,32]++dP l++[32,125]
 else t
end
mutual
def bl:Bool→Tr→By
 |bare,.mk k t l=>if k=6∧bare=true then sH (eJ (decide (k=6)) 0 l) else rV k t (eJ (decide (k=6)) 0 l)
def eJ:Bool→Nat→List Tr→List By
 |_,_,[]=>[]
 |six,i,x::l=>bl (six && decide (i=2)) x::eJ six (i+1) l
end
section
variable {k:Int}
def jC (c:UInt8):Bool:=decide (48≤c) && decide (c≤57)
def isLet (c:UInt8):Bool:=(decide (97≤c) && decide (c≤122)) ||((decide (65≤c) && decide (c≤90)) ||decide (c=95))
def cS (s:By):By:=s.dropWhile jC
def eW (s:By):Bool:=decide ((cS s).length<s.length)
def mo (s:By) (ok:Bool):Bool:=match s with
 |c::r=>if ok=true∧(c=101∨c=69) then
  (match r with
   |d::r'=>if d=43∨d=45 then eW r' && decide (cS r'=[]) else eW r && decide (cS r=[])
   | []=>false)
  else false
 | []=>ok
def BX (s:By):Bool:=match cS s with
 |c::r=>if eW s=true∧c=46 then mo (cS r) (eW r) else mo (c::r) (eW s)
 | []=>eW s
def lA (word:By→Bool) (s:By):Bool :=
 (match s with| []=>false|c::r=>isLet c && r.all fun c=>isLet c ||jC c) && !word s
def wH:List By:=[[45],sO]
def nh:List By:=[Bt,nN,[61,61],[33,61],[60],[60,61],[62],[62,61],[43],[45],[42],[47],[37]]
def cY (word:By→Bool) (k:Int) (t:By):Bool :=
 if k=0 then BX t
 else if k=1 then decide (t.length≤16384)
 else if k=2 then decide (t=iS) ||decide (t=kZ)
 else if k=3∨k=7∨k=8 then lA word t
 else if k=4 then decide (t∈wH)
 else if k=5 then decide (t∈nh)
 else decide (t=[])
def cz (k:Int):Nat×Nat :=
 if k=4∨k=8 then (1,1) else if k=5∨k=9 then (2,2) else if k=6 then (3,3) else if k=7 then (1,2) else if k=10 then (1,500) else (0,0)
def oF (word:By→Bool) (k:Int) (t:By) (n:Nat):Bool :=
 decide ((cz k).1≤n) && (decide (n≤(cz k).2) && (decide (0≤k) && (decide (k≤10) && cY word k t)))
def F2 (k:Int) (i:Nat):Tr→Bool
 |.mk k' _ l=>(decide (k=10) ||(decide (k'≠7) ||decide (l.length=2))) && (decide (k≠6) ||(decide (i=0) ||(decide (k'=10) ||(decide (i≠1) && decide (k'=6)))))
end
mutual
def cO (word:By→Bool):Tr→Bool
 |.mk k t l=>oF word k t l.length && iy word k 0 l
def iy (word:By→Bool) (k:Int):Nat→List Tr→Bool
 |_,[]=>true
 |i,x::l=>(cO word x && F2 k i x) && iy word k (i+1) l
end
end Go.Proofs.YtedocgkapmeceaaGreatDoor

/- What the proof of the statement leans on (part 1). -/

namespace Go.Proofs.YtfegacfjgjaghaaGreatDoor
abbrev By:=List UInt8
inductive Nd where
 |mk (kind:Nat) (set:Nat) (kids:List Nd)
def Nd.kind:Nd→Nat|.mk k _ _=>k
def Nd.set:Nd→Nat|.mk _ s _=>s
def Nd.kids:Nd→List Nd|.mk _ _ l=>l
def allSet:Nat:=2 ^ 256-1
def spanN (s a:Nat):Nat→Nat
 | 0=>s
 |n+1=>spanN (s |||(1 <<< a)) (a+1) n
def spanB (s:Nat) (a b:UInt8):Nat:=spanN s a.toNat (b.toNat+1-a.toNat)
def notSet (s:Nat):Nat:=allSet ^^^ s
def byteNd (b:UInt8):Nd:=.mk 1 (spanB 0 b b) []
def dotNd:Nd:=.mk 1 (spanB (spanB 0 0 9) 11 255) []
def emptyNd:Nd:=.mk 0 0 []
def specialB:By:=[40,41,91,93,124,42,43,63,46,92,45,94]
def hexVal (b:UInt8):Option Nat :=
 if 48≤b.toNat∧b.toNat≤57 then some (b.toNat-48) else if 97≤b.toNat∧b.toNat≤102 then some (b.toNat-87) else if 65≤b.toNat∧b.toNat≤70 then some (b.toNat-55) else none
def escP:By→Option (UInt8×By)
 | []=>none
 |b::r =>
  if b=110 then some (10,r) else if b=116 then some (9,r) else if b=114 then some (13,r)
  else if b=120 then
   match r with
   |x::y::r=>match hexVal x,hexVal y with
    |some m,some n=>some (UInt8.ofNat (m*16+n),r)
    |_,_=>none
   |_=>none
  else if b∈specialB then some (b,r) else none
def letP:By→Option (UInt8×By)
 | []=>none
 |b::r=>if b=92 then escP r else if b∈specialB then none else some (b,r)
def fromToP (s:By):Option ((UInt8×UInt8)×By) :=
 match letP s with
 |none=>none
 |some (a,r)=>match r with
  | 45::r'=>match letP r' with
   |none=>none
   |some (b,r'')=>if b.toNat<a.toNat then none else some ((a,b),r'')
  |_=>some ((a,a),r)
def setsP:Nat→Nat→By→Option (Nat×By)
 | 0,_,_=>none
 |n+1,acc,s=>match fromToP s with
  |none=>none
  |some ((a,b),r)=>match r with
   | 93::r'=>some (spanB acc a b,r')
   |_=>setsP n (spanB acc a b) r
def bracketP (s:By):Option (Nd×By) :=
 match s with
 | 94::r=>(setsP (r.length+1) 0 r).map fun p=>(.mk 1 (notSet p.1) [],p.2)
 |_=>(setsP (s.length+1) 0 s).map fun p=>(.mk 1 p.1 [],p.2)
def atomP (rows:By→Option (Nd×By)):By→Option (Nd×By)
 | []=>none
 |c::r =>
  if c=40 then
   match rows r with
   |none=>none
   |some (n,r')=>match r' with
    | 41::r''=>some (n,r'')
    |_=>none
  else if c=91 then bracketP r
  else if c=46 then some (dotNd,r)
  else if c=92 then (escP r).map fun p=>(byteNd p.1,p.2)
  else if c∈[(41:UInt8),93,124,42,43,63] then none
  else some (byteNd c,r)
def signOf (c:UInt8):Nat:=if c=42 then 4 else if c=43 then 5 else if c=63 then 6 else 0
def signsP (n:Nd):By→Nd×By
 | []=>(n,[])
 |c::r=>if signOf c=0 then (n,c::r) else signsP (.mk (signOf c) 0 [n]) r
def pieceP (rows:By→Option (Nd×By)) (s:By):Option (Nd×By) :=
 (atomP rows s).map fun p=>signsP p.1 p.2
def joinNd (kind:Nat):List Nd→Nd
 | []=>emptyNd
 | [n]=>n
 |l=>.mk kind 0 l
def rowEnd:By→Bool
 | []=>true
 |c::_=>c ==124 ||c ==41
def rowL (rows:By→Option (Nd×By)):Nat→By→Option (List Nd×By)
 | 0,_=>none
 |n+1,s=>if rowEnd s then some ([],s) else
  match pieceP rows s with
  |none=>none
  |some (x,r)=>(rowL rows n r).map fun p=>(x::p.1,p.2)
def rowsG (rows:By→Option (Nd×By)):Nat→List Nd→List Nd→By→Option (Nd×By)
 | 0,_,_,_=>none
 |n+1,all,row,s=>if rowEnd s then
  if s.head? =some 124 then rowsG rows n (all++[joinNd 2 row]) [] s.tail
  else some (joinNd 3 (all++[joinNd 2 row]),s)
  else match pieceP rows s with
   |none=>none
   |some (x,r)=>rowsG rows n all (row++[x]) r
def rowsP:Nat→By→Option (Nd×By)
 | 0,_=>none
 |d+1,s=>rowsG (rowsP d) (s.length+1) [] [] s
def parseP (s:By):Option Nd :=
 match rowsP (s.length+1) s with
 |some (n,[])=>some n
 |_=>none
theorem escP_len {s:By}{b:UInt8}{r:By}(h:escP s=some (b,r)):r.length<s.length:=by
 unfold escP at h;split at h
 · cases h
 · rename_i c t;split at h
   · cases h;simp
   · split at h
     · cases h;simp
     · split at h
       · cases h;simp
       · split at h
         · split at h
           · split at h
             · cases h;simp only[List.length_cons];omega
             · cases h
           · cases h
         · split at h
           · cases h;simp
           · cases h
theorem letP_len {s:By}{b:UInt8}{r:By}(h:letP s=some (b,r)):r.length<s.length:=by
 unfold letP at h;split at h
 · cases h
 · split at h
   · have:=escP_len h;simp only[List.length_cons];omega
   · split at h
     · cases h
     · cases h;simp
theorem fromToP_len {s:By}{p:UInt8×UInt8}{r:By}(h:fromToP s=some (p,r)):r.length<s.length:=by
 unfold fromToP at h;split at h
 · cases h
 · rename_i a t ha;have h1:=letP_len ha;split at h
   · rename_i t';split at h
     · cases h
     · rename_i b t'' hb;have h2:=letP_len hb;split at h
       · cases h
       · cases h;simp only[List.length_cons] at h1;omega
   · cases h;exact h1
theorem setsP_len:∀(n acc:Nat){s:By}{m:Nat}{r:By},setsP n acc s=some (m,r)→r.length<s.length
 | 0,_,s,m,r,h=>by cases h
 |n+1,acc,s,m,r,h=>by
  rw[setsP] at h;split at h
  · cases h
  · rename_i a b t ht;have h1:=fromToP_len ht;split at h
    · cases h;simp only[List.length_cons] at h1;omega
    · have:=setsP_len n _ h;omega
theorem bracketP_len {s:By}{x:Nd}{r:By}(h:bracketP s=some (x,r)):r.length<s.length:=by
 unfold bracketP at h;split at h
 · rename_i t;simp only[Option.map_eq_some_iff] at h;obtain⟨⟨m,r'⟩,h1,h2⟩:=h;cases h2;have:=setsP_len _ _ h1;simp only[List.length_cons];omega
 · simp only[Option.map_eq_some_iff] at h;obtain⟨⟨m,r'⟩,h1,h2⟩:=h;cases h2;exact setsP_len _ _ h1
theorem atomP_len {rows:By→Option (Nd×By)}(hr:∀{s x r},rows s=some (x,r)→r.length≤s.length){s:By}{x:Nd}{r:By}(h:atomP rows s=some (x,r)):r.length<s.length:=by
 unfold atomP at h;split at h
 · cases h
 · rename_i c t;simp only[List.length_cons];split at h
   · split at h
     · cases h
     · rename_i n t' ht;have:=hr ht;split at h
       · rename_i t'' _;cases h;simp only[List.length_cons] at this;omega
       · cases h
   · split at h
     · have:=bracketP_len h;omega
     · split at h
       · cases h;omega
       · split at h
         · simp only[Option.map_eq_some_iff] at h;obtain⟨⟨b,r'⟩,h1,h2⟩:=h;cases h2;have:=escP_len h1;dsimp only;omega
         · split at h
           · cases h
           · cases h;omega
theorem signsP_len:∀(s:By) (n:Nd),(signsP n s).2.length≤s.length
 | [],n=>by simp[signsP]
 |c::r,n=>by
  rw[signsP];split
  · simp
  · have:=signsP_len r (.mk (signOf c) 0 [n]);simp only[List.length_cons];omega
theorem pieceP_len {rows:By→Option (Nd×By)}(hr:∀{s x r},rows s=some (x,r)→r.length≤s.length){s:By}{x:Nd}{r:By}(h:pieceP rows s=some (x,r)):r.length<s.length:=by
 unfold pieceP at h;simp only[Option.map_eq_some_iff] at h;obtain⟨⟨n,t⟩,h1,h2⟩:=h;have h3:=atomP_len hr h1;have h4:=signsP_len t n;rw[h2] at h4;simp only at h4;omega
theorem rowsG_len {rows:By→Option (Nd×By)}(hr:∀{s x r},rows s=some (x,r)→r.length≤s.length):∀(n:Nat) (all row:List Nd){s:By}{x:Nd}{r:By},rowsG rows n all row s=some (x,r)→r.length≤s.length∧(r=[]∨r.head? =some 41)
 | 0,_,_,s,x,r,h=>by cases h
 |n+1,all,row,s,x,r,h=>by
  rw[rowsG] at h;split at h
  · rename_i he;split at h
    · have:=rowsG_len hr n _ _ h;exact⟨by have h2:=this.1;simp only[List.length_tail] at h2;omega,this.2⟩
    · rename_i hn;cases h;refine⟨Nat.le_refl _,?_⟩;cases s with
      |nil=>exact .inl rfl
      |cons c t =>
       right
       unfold rowEnd at he;have h1:c≠124:=fun e=>hn (by rw[e];rfl)
       simp[h1] at he;simp[he]
  · split at h
    · cases h
    · rename_i y t ht;have h1:=pieceP_len hr ht;have h2:=rowsG_len hr n _ _ h;exact⟨by omega,h2.2⟩
theorem rowsP_len:∀(d:Nat){s:By}{x:Nd}{r:By},rowsP d s=some (x,r)→r.length≤s.length
 | 0,s,x,r,h=>by cases h
 |d+1,s,x,r,h=>(rowsG_len (fun h=>rowsP_len d h) _ _ _ h).1
theorem rowL_len {rows:By→Option (Nd×By)}(hr:∀{s x r},rows s=some (x,r)→r.length≤s.length):∀(n:Nat){s:By}{l:List Nd}{r:By},rowL rows n s=some (l,r)→r.length≤s.length∧rowEnd r=true∧l.length≤s.length
 | 0,s,l,r,h=>by cases h
 |n+1,s,l,r,h=>by
  rw[rowL] at h;split at h
  · rename_i he;cases h;exact⟨Nat.le_refl _,he,Nat.zero_le _⟩
  · split at h
    · cases h
    · rename_i y t ht;have h1:=pieceP_len hr ht;simp only[Option.map_eq_some_iff] at h;obtain⟨⟨m,r'⟩,h2,h3⟩:=h;cases h3;have h4:=rowL_len hr n h2;have h5:=h4.1;have h6:=h4.2.2;exact⟨by first|omega|(dsimp only;omega),h4.2.1,by simp only[List.length_cons];first|omega|(dsimp only at h6;omega)⟩
theorem rowsG_fuel {rows:By→Option (Nd×By)}(hr:∀{s x r},rows s=some (x,r)→r.length≤s.length):∀(k:Nat) (n m:Nat) (all row:List Nd) (s:By),s.length≤k→s.length<n→s.length<m→rowsG rows n all row s=rowsG rows m all row s:=by
 intro k
 induction k with
 |zero =>
  intro n m all row s hk hn hm;cases n with
  |zero=>omega
  |succ n =>
   cases m with
   |zero=>omega
   |succ m =>
    have:s=[]:=List.eq_nil_of_length_eq_zero (by omega);subst this;rfl
 |succ k ih =>
  intro n m all row s hk hn hm;cases n with
  |zero=>omega
  |succ n =>
   cases m with
   |zero=>omega
   |succ m =>
    rw[rowsG,rowsG];split
    · split
      · rename_i h1;have h2:s.tail.length+1=s.length:=by cases s with|nil=>cases h1|cons a b=>simp
        exact ih _ _ _ _ _ (by omega) (by omega) (by omega)
      · rfl
    · cases hp:pieceP rows s with
      |none=>rfl
      |some p =>
       obtain⟨y,t⟩:=p;have:=pieceP_len hr hp;exact ih _ _ _ _ _ (by omega) (by omega) (by omega)
theorem rowL_fuel {rows:By→Option (Nd×By)}(hr:∀{s x r},rows s=some (x,r)→r.length≤s.length):∀(n m:Nat) (s:By),s.length<n→s.length<m→rowL rows n s=rowL rows m s
 | 0,_,_,h,_=>by omega
 |_,0,_,_,h=>by omega
 |n+1,m+1,s,hn,hm=>by
  rw[rowL,rowL];split
  · rfl
  · cases hp:pieceP rows s with
    |none=>rfl
    |some p =>
     obtain⟨y,t⟩:=p;have:=pieceP_len hr hp;simp only;rw[rowL_fuel hr n m t (by omega) (by omega)]
def rowT (rows:By→Option (Nd×By)) (s:By):Option (Nd×By):=(rowL rows (s.length+1) s).map fun p=>(joinNd 2 p.1,p.2)
def contR (rows:By→Option (Nd×By)) (all:List Nd) (m:By):Option (Nd×By) :=
 if m.head? =some 124 then rowsG rows (m.tail.length+1) all [] m.tail else some (joinNd 3 all,m)
theorem rowsG_row {rows:By→Option (Nd×By)}(hr:∀{s x r},rows s=some (x,r)→r.length≤s.length):∀(n m:Nat) (all row:List Nd) (s:By),s.length<n→s.length<m →
 rowsG rows n all row s=match rowL rows m s with
  |none=>none
  |some (l,r)=>if r.head? =some 124 then rowsG rows (r.length+1) (all++[joinNd 2 (row++l)]) [] r.tail else some (joinNd 3 (all++[joinNd 2 (row++l)]),r):=by
 have fuel:=fun k=>@rowsG_fuel rows hr k
 intro n
 induction n with
 |zero=>intro m all row s h;omega
 |succ n ih =>
  intro m all row s hn hm;cases m with
  |zero=>omega
  |succ m =>
   rw[rowsG,rowL]
   by_cases he:rowEnd s=true
   · rw[if_pos he,if_pos he];simp only[List.append_nil];split
     · rename_i h1;have h2:s.tail.length+1=s.length:=by cases s with|nil=>cases h1|cons a b=>simp
       exact fuel _ _ _ _ _ _ (Nat.le_refl _) (by omega) (by omega)
     · rfl
   · rw[if_neg he,if_neg he];cases hp:pieceP rows s with
     |none=>rfl
     |some p =>
      obtain⟨y,t⟩:=p;have hlt:=pieceP_len hr hp;simp only;rw[ih m all (row++[y]) t (by omega) (by omega)];cases hl:rowL rows m t with
      |none=>rfl
      |some q =>
       obtain⟨l,r⟩:=q;simp only[Option.map_some,List.append_assoc,List.singleton_append]
theorem rowsG_cont {rows:By→Option (Nd×By)}(hr:∀{s x r},rows s=some (x,r)→r.length≤s.length) (all:List Nd) (s:By) :
 rowsG rows (s.length+1) all [] s=match rowT rows s with|none=>none|some (x,r)=>contR rows (all++[x]) r:=by
 rw[rowsG_row hr _ (s.length+1) _ _ _ (Nat.lt_succ_self _) (Nat.lt_succ_self _)];unfold rowT;cases hl:rowL rows (s.length+1) s with
 |none=>rfl
 |some q =>
  obtain⟨l,r⟩:=q;simp only[Option.map_some,List.nil_append,contR];split
  · exact rowsG_fuel hr r.length _ _ _ _ _ (by simp) (by simp;omega) (by omega)
  · rfl
theorem rowT_len {rows:By→Option (Nd×By)}(hr:∀{s x r},rows s=some (x,r)→r.length≤s.length){s:By}{x:Nd}{r:By}(h:rowT rows s=some (x,r)):r.length≤s.length:=by
 unfold rowT at h;simp only[Option.map_eq_some_iff] at h;obtain⟨⟨l,r'⟩,h1,h2⟩:=h;cases h2;exact(rowL_len hr _ h1).1
def parseE (s:By):Nd×Int:=if 200<s.length then (emptyNd,3) else match parseP s with|some x=>(x,0)|none=>(emptyNd,10)
end Go.Proofs.YtfegacfjgjaghaaGreatDoor

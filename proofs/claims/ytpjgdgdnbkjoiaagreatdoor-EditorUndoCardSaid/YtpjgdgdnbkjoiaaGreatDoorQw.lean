/- What the proof of the statement leans on (part 23). -/
import Derived.Lib.LastIndexLaws
import Derived.Test.YtpjgdgdnbkjoiaaGreatDoorQv

namespace Go.Proofs.YtpjgdgdnbkjoiaaGreatDoor
open Go
section
variable {B a:Nat}{l:List By}
structure MS where
  text:By
  cur:Int
  mode:Int
  mark:Int
  ring:List By
  hist:List By
  at_:Int
  draft:By
  last:Int
  from_:Int
  to_:Int
  query:By
  found:Int
  saved:By
  savedAt:Int
  was:Int
  lines:List By
  flags:List Bool
  bells:Int
structure Cm where
  kind:Int
  way:Int
  n:Int
  text:By
  incl:Bool
def oE (l:List By) (s:By) (way:Int):List By :=
  if s=[] then l
  else match l with
    |x::r=>if 0<way then ((x++s)::r).take 10 else if way<0 then ((s++x)::r).take 10 else (s::l).take 10
    | []=>[s]
def vJ:List By->List By
  | []=>[]
  |x::r=>r++[x]
def fW (l:List By) (s:By):List By:=if s=[]\/l.getLast? =some s then l else (l++[s]).drop (l.length+1-100)
def lastOf (s t:By):Int:=Lib.lastIndex s t
def KX (l:List By) (t:By):Nat->Option (Int×Int)
  | 0=>none
  |n+1=>if 0<=lastOf (l.getD n []) t then some (n,lastOf (l.getD n []) t) else KX l t n
def MY (l:List By) (t:By) (upto:Int):Option (Int×Int):=if t=[] then none else KX l t (if (l.length:Int)-1<upto then l.length else (upto+1).toNat)
def q9 (b:Nat):Nat:=if b=40 then 41 else if b=91 then 93 else if b=123 then 125 else 0
def jk (s:By) (t:Tk):Nat:=if (t.1≠7/\t.1≠8)\/t.2.1<0\/(s.length:Int)<=t.2.1\/t.2.2-1≠t.2.1 then 0 else (s.getD t.2.1.toNat 0).toNat
def cR (s:By) (o:List Nat) (t:Tk):List Nat×Bool :=
  if jk s t=0 then (o,true) else if t.1=7 then (o++[t.2.1.toNat],true)
  else if o=[]\/q9 (s.getD (o.getLastD 0) 0).toNat≠jk s t then (o,false) else (o.dropLast,true)
def wN (s:By):List Tk->List Nat->List Nat×Bool
  | [],o=>(o,true)
  |t::l,o=>if (cR s o t).2=true then wN s l (cR s o t).1 else (o,false)
def wL (s:By) (l:List Tk) (m:Int):Int:=if (wN s l []).2=false then 2 else if (wN s l []).1≠[]\/m≠0 then 1 else 0
def mZ (s:By) (a:Int):List Tk->List Nat->List Nat
  | [],o=>o
  |t::l,o=>mZ s a l (if t.2.2<=a then (cR s o t).1 else o)
def qS (s:By) (l:List Tk) (a:Int):Nat:=(mZ s a l []).length
def dN (s:MS):MS:= { s with bells:=s.bells+1,last:=0 }
def cM (n:Int):Int:=min (max n 0) 1000
def dL (s:MS) (a:Nat) (t:By):MS×Bool :=
  if 16384-(s.text.length:Int)<t.length then (dN s,false) else ({ s with text:=s.text.take a++t++s.text.drop a,cur:=((a+t.length:Nat):Int) },true)
def qW (s:MS) (a b:Nat):MS:= { s with text:=s.text.take a++s.text.drop b,cur:=(a:Nat) }
def u7 (t:By):Nat->By
  | 0=>[]
  |n+1=>t++u7 t n
def iR (t:By) (n:Int):Option By:=if t≠[]/\((16384 / t.length:Nat):Int)<cM n then none else some (u7 t (cM n).toNat)
def fm (s:MS) (t:By) (n last:Int):MS:=match iR t n with
  |none=>dN s
  |some x=>if (dL s s.cur.toNat x).2=false then (dL s s.cur.toNat x).1 else
    { (dL s s.cur.toNat x).1 with from_:=if last=1/\s.last=1/\s.to_=s.cur then s.from_ else s.cur,last:=last,to_:=(dL s s.cur.toNat x).1.cur }
def dH (s:MS) (c:Cm):Nat :=
  let a:=lJ s.text s.cur c.way (cM c.n)
  let a:=if c.incl=true/\s.cur<=(a:Int)/\a<eJ s.text a then lJ s.text a 1 1 else a
  if (a:Int)=s.cur/\c.way=3/\c.kind=5/\0<c.n then lJ s.text a 1 1 else a
def ql (s:MS) (a b:Nat) (ahead:Bool):MS:= { s with ring:=oE s.ring ((s.text.take b).drop a) (if s.last=2 then (if ahead=true then 1 else -1) else 0) }
def CT (s:MS) (c:Cm):MS :=
  let r:=dH s c
  let a:=min r s.cur.toNat
  let b:=max r s.cur.toNat
  if a=b then dN s
  else if c.kind=4 then { qW s a b with last:=0 }
  else if c.kind=5 then { qW (ql s a b (decide (s.cur<=(r:Int)))) a b with last:=2 }
  else { ql { s with last:=0 } a b (decide (s.cur<=(r:Int))) with cur:=(a:Nat) }
def oA (s:By):Nat->Nat->Nat
  | 0,b=>b
  |n+1,b=>if b<s.length then oA s n (eJ s (b+1)) else b
def Em (s:MS) (c:Cm):MS :=
  let a:=aT s.text s.cur.toNat
  let b:=oA s.text ((cM c.n).toNat-1) (eJ s.text s.cur.toNat)
  if a=b/\s.text=[] then dN s
  else
    let r:=oE s.ring ((s.text.take b).drop a++[10]) 0
    if c.kind=8 then { s with last:=0,ring:=r }
    else
      let b':=if b<s.text.length then b+1 else b
      let a':=if b<s.text.length then a else if 0<a then a-1 else a
      let t:=qW { s with last:=0,ring:=r } a' b'
      { t with cur:=(aT t.text a':Nat) }
def HO (s:MS) (c:Cm):MS:=match s.ring with
  | []=>dN s
  |x::_ =>
    if c.kind=10/\s.cur.toNat<eJ s.text s.cur.toNat then
      let t:=fm { s with cur:=(lJ s.text s.cur 1 1:Nat) } x c.n 3
      if s.bells<t.bells then { t with cur:=s.cur } else t
    else fm s x c.n 3
def MF (s:MS):MS :=
  if s.last≠3\/s.ring.length<2\/s.from_<0\/s.to_<s.from_\/(s.text.length:Int)<s.to_ then dN s
  else
    let t:=dL (qW { s with ring:=vJ s.ring } s.from_.toNat s.to_.toNat) s.from_.toNat ((vJ s.ring).headD [])
    if t.2=false then dN s else { t.1 with from_:=s.from_,to_:=t.1.cur }
def oq (s:MS) (t:By):MS:= { s with text:=t,cur:=(t.length:Nat),mark:= -1,last:=0 }
def oJ (s:MS):MS :=
  if wL s.text (aQ s.text).1 (aQ s.text).2.1=1 then
    { (dL s s.cur.toNat (10::List.replicate (2*min (qS s.text (aQ s.text).1 s.cur) 20) 32)).1 with last:=0 }
  else
    oq { s with lines:=s.lines++[s.text],flags:=s.flags++[decide (wL s.text (aQ s.text).1 (aQ s.text).2.1=2)],hist:=fW s.hist s.text,at_:=((fW s.hist s.text).length:Nat),draft:=[],mode:=if s.mode=0 then 0 else 1 } []
def AW (s:MS):MS :=
  if s.at_<=0\/(s.hist.length:Int)<s.at_ then dN s
  else oq { s with draft:=if s.at_=(s.hist.length:Nat) then s.text else s.draft,at_:=s.at_-1 } (s.hist.getD (s.at_-1).toNat [])
def AZ (s:MS):MS :=
  if s.at_<0\/(s.hist.length:Int)<=s.at_ then dN s
  else if s.at_+1=(s.hist.length:Nat) then oq { s with at_:=s.at_+1 } s.draft
  else oq { s with at_:=s.at_+1 } (s.hist.getD (s.at_+1).toNat [])
def iI (s:MS) (w n:Int):MS:= { s with cur:=(lJ s.text s.cur w (cM n):Nat),last:=0 }
def Ap (s:MS) (c:Cm):MS :=
  if c.kind=19/\aT s.text s.cur.toNat=0 then AW s
  else if c.kind=20/\eJ s.text s.cur.toNat=s.text.length then AZ s
  else if c.kind=19 then iI s 4 1 else iI s 5 1
def DK (s:MS):MS :=
  let a:=if s.cur=(s.text.length:Nat) then lJ s.text s.cur 0 1 else s.cur.toNat
  let l:=lJ s.text a 0 1
  let r:=lJ s.text a 1 1
  if l=a\/r=a then dN s
  else { s with text:=s.text.take l++(s.text.take r).drop a++(s.text.take a).drop l++s.text.drop r,cur:=(r:Nat),last:=0 }
def Jm (b:UInt8):UInt8:=if 97<=b/\b<=122 then b-32 else b
def DW (b:UInt8):UInt8:=if 65<=b/\b<=90 then b+32 else b
def xY (how:Int):By->Bool->By
  | [],_=>[]
  |c::l,met=>(if how=1\/(how=2/\met=false)\/(how=3/\c=DW c) then Jm c else DW c)::xY how l (met ||decide (Jm c≠DW c))
def BO (s:MS) (b:Nat) (how:Int):MS:= { s with text:=s.text.take s.cur.toNat++xY how ((s.text.take b).drop s.cur.toNat) false++s.text.drop b,cur:=(b:Nat),last:=0 }
def JI (s:MS) (c:Cm):MS:=if lJ s.text s.cur 6 1=s.cur.toNat\/c.n<0\/2<c.n then dN s else BO s (lJ s.text s.cur 6 1) c.n
def rG (s:By) (e:Nat):Nat->Nat->Nat
  | 0,b=>b
  |n+1,b=>rG s e n (if b<e then lJ s b 1 1 else b)
def Av (s:MS) (n:Int):MS :=
  let b:=rG s.text (eJ s.text s.cur.toNat) (cM n).toNat s.cur.toNat
  if b=s.cur.toNat then dN s else BO s b 3
def replaceM (s:MS) (t:By):MS :=
  if eJ s.text s.cur.toNat<=s.cur.toNat then dN s
  else
    let r:=dL (qW s s.cur.toNat (lJ s.text s.cur 1 1)) s.cur.toNat t
    if r.2=false then dN s else { r.1 with cur:=s.cur,last:=0 }
def ja (s:MS) (n:Int):MS :=
  if n<0\/3<n then dN s
  else
    let t:=if n=2/\s.mode=1/\aT s.text s.cur.toNat<s.cur.toNat then iI s 0 1 else s
    { t with mark:=if n=3 then t.cur else -1,mode:=n,last:=0 }
def A4 (s:MS) (c:Cm):MS :=
  if s.mark<0\/(c.n≠1/\c.n≠2) then dN s
  else
    let m:=eT s.text s.mark
    let a:=min m s.cur.toNat
    let b:=lJ s.text (max m s.cur.toNat:Nat) 1 1
    let t:= { s with ring:=oE s.ring ((s.text.take b).drop a) 0 }
    let t:=if c.kind=26 then qW t a b else t
    ja { t with cur:=(a:Nat) } c.n
def vR (s:MS) (t:By) (a:Int):MS:= { s with text:=t,cur:=(eT t a:Nat),last:=0 }
def Cw (s:MS) (q:By) (upto:Int):MS :=
  if q=[] then vR { s with query:=[],found:=(s.hist.length:Nat) } s.saved s.savedAt
  else match MY s.hist q upto with
    |none=>dN s
    |some (i,a)=>vR { s with query:=q,found:=i } (s.hist.getD i.toNat []) a
def AH (s:MS) (c:Cm):MS :=
  if c.kind=29 then (if 100<s.query.length+c.text.length then dN s else Cw s (s.query++c.text) (min s.found ((s.hist.length:Int)-1)))
  else if c.kind=30 then Cw s (s.query.take (gu s.query s.query.length)) ((s.hist.length:Int)-1)
  else if c.kind=31 then Cw s s.query (max s.found 0-1)
  else if c.kind=32 then { s with mode:=s.was,at_:=(s.hist.length:Nat),draft:=[],last:=0 }
  else if c.kind=33 then vR { s with mode:=s.was } s.saved s.savedAt
  else dN s
def IL (s:MS) (c:Cm):MS :=
  let a:=if c.kind=16 then aT s.text s.cur.toNat else eJ s.text s.cur.toNat
  let t:=dL s a [10]
  if t.2=false then dN s else ja { t.1 with cur:=if c.kind=15 then ((a+1:Nat):Int) else (a:Nat) } 1
def qD (s:MS) (c:Cm):MS :=
  if c.kind=14 then oJ s
  else if c.kind=17 then AW s
  else if c.kind=18 then AZ s
  else if c.kind=19\/c.kind=20 then Ap s c
  else if c.kind=25 then ja s c.n
  else if c.kind=28 then { s with was:=s.mode,mode:=4,query:=[],found:=(s.hist.length:Nat),saved:=s.text,savedAt:=s.cur,last:=0 }
  else if c.kind=33 then dN { s with mark:= -1,mode:=if s.mode=3 then 2 else s.mode }
  else if c.kind=1 then dN s
  else s
def mc (s:MS) (c:Cm):MS :=
  if c.kind=2 then fm s c.text c.n 1
  else if c.kind=3 then iI s c.way c.n
  else if c.kind=4\/c.kind=5\/c.kind=6 then CT s c
  else if c.kind=7\/c.kind=8 then Em s c
  else if c.kind=9\/c.kind=10 then HO s c
  else if c.kind=11 then MF s
  else if c.kind=21 then DK s
  else if c.kind=22 then JI s c
  else if c.kind=23 then Av s c.n
  else if c.kind=24 then replaceM s c.text
  else if c.kind=15\/c.kind=16 then IL s c
  else if c.kind=26\/c.kind=27 then A4 s c
  else qD s c
def fixC (s:MS):MS:= { s with cur:=(eT s.text s.cur:Nat) }
def r6 (s:MS) (c:Cm):MS:=if s.mode=4 then AH s c else mc s c
def CV (t:MS):MS:=if t.mode=2/\t.cur.toNat=eJ t.text t.cur.toNat/\aT t.text t.cur.toNat<t.cur.toNat then { t with cur:=(lJ t.text t.cur 0 1:Nat) } else t
def b8 (s:MS) (c:Cm):MS:=if c.kind<=0\/33<c.kind\/c.kind=12\/c.kind=13 then s else CV (fixC (r6 (fixC s) c))
structure MI (B:Nat) (s:MS):Prop where
  text:s.text.length<=16384
  draft:s.draft.length<=16384
  saved:s.saved.length<=16384
  query:s.query.length<=100
  ring:∀x∈s.ring,x.length<=B
  ringn:s.ring.length<=10
  hist:∀x∈s.hist,x.length<=16384
  histn:s.hist.length<=100
  lines:∀x∈s.lines,x.length<=16384
  linesn:s.lines.length<=B
  flags:s.flags.length=s.lines.length
  at0:0<=s.at_
  at1:s.at_<=(s.hist.length:Nat)
  fnd0:0<=s.found
  fnd1:s.found<=100
  bell0:0<=s.bells
  bell1:s.bells<=B
def fy (s:MS):Prop:=0<=s.cur/\s.cur<=(s.text.length:Nat)
structure cT (B:Nat) (s t:MS):Prop where
  inv:MI (B+20000) t
  bell:t.bells=s.bells\/(t.bells=s.bells+1/\t.text=s.text)
  lin:s.lines.length<=t.lines.length
theorem MI.up {C:Nat}{s:MS}(k:MI B s) (h:B<=C):MI C s :=
  { k with ring:=fun x hx=>Nat.le_trans (k.ring x hx) h,linesn:=Nat.le_trans k.linesn h,bell1:=by have:=k.bell1;omega }
theorem G1 {s:MS}(k:MI B s):cT B s s:=⟨k.up (by omega),.inl rfl,Nat.le_refl _⟩
theorem bH {s:MS}(k:MI B s):cT B s (dN s) :=
  ⟨{ k.up (C:=B+20000) (by omega) with bell0:=by have:=k.bell0;show 0<=s.bells+1;omega,bell1:=by have:=k.bell1;show s.bells+1<=_;omega },.inr ⟨rfl,rfl⟩,Nat.le_refl _⟩
theorem MI.of {s t:MS}(k:MI B s) (h1:t.text.length<=16384) (h2:t.draft=s.draft) (h3:t.saved=s.saved) (h4:t.query=s.query) (h5:t.ring=s.ring) (h6:t.hist=s.hist) (h7:t.lines=s.lines) (h8:t.flags=s.flags) (h9:t.at_=s.at_) (h10:t.found=s.found) (h11:t.bells=s.bells):MI B t:=by
  obtain⟨text,cur,mode,mark,ring,hist,at_,draft,last,from_,to_,query,found,saved,savedAt,was,lines,flags,bells⟩:=t;simp only at h1 h2 h3 h4 h5 h6 h7 h8 h9 h10 h11;subst h2 h3 h4 h5 h6 h7 h8 h9 h10 h11;exact⟨h1,k.draft,k.saved,k.query,k.ring,k.ringn,k.hist,k.histn,k.lines,k.linesn,k.flags,k.at0,k.at1,k.fnd0,k.fnd1,k.bell0,k.bell1⟩
theorem MI.ring' {C:Nat}{s:MS}(k:MI B s) (r:List By) (h1:∀x∈r,x.length<=C) (h2:r.length<=10) (h:B<=C):MI C { s with ring:=r } :=
  ⟨k.text,k.draft,k.saved,k.query,h1,h2,k.hist,k.histn,k.lines,Nat.le_trans k.linesn h,k.flags,k.at0,k.at1,k.fnd0,k.fnd1,k.bell0,by have:=k.bell1;show s.bells<=_;omega⟩
theorem xg {x:By}(way:Int) (h1:∀y∈l,y.length<=B) (h2:l.length<=10) (hx:x.length<=16385):(∀y∈oE l x way,y.length<=B+16385)/\(oE l x way).length<=10:=by
  unfold oE;split
  · exact⟨fun y hy=>by have:=h1 y hy;omega,h2⟩
  · cases l with
    |nil=>exact⟨fun y hy=>by rw[List.mem_singleton.1 hy];omega,by simp⟩
    |cons a r =>
      have ha:=h1 a List.mem_cons_self;have hr:∀y∈r,y.length<=B:=fun y hy=>h1 y (List.mem_cons_of_mem _ hy)
      simp only
      have key:∀(b:By) (q:List By),b.length<=B+16385->(∀y∈q,y.length<=B+16385)->(∀y∈(b::q).take 10,y.length<=B+16385)/\((b::q).take 10).length<=10:=fun b q hb hq=>⟨fun y hy=>by
        rcases List.mem_cons.1 (List.mem_of_mem_take hy) with rfl|hy
        · exact hb
        · exact hq y hy,by rw[List.length_take];omega⟩
      split
      · exact key _ _ (by rw[List.length_append];omega) (fun y hy=>by have:=hr y hy;omega)
      · split
        · exact key _ _ (by rw[List.length_append];omega) (fun y hy=>by have:=hr y hy;omega)
        · exact key _ _ (by omega) (fun y hy=>by have:=h1 y hy;omega)
theorem HV (h1:∀y∈l,y.length<=B) (h2:l.length<=10):(∀y∈vJ l,y.length<=B)/\(vJ l).length<=10:=by
  cases l with
  |nil=>exact⟨h1,h2⟩
  |cons a r =>
    refine⟨fun y hy=>?_,by simpa [vJ] using h2⟩
    rcases List.mem_append.1 hy with hy|hy
    · exact h1 y (List.mem_cons_of_mem _ hy)
    · rw[List.mem_singleton.1 hy];exact h1 a List.mem_cons_self
theorem Jj {x:By}(h1:∀y∈l,y.length<=B) (h2:l.length<=100) (hx:x.length<=B):(∀y∈fW l x,y.length<=B)/\(fW l x).length<=100:=by
  unfold fW;split
  · exact⟨h1,h2⟩
  · refine⟨fun y hy=>?_,by rw[List.length_drop,List.length_append];simp only[List.length_cons,List.length_nil];omega⟩
    rcases List.mem_append.1 (List.mem_of_mem_drop hy) with hy|hy
    · exact h1 y hy
    · rw[List.mem_singleton.1 hy];exact hx
theorem rX (s:By) (a b:Nat) (n:Nat) (h:s.length<=n):((s.take b).drop a).length<=n:=by rw[List.length_drop,List.length_take];omega
theorem rW {s:MS}(k:MI B s) (ha:a<=s.text.length) (t:By):((dL s a t).2=false/\(dL s a t).1=dN s)\/((dL s a t).2=true/\MI B (dL s a t).1/\(dL s a t).1.bells=s.bells/\(dL s a t).1.lines=s.lines/\(dL s a t).1.cur=((a+t.length:Nat):Int)/\(dL s a t).1.text.length=s.text.length+t.length):=by
  have:=k.text;unfold dL;split
  · exact .inl ⟨rfl,rfl⟩
  · rename_i h
    have hl:(s.text.take a++t++s.text.drop a).length=s.text.length+t.length:=by
      rw[List.length_append,List.length_append,List.length_take,List.length_drop];omega
    exact .inr ⟨rfl,k.of (by show (s.text.take a++t++s.text.drop a).length<=_;omega) rfl rfl rfl rfl rfl rfl rfl rfl rfl rfl,rfl,rfl,rfl,hl⟩
theorem ng {s:MS}(k:MI B s){b:Nat}(h:a<=b):MI B (qW s a b) :=
  k.of (by have:=k.text;show (s.text.take a++s.text.drop b).length<=_;rw[List.length_append,List.length_take,List.length_drop];omega) rfl rfl rfl rfl rfl rfl rfl rfl rfl rfl
theorem mN {s:MS}(k:MI B s) (hc:fy s) (t:By) (n last:Int):cT B s (fm s t n last):=by
  unfold fm;split
  · exact bH k
  · rename_i x _
    rcases rW k (a:=s.cur.toNat) (by unfold fy at hc;omega) x with ⟨h1,h2⟩|⟨h1,h2,h3,h4,h5,h6⟩
    · rw[if_pos h1,h2];exact bH k
    · rw[if_neg (by rw[h1];simp)];exact⟨(h2.up (by omega)).of h2.text rfl rfl rfl rfl rfl rfl rfl rfl rfl rfl,.inl h3,by show _<=(dL s s.cur.toNat x).1.lines.length;rw[h4];exact Nat.le_refl _⟩
theorem GC {s:MS}(c:Cm):dH s c<=s.text.length:=by
  unfold dH;exact eZ (vK _ _ _ _) (eZ (vK _ _ _ _) (vK _ _ _ _))
theorem CJ {s:MS}(k:MI B s) (a b:Nat) (d:Bool):MI (B+16385) (ql s a b d):=by
  have:=xg (x:=(s.text.take b).drop a) (if s.last=2 then (if d=true then 1 else -1) else 0) k.ring k.ringn (by have:=rX s.text a b _ k.text;omega);exact k.ring' _ this.1 this.2 (by omega)
theorem FJ {s:MS}(k:MI B s) (c:Cm):cT B s (CT s c):=by
  unfold CT;simp only;have hab:min (dH s c) s.cur.toNat<=max (dH s c) s.cur.toNat:=by omega
  split
  · exact bH k
  · split
    · exact⟨((ng k hab).up (by omega)).of (ng k hab).text rfl rfl rfl rfl rfl rfl rfl rfl rfl rfl,.inl rfl,Nat.le_refl _⟩
    · split
      · have h:=ng (CJ k (min (dH s c) s.cur.toNat) (max (dH s c) s.cur.toNat) (decide (s.cur<=(dH s c:Int)))) hab;exact⟨(h.up (by omega)).of h.text rfl rfl rfl rfl rfl rfl rfl rfl rfl rfl,.inl rfl,Nat.le_refl _⟩
      · have h:=CJ (k.of (t:= { s with last:=0 }) k.text rfl rfl rfl rfl rfl rfl rfl rfl rfl rfl) (min (dH s c) s.cur.toNat) (max (dH s c) s.cur.toNat) (decide (s.cur<=(dH s c:Int)));exact⟨(h.up (by omega)).of h.text rfl rfl rfl rfl rfl rfl rfl rfl rfl rfl,.inl rfl,Nat.le_refl _⟩
theorem zQ {s:By}:∀(n b:Nat),b<=s.length->b<=oA s n b/\oA s n b<=s.length
  | 0,b,h=>⟨Nat.le_refl _,h⟩
  |n+1,b,h=>by
    rw[oA];split
    · rename_i q;have h1:=mT (s:=s) (a:=b+1) (by omega);have h2:=zQ n (eJ s (b+1)) h1.2;omega
    · omega
theorem GP {s:MS}(k:MI B s) (hc:fy s) (c:Cm):cT B s (Em s c):=by
  have hn:s.cur.toNat<=s.text.length:=by unfold fy at hc;omega
  have h0:=gR s.text s.cur.toNat;have h1:=mT hn;have h2:=zQ (s:=s.text) ((cM c.n).toNat-1) _ h1.2;have hk:=xg (x:=(s.text.take (oA s.text ((cM c.n).toNat-1) (eJ s.text s.cur.toNat))).drop (aT s.text s.cur.toNat)++[10]) 0 k.ring k.ringn (by rw[List.length_append];have:=rX s.text (aT s.text s.cur.toNat) (oA s.text ((cM c.n).toNat-1) (eJ s.text s.cur.toNat)) _ k.text;simp only[List.length_cons,List.length_nil];omega);have hr:=k.ring' (C:=B+16385) _ hk.1 hk.2 (by omega);unfold Em;simp only;split
  · exact bH k
  · split
    · exact⟨(hr.up (by omega)).of k.text rfl rfl rfl rfl rfl rfl rfl rfl rfl rfl,.inl rfl,Nat.le_refl _⟩
    · generalize oA s.text ((cM c.n).toNat-1) (eJ s.text s.cur.toNat)=b at *;generalize aT s.text s.cur.toNat=a at *;have hab:(if b<s.text.length then a else if 0<a then a-1 else a)<=(if b<s.text.length then b+1 else b):=by (repeat' split)<;>omega
      have h:=ng (hr.of (t:= { s with last:=0,ring:=oE s.ring ((s.text.take b).drop a++[10]) 0 }) k.text rfl rfl rfl rfl rfl rfl rfl rfl rfl rfl) hab;exact⟨(h.up (by omega)).of h.text rfl rfl rfl rfl rfl rfl rfl rfl rfl rfl,.inl rfl,Nat.le_refl _⟩
theorem HN {s:MS}(k:MI B s) (hc:fy s) (c:Cm):cT B s (HO s c):=by
  unfold HO;split
  · exact bH k
  · rename_i x _ _;split
    · have h:=mN (k.of (t:= { s with cur:=(lJ s.text s.cur 1 1:Nat) }) k.text rfl rfl rfl rfl rfl rfl rfl rfl rfl rfl) ⟨by show (0:Int)<=((lJ s.text s.cur 1 1:Nat):Int);omega,by show ((lJ s.text s.cur 1 1:Nat):Int)<=(s.text.length:Nat);have:=vK s.text s.cur 1 1;omega⟩ x c.n 3;simp only;split
      · exact⟨h.inv.of h.inv.text rfl rfl rfl rfl rfl rfl rfl rfl rfl rfl,h.bell,h.lin⟩
      · exact⟨h.inv,h.bell,h.lin⟩
    · exact mN k hc x c.n 3
theorem Kz {s:MS}(k:MI B s):cT B s (MF s):=by
  unfold MF;split
  · exact bH k
  · rename_i hn;have ht:=HV k.ring k.ringn;have hr:=k.ring' (C:=B) _ ht.1 ht.2 (Nat.le_refl _)
    have h1:s.from_.toNat<=s.to_.toNat/\s.to_.toNat<=s.text.length:=by
      simp only[not_or,Int.not_lt] at hn;omega
    have h2:=ng hr h1.1
    have hl:(qW { s with ring:=vJ s.ring } s.from_.toNat s.to_.toNat).text.length=s.text.length-(s.to_.toNat-s.from_.toNat):=by
      show (s.text.take _++s.text.drop _).length=_
      rw[List.length_append,List.length_take,List.length_drop];omega
    simp only
    rcases rW h2 (a:=s.from_.toNat) (by omega) ((vJ s.ring).headD []) with ⟨e1,e2⟩|⟨e1,e2,e3,e4,e5,e6⟩
    · rw[if_pos e1];exact bH k
    · rw[if_neg (by rw[e1];simp)];exact⟨(e2.up (by omega)).of e2.text rfl rfl rfl rfl rfl rfl rfl rfl rfl rfl,.inl e3,by show _<=List.length (dL _ _ _).1.lines;rw[e4];exact Nat.le_refl _⟩
theorem Aa {s:MS}(k:MI B s) (hc:fy s):cT B s (oJ s):=by
  unfold oJ;split
  · rcases rW k (a:=s.cur.toNat) (by unfold fy at hc;omega) (10::List.replicate (2*min (qS s.text (aQ s.text).1 s.cur) 20) 32) with ⟨h1,h2⟩|⟨h1,h2,h3,h4,h5,h6⟩
    · rw[h2];have:=bH k;exact⟨this.inv,this.bell,this.lin⟩
    · exact⟨(h2.up (by omega)).of h2.text rfl rfl rfl rfl rfl rfl rfl rfl rfl rfl,.inl h3,by show _<=List.length (dL _ _ _).1.lines;rw[h4];exact Nat.le_refl _⟩
  · have hh:=Jj k.hist k.histn k.text;refine⟨⟨by show ([]:By).length<=_;simp,by show ([]:By).length<=_;simp,k.saved,k.query,fun x hx=>Nat.le_trans (k.ring x hx) (by omega),k.ringn,hh.1,hh.2,fun x hx=>?_,?_,?_,by show (0:Int)<=((fW s.hist s.text).length:Nat);omega,Int.le_refl _,k.fnd0,k.fnd1,k.bell0,by have:=k.bell1;show s.bells<=_;omega⟩,.inl rfl,?_⟩
    · rcases List.mem_append.1 hx with hx|hx
      · exact k.lines x hx
      · rw[List.mem_singleton.1 hx];exact k.text
    · show (s.lines++[s.text]).length<=_
      have:=k.linesn;rw[List.length_append];simp only[List.length_cons,List.length_nil];omega
    · show (s.flags++[_]).length=(s.lines++[s.text]).length
      rw[List.length_append,List.length_append,k.flags];rfl
    · show _<=(s.lines++[s.text]).length
      rw[List.length_append];omega
theorem xw {n:Nat}(h:∀x∈l,x.length<=n) (i:Nat):(l.getD i []).length<=n:=by
  rw[List.getD_eq_getElem?_getD];cases q:l[i]? with
  |none=>simp
  |some x=>exact h x (List.mem_of_getElem? q)
theorem zK {s:MS}(k:MI B s):cT B s (AW s):=by
  unfold AW;split
  · exact bH k
  · rename_i h;simp only[not_or,Int.not_le,Int.not_lt] at h;refine⟨⟨xw k.hist _,?_,k.saved,k.query,fun x hx=>Nat.le_trans (k.ring x hx) (by omega),k.ringn,k.hist,k.histn,k.lines,by have:=k.linesn;show s.lines.length<=_;omega,k.flags,by show 0<=s.at_-1;omega,by show s.at_-1<=(s.hist.length:Nat);omega,k.fnd0,k.fnd1,k.bell0,by have:=k.bell1;show s.bells<=_;omega⟩,.inl rfl,Nat.le_refl _⟩
    show (if s.at_=(s.hist.length:Nat) then s.text else s.draft).length<=_
    split
    · exact k.text
    · exact k.draft
theorem zM {s:MS}(k:MI B s):cT B s (AZ s):=by
  have:=k.at0;unfold AZ;split
  · exact bH k
  · rename_i h;simp only[not_or,Int.not_le,Int.not_lt] at h;have key:∀t:By,t.length<=16384->cT B s (oq { s with at_:=s.at_+1 } t):=fun t ht=>⟨⟨ht,k.draft,k.saved,k.query,fun x hx=>Nat.le_trans (k.ring x hx) (by omega),k.ringn,k.hist,k.histn,k.lines,by have:=k.linesn;show s.lines.length<=_;omega,k.flags,by show 0<=s.at_+1;omega,by show s.at_+1<=(s.hist.length:Nat);omega,k.fnd0,k.fnd1,k.bell0,by have:=k.bell1;show s.bells<=_;omega⟩,.inl rfl,Nat.le_refl _⟩
    split
    · exact key _ k.draft
    · exact key _ (xw k.hist _)
theorem lP {s t:MS}(h:MI B t) (hb:t.bells=s.bells) (hl:t.lines=s.lines):cT B s t:=⟨h.up (by omega),.inl hb,by rw[hl];exact Nat.le_refl _⟩
theorem pI {s:MS}(k:MI B s) (w n:Int):cT B s (iI s w n):=lP (k.of k.text rfl rfl rfl rfl rfl rfl rfl rfl rfl rfl) rfl rfl
theorem DG {s:MS}(k:MI B s) (c:Cm):cT B s (Ap s c):=by
  unfold Ap;split
  · exact zK k
  · split
    · exact zM k
    · split
      · exact pI k _ _
      · exact pI k _ _
theorem xX (how:Int):∀(l:By) (m:Bool),(xY how l m).length=l.length
  | [],_=>rfl
  |c::l,m=>by rw[xY,List.length_cons,List.length_cons,xX how l]
theorem BN {s:MS}(k:MI B s){b:Nat}(h:s.cur.toNat<=b) (hb:b<=s.text.length) (how:Int):cT B s (BO s b how)/\(BO s b how).text.length=s.text.length:=by
  have hl:(BO s b how).text.length=s.text.length:=by
    show (s.text.take s.cur.toNat++xY how _ false++s.text.drop b).length=_
    rw[List.length_append,List.length_append,xX,List.length_drop,List.length_drop,List.length_take,List.length_take];omega
  exact⟨lP (k.of (by rw[hl];exact k.text) rfl rfl rfl rfl rfl rfl rfl rfl rfl rfl) rfl rfl,hl⟩
theorem HY (s:By) (w:Int) (a:Nat):H6 s w 1 a=nC s a w:=by
  rw[H6];split
  · rename_i e;rw[e]
  · rfl
theorem kM (s:By) (a w:Int):lJ s a w 1=nC s (eT s a) w:=by
  unfold lJ;rw[show (min (max (1:Int) 0) 1000).toNat=1 by decide,HY]
theorem FI {a:Int}:∀(l:List Nat) (o:Nat),(∀k∈l,a<(k:Nat))->l.foldl (fun(o k:Nat)=>if (k:Int)<=a then k else o) o=o
  | [],_,_=>rfl
  |x::l,o,h=>by
    rw[List.foldl_cons,if_neg (by have:=h x List.mem_cons_self;omega)];exact FI l o fun k hk=>h k (List.mem_cons_of_mem _ hk)
theorem zY:∀(n:Nat) (l:By) (a o c:Nat),c∈aY n l a->(aY n l a).foldl (fun(o k:Nat)=>if (k:Int)<=(c:Nat) then k else o) o=c
  | 0,_,_,_,_,h=>by simp[aY] at h
  |n+1,l,a,o,c,h=>by
    rw[aY] at h ⊢;split at h
    · simp at h
    · rename_i hl;have hr:=ct hl;rw[if_neg hl,List.foldl_cons]
      rcases List.mem_cons.1 h with rfl|h
      · rw[if_pos (by omega)];exact FI _ _ fun k hk=>by have:=eD _ _ _ _ hk;omega
      · exact zY n _ _ _ c h
theorem pM {s:By}(h:mq s a):eT s a=a:=by
  unfold eT
  rcases h with h|h
  · have:=fD h;rw[if_neg (by omega)];exact zY _ _ _ _ _ h
  · rw[if_pos (by omega),h]
theorem Iw {s:By}(h:mq s a):mq s (cx s a):=by
  unfold cx
  rcases h with h|h
  · have:=fD h;rw[if_neg (by omega)];exact(uf h).1
  · rw[if_pos (by omega)];exact .inr h
theorem FH {a:Int}{c:Nat}(hc:(c:Int)<=a):∀(n:Nat) (l:By) (b o:Nat),c∈aY n l b->c<=(aY n l b).foldl (fun(o k:Nat)=>if (k:Int)<=a then k else o) o
  | 0,_,_,_,h=>by simp[aY] at h
  |n+1,l,b,o,h=>by
    rw[aY] at h ⊢;split at h
    · simp at h
    · rename_i hl;have hr:=ct hl;rw[if_neg hl,List.foldl_cons]
      rcases List.mem_cons.1 h with rfl|h
      · rw[if_pos hc]
        rcases Bk (aY n (l.drop (aN l)) (c+aN l)) a c (fun _ h=>h) with q|q
        · have:=eD _ _ _ _ q;omega
        · omega
      · exact FH hc n _ _ _ h
theorem MZ {s:By}{c:Nat}{a:Int}(h:mq s c) (ha:(c:Int)<=a):c<=eT s a:=by
  unfold eT;split
  · exact uo h
  · rcases h with h|h
    · exact FH ha _ _ _ _ h
    · omega
def mw (s:MS):Prop:=∃c:Nat,s.cur=(c:Nat)/\mq s.text c
theorem mw.ok {s:MS}(h:mw s):fy s:=by
  obtain⟨c,h1,h2⟩:=h;have:=uo h2;unfold fy;omega
theorem MX {s:By}(h:mq s a):a<=lJ s a 6 1/\lJ s a 6 1<=s.length:=by
  rw[kM,pM h];have e:nC s a 6=cN Gc s (cN uT s a):=rfl;rw[e];have h1:=gp (so:=uT) (uo h);have h2:=gp (so:=Gc) h1.2;omega
theorem tB {s:By}(h:mq s a):lJ s a 1 1=cx s a:=by rw[kM,pM h];rfl
theorem Gf {s:MS}(k:MI B s) (hc:mw s):cT B s (DK s):=by
  obtain⟨p,h1,h2⟩:=hc;unfold DK;simp only
  have hpa:mq s.text (if s.cur=(s.text.length:Nat) then lJ s.text s.cur 0 1 else s.cur.toNat):=by
    split
    · rw[kM];exact FE (mS _ _)
    · rw[h1];exact h2
  generalize (if s.cur=(s.text.length:Nat) then lJ s.text s.cur 0 1 else s.cur.toNat)=a at hpa ⊢;have e1:lJ s.text a 0 1=gu s.text a:=by rw[kM,pM hpa];rfl
  rw[e1,tB hpa];split
  · exact bH k
  · refine lP (k.of ?_ rfl rfl rfl rfl rfl rfl rfl rfl rfl rfl) rfl rfl;have q1:=sw s.text a;have q2:=gS (uo hpa);have:=k.text
    show (s.text.take _++(s.text.take _).drop a++(s.text.take a).drop _++s.text.drop _).length<=_
    simp only[List.length_append,List.length_take,List.length_drop];omega
theorem JH {s:MS}(k:MI B s) (hc:mw s) (c:Cm):cT B s (JI s c):=by
  obtain⟨p,h1,h2⟩:=hc;unfold JI;split
  · exact bH k
  · rw[h1];have:=MX h2;exact(BN k (by rw[h1];exact this.1) this.2 _).1
theorem qy {s:By}{e:Nat}:∀(n b:Nat),mq s b->mq s (rG s e n b)/\b<=rG s e n b
  | 0,_,h=>⟨h,Nat.le_refl _⟩
  |n+1,b,h=>by
    rw[rG];split
    · rw[tB h];have h1:=qy (e:=e) n _ (Iw h);have h2:=gS (uo h);exact⟨h1.1,by omega⟩
    · exact qy n b h
theorem DN {s:MS}(k:MI B s) (hc:mw s) (n:Int):cT B s (Av s n):=by
  obtain⟨p,h1,h2⟩:=hc;have h3:=qy (e:=eJ s.text p) (cM n).toNat p h2;unfold Av;simp only[h1,Int.toNat_natCast];split
  · exact bH k
  · exact(BN k (by rw[h1];exact h3.2) (uo h3.1) _).1
theorem B5 {s:MS}(k:MI B s) (hc:mw s) (t:By):cT B s (replaceM s t):=by
  obtain⟨p,h1,h2⟩:=hc;have hp:=uo h2;have hr:=gS hp;unfold replaceM;simp only[h1,Int.toNat_natCast];split
  · exact bH k
  · rw[tB h2];have hk:=ng k hr.1;have hl:p<=(qW s p (cx s.text p)).text.length:=by show _<=(s.text.take p++_).length;rw[List.length_append,List.length_take];omega
    rcases rW hk hl t with ⟨e1,e2⟩|⟨e1,e2,e3,e4,e5,e6⟩
    · rw[if_pos e1];exact bH k
    · rw[if_neg (by rw[e1];simp)];exact⟨(e2.up (by omega)).of e2.text rfl rfl rfl rfl rfl rfl rfl rfl rfl rfl,.inl e3,by show _<=List.length (dL _ _ _).1.lines;rw[e4];exact Nat.le_refl _⟩
theorem rZ {s:MS}(k:MI B s) (n:Int):cT B s (ja s n)/\((0<=n/\n<=3)->MI B (ja s n)/\(ja s n).bells=s.bells/\(ja s n).text=s.text/\(ja s n).lines=s.lines):=by
  unfold ja;split
  · exact⟨bH k,fun h=>by omega⟩
  · have key:∀t:MS,MI B t->t.bells=s.bells->t.lines=s.lines->t.text=s.text->(cT B s { t with mark:=if n=3 then t.cur else -1,mode:=n,last:=0 }/\((0<=n/\n<=3)->MI B { t with mark:=if n=3 then t.cur else -1,mode:=n,last:=0 }/\t.bells=s.bells/\t.text=s.text/\t.lines=s.lines)):=fun t h1 h2 h3 h4=>by
      have q:=h1.of (t:= { t with mark:=if n=3 then t.cur else -1,mode:=n,last:=0 }) h1.text rfl rfl rfl rfl rfl rfl rfl rfl rfl rfl;exact⟨lP q h2 h3,fun _=>⟨q,h2,h4,h3⟩⟩
    simp only;split
    · exact key (iI s 0 1) (k.of k.text rfl rfl rfl rfl rfl rfl rfl rfl rfl rfl) rfl rfl rfl
    · exact key s k rfl rfl rfl
theorem Eh {s:MS}(k:MI B s) (c:Cm):cT B s (A4 s c):=by
  unfold A4;split
  · exact bH k
  · rename_i hn;simp only;generalize hm:eT s.text s.mark=m;have hab:min m s.cur.toNat<=lJ s.text (max m s.cur.toNat:Nat) 1 1\/True:=.inr trivial;have hkl:=xg (x:=(s.text.take (lJ s.text (max m s.cur.toNat:Nat) 1 1)).drop (min m s.cur.toNat)) 0 k.ring k.ringn (by have:=rX s.text (min m s.cur.toNat) (lJ s.text (max m s.cur.toNat:Nat) 1 1) _ k.text;omega);have hr:=k.ring' (C:=B+16385) _ hkl.1 hkl.2 (by omega);have hml:=vq s.text s.mark
    have hab:min m s.cur.toNat<=lJ s.text (max m s.cur.toNat:Nat) 1 1:=by
      rw[kM]
      have h1:min m s.cur.toNat<=eT s.text ((max m s.cur.toNat:Nat):Int):=by
        have hpl:mq s.text m:=by rw[<-hm];exact mS _ _
        have h2:=MZ (s:=s.text) (c:=m) (a:=((max m s.cur.toNat:Nat):Int)) hpl (by omega);omega
      have h2:=gS (s:=s.text) (a:=eT s.text ((max m s.cur.toNat:Nat):Int)) (vq _ _);have e:nC s.text (eT s.text ((max m s.cur.toNat:Nat):Int)) 1=cx s.text (eT s.text ((max m s.cur.toNat:Nat):Int)):=rfl;rw[e];omega
    generalize hb:lJ s.text ((max m s.cur.toNat:Nat):Int) 1 1=b at *;generalize ha:min m s.cur.toNat=a at *;have hn2:0<=c.n/\c.n<=3:=by omega
    have key:∀t:MS,MI (B+16385) t->t.bells=s.bells->t.lines=s.lines->cT B s (ja { t with cur:=(a:Nat) } c.n):=fun t h1 h2 h3=>by
      obtain⟨q1,q2,_,q4⟩:=(rZ (h1.of (t:= { t with cur:=(a:Nat) }) h1.text rfl rfl rfl rfl rfl rfl rfl rfl rfl rfl) c.n).2 hn2;exact⟨q1.up (by omega),.inl (by rw[q2];exact h2),by rw[q4];show _<=t.lines.length;rw[h3];exact Nat.le_refl _⟩
    split
    · exact key _ (ng hr hab) rfl rfl
    · exact key _ hr rfl rfl
theorem IK {s:MS}(k:MI B s) (hc:fy s) (c:Cm):cT B s (IL s c):=by
  have hn:s.cur.toNat<=s.text.length:=by unfold fy at hc;omega
  unfold IL;simp only;generalize ha:(if c.kind=16 then aT s.text s.cur.toNat else eJ s.text s.cur.toNat)=a;have hal:a<=s.text.length:=by rw[<-ha];exact eZ (gR _ _).2 (mT hn).2
  rcases rW k hal [10] with ⟨e1,e2⟩|⟨e1,e2,e3,e4,e5,e6⟩
  · rw[if_pos e1];exact bH k
  · rw[if_neg (by rw[e1];simp)];obtain⟨q1,q2,_,q4⟩:=(rZ (e2.of (t:= { (dL s a [10]).1 with cur:=if c.kind=15 then ((a+1:Nat):Int) else (a:Nat) }) e2.text rfl rfl rfl rfl rfl rfl rfl rfl rfl rfl) 1).2 ⟨by decide,by decide⟩;exact⟨q1.up (by omega),.inl (by rw[q2];exact e3),by rw[q4];show _<=List.length (dL _ _ _).1.lines;rw[e4];exact Nat.le_refl _⟩
theorem CS {l:List By}{t:By}:∀(n:Nat){i a:Int},n<=l.length->KX l t n=some (i,a)->0<=i/\i<(l.length:Nat)
  | 0,_,_,_,h=>by cases h
  |n+1,i,a,hn,h=>by
    rw[KX] at h;split at h
    · cases h;omega
    · exact CS n (by omega) h
theorem KW {t:By}{u i a:Int}(h:MY l t u=some (i,a)):0<=i/\i<(l.length:Nat):=by
  unfold MY at h;split at h
  · cases h
  · refine CS _ ?_ h;split<;>omega
theorem wM {s:MS}(k:MI B s){q:By}(hq:q.length<=100) (u:Int):cT B s (Cw s q u):=by
  have key:∀(q:By) (f:Int) (t:By) (a:Int),q.length<=100->0<=f->f<=100->t.length<=16384->cT B s (vR { s with query:=q,found:=f } t a):=fun q f t a h1 h2 h3 h4 =>
    ⟨⟨h4,k.draft,k.saved,h1,fun x hx=>Nat.le_trans (k.ring x hx) (by omega),k.ringn,k.hist,k.histn,k.lines,by have:=k.linesn;show s.lines.length<=_;omega,k.flags,k.at0,k.at1,h2,h3,k.bell0,by have:=k.bell1;show s.bells<=_;omega⟩,.inl rfl,Nat.le_refl _⟩
  have hh:=k.histn;unfold Cw;split
  · exact key [] _ _ _ (by simp) (by omega) (by omega) k.saved
  · split
    · exact bH k
    · rename_i i a e;have:=KW e;exact key q i _ _ hq (by omega) (by omega) (xw k.hist _)
theorem DY {s:MS}(k:MI B s) (c:Cm):cT B s (AH s c):=by
  unfold AH;split
  · split
    · exact bH k
    · exact wM k (by rw[List.length_append];omega) _
  · split
    · exact wM k (by have:=k.query;rw[List.length_take];omega) _
    · split
      · exact wM k k.query _
      · split
        · exact⟨⟨k.text,by show ([]:By).length<=_;simp,k.saved,k.query,fun x hx=>Nat.le_trans (k.ring x hx) (by omega),k.ringn,k.hist,k.histn,k.lines,by have:=k.linesn;show s.lines.length<=_;omega,k.flags,by show (0:Int)<=(s.hist.length:Nat);omega,Int.le_refl _,k.fnd0,k.fnd1,k.bell0,by have:=k.bell1;show s.bells<=_;omega⟩,.inl rfl,Nat.le_refl _⟩
        · split
          · exact lP (k.of (t:=vR { s with mode:=s.was } s.saved s.savedAt) k.saved rfl rfl rfl rfl rfl rfl rfl rfl rfl rfl) rfl rfl
          · exact bH k
theorem GI {s:MS}(k:MI B s) (hc:fy s) (c:Cm):cT B s (qD s c):=by
  have hh:=k.histn;unfold qD;split
  · exact Aa k hc
  · split
    · exact zK k
    · split
      · exact zM k
      · split
        · exact DG k c
        · split
          · exact(rZ k _).1
          · split
            · exact⟨⟨k.text,k.draft,k.text,by show ([]:By).length<=_;simp,fun x hx=>Nat.le_trans (k.ring x hx) (by omega),k.ringn,k.hist,k.histn,k.lines,by have:=k.linesn;show s.lines.length<=_;omega,k.flags,k.at0,k.at1,by show (0:Int)<=(s.hist.length:Nat);omega,by show ((s.hist.length:Nat):Int)<=100;omega,k.bell0,by have:=k.bell1;show s.bells<=_;omega⟩,.inl rfl,Nat.le_refl _⟩
            · split
              · have:=bH (k.of (t:= { s with mark:= -1,mode:=if s.mode=3 then 2 else s.mode }) k.text rfl rfl rfl rfl rfl rfl rfl rfl rfl rfl);exact⟨this.inv,this.bell,this.lin⟩
              · split
                · exact bH k
                · exact G1 k
theorem lX {s x y:MS}{c:Prop}[Decidable c] (h1:cT B s x) (h2:cT B s y):cT B s (if c then x else y):=by split<;>assumption
theorem Jy {s:MS}(k:MI B s) (hc:mw s) (c:Cm):cT B s (mc s c):=by
  have ho:=hc.ok;unfold mc;exact lX (mN k ho _ _ _) (lX (pI k _ _) (lX (FJ k c) (lX (GP k ho c) (lX (HN k ho c) (lX (Kz k) (lX (Gf k hc) (lX (JH k hc c) (lX (DN k hc _) (lX (B5 k hc _) (lX (IK k ho c) (lX (Eh k c) (GI k ho c))))))))))))
theorem KY (s:MS):mw (fixC s):=⟨_,rfl,mS _ _⟩
theorem MI.cur {B:Nat}{s:MS}(k:MI B s) (n:Int):MI B { s with cur:=n }:=k.of k.text rfl rfl rfl rfl rfl rfl rfl rfl rfl rfl
theorem KI {s:MS}(k:MI B s) (c:Cm):cT B s (r6 (fixC s) c):=by
  unfold r6;refine lX ?_ ?_
  · have:=DY (k.cur (eT s.text s.cur:Nat)) c;exact⟨this.inv,this.bell,this.lin⟩
  · have:=Jy (k.cur (eT s.text s.cur:Nat)) (KY s) c;exact⟨this.inv,this.bell,this.lin⟩
end
end Go.Proofs.YtpjgdgdnbkjoiaaGreatDoor
namespace Go.Proofs.YtpjgdgdnbkjoiaaGreatDoor
open Go Go.Lw
section
variable {x:Nd}{h:ai}{O:Nat->Prop}{cs:List Value}
def DD (s q:Nat):Nat:=(s >>> (64*q))%2 ^ 64
def eU (s q:Nat):Value:=.int .u64 (DD s q:Nat)
def xP (s:Nat):List Value:=[eU s 0,eU s 1,eU s 2,eU s 3]
theorem DC (s q:Nat):DD s q<18446744073709551616:=Nat.mod_lt _ (by decide)
theorem mz (s q i:Nat):(DD s q).testBit i=(decide (i<64) && s.testBit (64*q+i)):=by
  unfold DD;rw[Nat.testBit_mod_two_pow,Nat.testBit_shiftRight]
theorem HQ (s b:Nat) (q:Nat) (h:q≠b / 64):DD (s |||(1 <<< b)) q=DD s q:=by
  apply Nat.eq_of_testBit_eq
  intro i;rw[mz,mz,Nat.testBit_or,Nat.one_shiftLeft,Nat.testBit_two_pow]
  by_cases hi:i<64
  · have:b≠64*q+i:=by omega
    simp[this]
  · simp[hi]
theorem HP (s b:Nat):DD (s |||(1 <<< b)) (b / 64)=DD s (b / 64) ||| 2 ^ (b%64):=by
  apply Nat.eq_of_testBit_eq
  intro i;rw[mz,Nat.testBit_or,Nat.testBit_or,mz,Nat.one_shiftLeft,Nat.testBit_two_pow,Nat.testBit_two_pow]
  by_cases hi:i<64
  · have:(b=64*(b / 64)+i)↔(b%64=i):=by omega
    simp[hi,this]
  · have:¬b%64=i:=by omega
    simp[hi,this]
theorem lG {i:Int}(h:0<=i/\i<=18446744073709551615):IntKind.u64.wrap i=i:=by
  have h64:(2:Int) ^ 64=18446744073709551616:=rfl;simp only[IntKind.wrap,IntKind.bits,IntKind.signed,h64,Bool.false_and,Bool.false_eq_true,if_false];omega
theorem PB {x y:Nat}(hx:x<18446744073709551616) (hy:y<18446744073709551616):IntKind.u64.wrap ((BitVec.ofInt IntKind.u64.bits (x:Int) |||BitVec.ofInt IntKind.u64.bits (y:Int)).toNat:Int)=((x |||y:Nat):Int):=by
  have e:(BitVec.ofInt IntKind.u64.bits (x:Int) |||BitVec.ofInt IntKind.u64.bits (y:Int)).toNat=x |||y:=by
    rw[BitVec.toNat_or]
    have h1:(BitVec.ofInt IntKind.u64.bits (x:Int)).toNat=x:=by
      show (BitVec.ofInt 64 (x:Int)).toNat=x
      simp only[BitVec.toNat_ofInt];omega
    have h2:(BitVec.ofInt IntKind.u64.bits (y:Int)).toNat=y:=by
      show (BitVec.ofInt 64 (y:Int)).toNat=y
      simp only[BitVec.toNat_ofInt];omega
    rw[h1,h2]
  rw[e];have:x |||y<2 ^ 64:=Nat.or_lt_two_pow hx hy;exact lG ⟨by omega,by omega⟩
theorem N6 (b:Nat):IntKind.u64.wrap (1*2 ^ min ((b%64:Nat):Int).toNat IntKind.u64.bits)=((2 ^ (b%64):Nat):Int):=by
  have hb:b%64<64:=Nat.mod_lt _ (by decide);have h1:min ((b%64:Nat):Int).toNat IntKind.u64.bits=b%64:=by show min _ 64=_;simp;omega
  rw[h1,Int.one_mul];have h2:2 ^ (b%64)<2 ^ 64:=Nat.pow_lt_pow_right (by decide) hb;have h3:((2:Int) ^ (b%64))=((2 ^ (b%64):Nat):Int):=by push_cast;rfl
  rw[h3];generalize 2 ^ (b%64)=p at *;exact lG ⟨by omega,by omega⟩
theorem Qi {x:Nat}(hx:x<18446744073709551616):IntKind.u64.wrap ((BitVec.ofInt IntKind.u64.bits (x:Int) &&& BitVec.ofInt IntKind.u64.bits 1).toNat:Int)=((x%2:Nat):Int):=by
  have e:(BitVec.ofInt IntKind.u64.bits (x:Int) &&& BitVec.ofInt IntKind.u64.bits 1).toNat=x%2:=by
    rw[BitVec.toNat_and]
    have h1:(BitVec.ofInt IntKind.u64.bits (x:Int)).toNat=x:=by
      show (BitVec.ofInt 64 (x:Int)).toNat=x
      simp only[BitVec.toNat_ofInt];omega
    rw[h1]
    show x &&& 1=_
    exact Nat.and_one_is_mod x
  rw[e];exact lG ⟨by omega,by omega⟩
theorem N5 (x:Nat) (b:Nat) (hb:b<64):((x:Int)).fdiv (2 ^ min ((b:Nat):Int).toNat IntKind.u64.bits)=((x >>> b:Nat):Int):=by
  have h1:min ((b:Nat):Int).toNat IntKind.u64.bits=b:=by show min _ 64=_;simp;omega
  rw[h1,Nat.shiftRight_eq_div_pow];have h3:((2:Int) ^ b)=((2 ^ b:Nat):Int):=by push_cast;rfl
  rw[h3,Int.fdiv_eq_ediv_of_nonneg _ (Int.natCast_nonneg _)]
  push_cast;rfl
theorem Ks (s b:Nat):(DD s (b / 64) >>> (b%64))%2=(s.testBit b).toNat:=by
  have h:=mz s (b / 64) (b%64);rw[show 64*(b / 64)+b%64=b from Nat.div_add_mod b 64] at h;have hb:b%64<64:=Nat.mod_lt _ (by decide);simp only[hb,decide_true,Bool.true_and] at h;rw[Nat.shiftRight_eq_div_pow,<-Nat.toNat_testBit,h]
def dS (k s:Nat) (v:Value):List Value:=[.int .i64 k,eU s 0,eU s 1,eU s 2,eU s 3,v]
inductive bI (h:ai) (O:Nat->Prop):List Value->Nd->Prop
  |mk (k s:Nat) (kids:List Nd) (oa:Option Addr) (n c:Nat) (css:Nat->List Value) (hl:kids.length=n) (hc:n<=c) (hm:c<=maxLen)
      (hr:∀i x,kids[i]? =some x->∃b o,oa=some ⟨b,o,none⟩/\¬O b/\Lw.rowAt h b (o+i*6) (css i)) (hk:∀i x,kids[i]? =some x->bI h O (css i) x):bI h O (dS k s (.slice oa n c)) (.mk k s kids)
theorem bI.len (k:bI h O cs x):cs.length=6:=by cases k;rfl
theorem bI.one (k:bI h O cs x):∀v∈cs,v.oneCell'=true:=by
  cases k;intro v hv;simp[dS,eU] at hv
  rcases hv with rfl|rfl|rfl|rfl|rfl|rfl<;>rfl
theorem bI.mv {h':ai}{O':Nat->Prop}(k:bI h O cs x) (m:Mv O O' h h'):bI h' O' cs x:=by
  induction k with
  |mk k s kids oa n c css hl hc hm hr hk ih =>
    refine .mk k s kids oa n c css hl hc hm (fun i x hx=>?_) ih;obtain⟨b,o,ha,ho,hrow⟩:=hr i x hx;have hne:css i≠[]:=by intro e;have:=(hk i x hx).len;rw[e] at this;cases this
    exact⟨b,o,ha,(m.block b (fI hrow hne) ho).2,m.rowAt ho hrow⟩
def uI:iV Nd:=⟨6,by decide,bI,bI.len,bI.one,bI.mv⟩
theorem bI.aj {h h':ai}{O:Nat->Prop}{cs:List Value}{x:Nd}(k:bI h O cs x) (e:an h h'):bI h' O cs x:=k.mv (Mv.aj e)
theorem bI.of {v:Value}{kids:List Nd}(k s:Nat) (hv:bz uI h O v kids):bI h O (dS k s v) (.mk k s kids):=by
  obtain⟨oa,n,c,rfl,hl,hc,hm,hg⟩:=hv
  have hx:∀i,i<n->∃cs:List Value,∃x,kids[i]? =some x/\(∃b o,oa=some ⟨b,o,none⟩/\¬O b/\Lw.rowAt h b (o+i*6) cs)/\bI h O cs x:=by
    intro i hi;obtain⟨b,o,cs,h1,h2,h3,h4⟩:=hg i kids[i] (List.getElem?_eq_getElem (by omega));exact⟨cs,kids[i],List.getElem?_eq_getElem (by omega),⟨b,o,h1,h2,h3⟩,h4⟩
  refine .mk k s kids oa n c (fun i=>if hi:i<n then Classical.choose (hx i hi) else []) hl hc hm (fun i x hxi=>?_) (fun i x hxi=>?_)
  · have hi:i<n:=by rw[<-hl];exact(List.getElem?_eq_some_iff.1 hxi).1
    simp only[dif_pos hi];obtain⟨y,_,h2,_⟩:=Classical.choose_spec (hx i hi);exact h2
  · have hi:i<n:=by rw[<-hl];exact(List.getElem?_eq_some_iff.1 hxi).1
    simp only[dif_pos hi];obtain⟨y,h1,_,h3⟩:=Classical.choose_spec (hx i hi);rw[h1] at hxi;cases hxi;exact h3
theorem bI.open (k:bI h O cs x):∃v,cs=dS x.kind x.set v/\bz uI h O v x.kids:=by
  cases k with
  |mk k s kids oa n c css hl hc hm hr hk =>
    exact⟨_,rfl,oa,n,c,rfl,hl,hc,hm,fun i x hx=>by
      obtain⟨b,o,h1,h2,h3⟩:=hr i x hx;exact⟨b,o,css i,h1,h2,h3,hk i x hx⟩⟩
def bs (l:List UInt8):ByteArray:=⟨l.toArray⟩
theorem jC (l:List UInt8):(bs l).data.toList=l:=by simp[bs]
theorem aE (l:List UInt8):(bs l).size=l.length:=by simp[bs,ByteArray.size]
theorem fQ (l m:List UInt8):bs l++bs m=bs (l++m):=by
  apply ByteArray.ext
  simp[bs]
theorem ie {l m:List UInt8}(h:bs l=bs m):l=m:=by have:=congrArg (fun x=>x.data.toList) h;simpa [bs] using this
theorem ig {l:List UInt8}{i:Nat}{c:UInt8}(h:l[i]? =some c):(bs l).data[i]? =some c:=by simpa [bs] using h
theorem jD (l:List UInt8) (i:Nat):(bs l).extract i (bs l).size=bs (l.drop i):=by
  apply ByteArray.ext
  apply Array.ext'
  rw[ByteArray.data_extract,Array.toList_extract,List.extract_eq_take_drop];rw[aE];simp only[bs];exact List.take_of_length_le (by simp)
theorem jB (l:List UInt8) (i j:Nat) (_h:i<=j):(bs l).extract i j=bs ((l.take j).drop i):=by
  apply ByteArray.ext
  apply Array.ext'
  rw[ByteArray.data_extract,Array.toList_extract,List.extract_eq_take_drop];simp only[bs];rw[List.drop_take]
theorem NO (c d:UInt8):decide (((c.toNat:Nat):Int)≠((d.toNat:Nat):Int))=decide (c≠d):=by
  rw[decide_eq_decide];exact⟨fun h e=>h (by rw[e]),fun h e=>h (UInt8.toNat_inj.1 (by omega))⟩
theorem cX {c:UInt8}{k:Nat}{d:UInt8}(hd:d.toNat=k):(((c.toNat:Nat):Int)=(k:Int))↔c=d:=by
  subst hd;exact⟨fun e=>UInt8.toNat_inj.1 (by omega),fun e=>by rw[e]⟩
end
end Go.Proofs.YtpjgdgdnbkjoiaaGreatDoor

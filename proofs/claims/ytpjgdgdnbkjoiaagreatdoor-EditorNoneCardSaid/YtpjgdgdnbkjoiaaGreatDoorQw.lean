/- What the proof of the statement leans on (part 23). -/
import Derived.Lib.LastIndexLaws
import Derived.Test.YtpjgdgdnbkjoiaaGreatDoorQv

namespace Go.Proofs.YtpjgdgdnbkjoiaaGreatDoor
open Go
section
variable {B a:Nat}{l:List By}
structure MS where
  text:By
  cur:Int
  mode:Int
  mark:Int
  ring:List By
  hist:List By
  at_:Int
  draft:By
  last:Int
  from_:Int
  to_:Int
  query:By
  found:Int
  saved:By
  savedAt:Int
  was:Int
  lines:List By
  flags:List Bool
  bells:Int
structure Cm where
  kind:Int
  way:Int
  n:Int
  text:By
  incl:Bool
def oe (l:List By) (s:By) (way:Int):List By :=
  if s=[] then l
  else match l with
    |x::r=>if 0<way then ((x++s)::r).take 10 else if way<0 then ((s++x)::r).take 10 else (s::l).take 10
    | []=>[s]
def vq:List By->List By
  | []=>[]
  |x::r=>r++[x]
def fQ (l:List By) (s:By):List By:=if s=[]\/l.getLast? =some s then l else (l++[s]).drop (l.length+1-100)
def lastOf (s t:By):Int:=Lib.lastIndex s t
def KO (l:List By) (t:By):Nat->Option (Int×Int)
  | 0=>none
  |n+1=>if 0<=lastOf (l.getD n []) t then some (n,lastOf (l.getD n []) t) else KO l t n
def MH (l:List By) (t:By) (upto:Int):Option (Int×Int):=if t=[] then none else KO l t (if (l.length:Int)-1<upto then l.length else (upto+1).toNat)
def qS (b:Nat):Nat:=if b=40 then 41 else if b=91 then 93 else if b=123 then 125 else 0
def iY (s:By) (t:Tk):Nat:=if (t.1≠7/\t.1≠8)\/t.2.1<0\/(s.length:Int)<=t.2.1\/t.2.2-1≠t.2.1 then 0 else (s.getD t.2.1.toNat 0).toNat
def cO (s:By) (o:List Nat) (t:Tk):List Nat×Bool :=
  if iY s t=0 then (o,true) else if t.1=7 then (o++[t.2.1.toNat],true)
  else if o=[]\/qS (s.getD (o.getLastD 0) 0).toNat≠iY s t then (o,false) else (o.dropLast,true)
def wz (s:By):List Tk->List Nat->List Nat×Bool
  | [],o=>(o,true)
  |t::l,o=>if (cO s o t).2=true then wz s l (cO s o t).1 else (o,false)
def wq (s:By) (l:List Tk) (m:Int):Int:=if (wz s l []).2=false then 2 else if (wz s l []).1≠[]\/m≠0 then 1 else 0
def mG (s:By) (a:Int):List Tk->List Nat->List Nat
  | [],o=>o
  |t::l,o=>mG s a l (if t.2.2<=a then (cO s o t).1 else o)
def qK (s:By) (l:List Tk) (a:Int):Nat:=(mG s a l []).length
def dL (s:MS):MS:= { s with bells:=s.bells+1,last:=0 }
def dB (n:Int):Int:=min (max n 0) 1000
def dN (s:MS) (a:Nat) (t:By):MS×Bool :=
  if 16384-(s.text.length:Int)<t.length then (dL s,false) else ({ s with text:=s.text.take a++t++s.text.drop a,cur:=((a+t.length:Nat):Int) },true)
def qO (s:MS) (a b:Nat):MS:= { s with text:=s.text.take a++s.text.drop b,cur:=(a:Nat) }
def uK (t:By):Nat->By
  | 0=>[]
  |n+1=>t++uK t n
def jZ (t:By) (n:Int):Option By:=if t≠[]/\((16384 / t.length:Nat):Int)<dB n then none else some (uK t (dB n).toNat)
def gk (s:MS) (t:By) (n last:Int):MS:=match jZ t n with
  |none=>dL s
  |some x=>if (dN s s.cur.toNat x).2=false then (dN s s.cur.toNat x).1 else
    { (dN s s.cur.toNat x).1 with from_:=if last=1/\s.last=1/\s.to_=s.cur then s.from_ else s.cur,last:=last,to_:=(dN s s.cur.toNat x).1.cur }
def dR (s:MS) (c:Cm):Nat :=
  let a:=lV s.text s.cur c.way (dB c.n)
  let a:=if c.incl=true/\s.cur<=(a:Int)/\a<eI s.text a then lV s.text a 1 1 else a
  if (a:Int)=s.cur/\c.way=3/\c.kind=5/\0<c.n then lV s.text a 1 1 else a
def p6 (s:MS) (a b:Nat) (ahead:Bool):MS:= { s with ring:=oe s.ring ((s.text.take b).drop a) (if s.last=2 then (if ahead=true then 1 else -1) else 0) }
def G1 (s:MS) (c:Cm):MS :=
  let r:=dR s c
  let a:=min r s.cur.toNat
  let b:=max r s.cur.toNat
  if a=b then dL s
  else if c.kind=4 then { qO s a b with last:=0 }
  else if c.kind=5 then { qO (p6 s a b (decide (s.cur<=(r:Int)))) a b with last:=2 }
  else { p6 { s with last:=0 } a b (decide (s.cur<=(r:Int))) with cur:=(a:Nat) }
def nW (s:By):Nat->Nat->Nat
  | 0,b=>b
  |n+1,b=>if b<s.length then nW s n (eI s (b+1)) else b
def D9 (s:MS) (c:Cm):MS :=
  let a:=aW s.text s.cur.toNat
  let b:=nW s.text ((dB c.n).toNat-1) (eI s.text s.cur.toNat)
  if a=b/\s.text=[] then dL s
  else
    let r:=oe s.ring ((s.text.take b).drop a++[10]) 0
    if c.kind=8 then { s with last:=0,ring:=r }
    else
      let b':=if b<s.text.length then b+1 else b
      let a':=if b<s.text.length then a else if 0<a then a-1 else a
      let t:=qO { s with last:=0,ring:=r } a' b'
      { t with cur:=(aW t.text a':Nat) }
def HJ (s:MS) (c:Cm):MS:=match s.ring with
  | []=>dL s
  |x::_ =>
    if c.kind=10/\s.cur.toNat<eI s.text s.cur.toNat then
      let t:=gk { s with cur:=(lV s.text s.cur 1 1:Nat) } x c.n 3
      if s.bells<t.bells then { t with cur:=s.cur } else t
    else gk s x c.n 3
def Mo (s:MS):MS :=
  if s.last≠3\/s.ring.length<2\/s.from_<0\/s.to_<s.from_\/(s.text.length:Int)<s.to_ then dL s
  else
    let t:=dN (qO { s with ring:=vq s.ring } s.from_.toNat s.to_.toNat) s.from_.toNat ((vq s.ring).headD [])
    if t.2=false then dL s else { t.1 with from_:=s.from_,to_:=t.1.cur }
def nQ (s:MS) (t:By):MS:= { s with text:=t,cur:=(t.length:Nat),mark:= -1,last:=0 }
def ou (s:MS):MS :=
  if wq s.text (aQ s.text).1 (aQ s.text).2.1=1 then
    { (dN s s.cur.toNat (10::List.replicate (2*min (qK s.text (aQ s.text).1 s.cur) 20) 32)).1 with last:=0 }
  else
    nQ { s with lines:=s.lines++[s.text],flags:=s.flags++[decide (wq s.text (aQ s.text).1 (aQ s.text).2.1=2)],hist:=fQ s.hist s.text,at_:=((fQ s.hist s.text).length:Nat),draft:=[],mode:=if s.mode=0 then 0 else 1 } []
def AG (s:MS):MS :=
  if s.at_<=0\/(s.hist.length:Int)<s.at_ then dL s
  else nQ { s with draft:=if s.at_=(s.hist.length:Nat) then s.text else s.draft,at_:=s.at_-1 } (s.hist.getD (s.at_-1).toNat [])
def AJ (s:MS):MS :=
  if s.at_<0\/(s.hist.length:Int)<=s.at_ then dL s
  else if s.at_+1=(s.hist.length:Nat) then nQ { s with at_:=s.at_+1 } s.draft
  else nQ { s with at_:=s.at_+1 } (s.hist.getD (s.at_+1).toNat [])
def jB (s:MS) (w n:Int):MS:= { s with cur:=(lV s.text s.cur w (dB n):Nat),last:=0 }
def Ab (s:MS) (c:Cm):MS :=
  if c.kind=19/\aW s.text s.cur.toNat=0 then AG s
  else if c.kind=20/\eI s.text s.cur.toNat=s.text.length then AJ s
  else if c.kind=19 then jB s 4 1 else jB s 5 1
def Dx (s:MS):MS :=
  let a:=if s.cur=(s.text.length:Nat) then lV s.text s.cur 0 1 else s.cur.toNat
  let l:=lV s.text a 0 1
  let r:=lV s.text a 1 1
  if l=a\/r=a then dL s
  else { s with text:=s.text.take l++(s.text.take r).drop a++(s.text.take a).drop l++s.text.drop r,cur:=(r:Nat),last:=0 }
def Jd (b:UInt8):UInt8:=if 97<=b/\b<=122 then b-32 else b
def DJ (b:UInt8):UInt8:=if 65<=b/\b<=90 then b+32 else b
def xJ (how:Int):By->Bool->By
  | [],_=>[]
  |c::l,met=>(if how=1\/(how=2/\met=false)\/(how=3/\c=DJ c) then Jd c else DJ c)::xJ how l (met ||decide (Jd c≠DJ c))
def BE (s:MS) (b:Nat) (how:Int):MS:= { s with text:=s.text.take s.cur.toNat++xJ how ((s.text.take b).drop s.cur.toNat) false++s.text.drop b,cur:=(b:Nat),last:=0 }
def JA (s:MS) (c:Cm):MS:=if lV s.text s.cur 6 1=s.cur.toNat\/c.n<0\/2<c.n then dL s else BE s (lV s.text s.cur 6 1) c.n
def rm (s:By) (e:Nat):Nat->Nat->Nat
  | 0,b=>b
  |n+1,b=>rm s e n (if b<e then lV s b 1 1 else b)
def Af (s:MS) (n:Int):MS :=
  let b:=rm s.text (eI s.text s.cur.toNat) (dB n).toNat s.cur.toNat
  if b=s.cur.toNat then dL s else BE s b 3
def replaceM (s:MS) (t:By):MS :=
  if eI s.text s.cur.toNat<=s.cur.toNat then dL s
  else
    let r:=dN (qO s s.cur.toNat (lV s.text s.cur 1 1)) s.cur.toNat t
    if r.2=false then dL s else { r.1 with cur:=s.cur,last:=0 }
def jC (s:MS) (n:Int):MS :=
  if n<0\/3<n then dL s
  else
    let t:=if n=2/\s.mode=1/\aW s.text s.cur.toNat<s.cur.toNat then jB s 0 1 else s
    { t with mark:=if n=3 then t.cur else -1,mode:=n,last:=0 }
def AM (s:MS) (c:Cm):MS :=
  if s.mark<0\/(c.n≠1/\c.n≠2) then dL s
  else
    let m:=fG s.text s.mark
    let a:=min m s.cur.toNat
    let b:=lV s.text (max m s.cur.toNat:Nat) 1 1
    let t:= { s with ring:=oe s.ring ((s.text.take b).drop a) 0 }
    let t:=if c.kind=26 then qO t a b else t
    jC { t with cur:=(a:Nat) } c.n
def vE (s:MS) (t:By) (a:Int):MS:= { s with text:=t,cur:=(fG t a:Nat),last:=0 }
def Cn (s:MS) (q:By) (upto:Int):MS :=
  if q=[] then vE { s with query:=[],found:=(s.hist.length:Nat) } s.saved s.savedAt
  else match MH s.hist q upto with
    |none=>dL s
    |some (i,a)=>vE { s with query:=q,found:=i } (s.hist.getD i.toNat []) a
def Ar (s:MS) (c:Cm):MS :=
  if c.kind=29 then (if 100<s.query.length+c.text.length then dL s else Cn s (s.query++c.text) (min s.found ((s.hist.length:Int)-1)))
  else if c.kind=30 then Cn s (s.query.take (ij s.query s.query.length)) ((s.hist.length:Int)-1)
  else if c.kind=31 then Cn s s.query (max s.found 0-1)
  else if c.kind=32 then { s with mode:=s.was,at_:=(s.hist.length:Nat),draft:=[],last:=0 }
  else if c.kind=33 then vE { s with mode:=s.was } s.saved s.savedAt
  else dL s
def IF (s:MS) (c:Cm):MS :=
  let a:=if c.kind=16 then aW s.text s.cur.toNat else eI s.text s.cur.toNat
  let t:=dN s a [10]
  if t.2=false then dL s else jC { t.1 with cur:=if c.kind=15 then ((a+1:Nat):Int) else (a:Nat) } 1
def qv (s:MS) (c:Cm):MS :=
  if c.kind=14 then ou s
  else if c.kind=17 then AG s
  else if c.kind=18 then AJ s
  else if c.kind=19\/c.kind=20 then Ab s c
  else if c.kind=25 then jC s c.n
  else if c.kind=28 then { s with was:=s.mode,mode:=4,query:=[],found:=(s.hist.length:Nat),saved:=s.text,savedAt:=s.cur,last:=0 }
  else if c.kind=33 then dL { s with mark:= -1,mode:=if s.mode=3 then 2 else s.mode }
  else if c.kind=1 then dL s
  else s
def lI (s:MS) (c:Cm):MS :=
  if c.kind=2 then gk s c.text c.n 1
  else if c.kind=3 then jB s c.way c.n
  else if c.kind=4\/c.kind=5\/c.kind=6 then G1 s c
  else if c.kind=7\/c.kind=8 then D9 s c
  else if c.kind=9\/c.kind=10 then HJ s c
  else if c.kind=11 then Mo s
  else if c.kind=21 then Dx s
  else if c.kind=22 then JA s c
  else if c.kind=23 then Af s c.n
  else if c.kind=24 then replaceM s c.text
  else if c.kind=15\/c.kind=16 then IF s c
  else if c.kind=26\/c.kind=27 then AM s c
  else qv s c
def fixC (s:MS):MS:= { s with cur:=(fG s.text s.cur:Nat) }
def GB (s:MS) (c:Cm):MS:=if s.mode=4 then Ar s c else lI s c
def CL (t:MS):MS:=if t.mode=2/\t.cur.toNat=eI t.text t.cur.toNat/\aW t.text t.cur.toNat<t.cur.toNat then { t with cur:=(lV t.text t.cur 0 1:Nat) } else t
def dh (s:MS) (c:Cm):MS:=if c.kind<=0\/33<c.kind\/c.kind=12\/c.kind=13 then s else CL (fixC (GB (fixC s) c))
structure MI (B:Nat) (s:MS):Prop where
  text:s.text.length<=16384
  draft:s.draft.length<=16384
  saved:s.saved.length<=16384
  query:s.query.length<=100
  ring:∀x∈s.ring,x.length<=B
  ringn:s.ring.length<=10
  hist:∀x∈s.hist,x.length<=16384
  histn:s.hist.length<=100
  lines:∀x∈s.lines,x.length<=16384
  linesn:s.lines.length<=B
  flags:s.flags.length=s.lines.length
  at0:0<=s.at_
  at1:s.at_<=(s.hist.length:Nat)
  fnd0:0<=s.found
  fnd1:s.found<=100
  bell0:0<=s.bells
  bell1:s.bells<=B
def fo (s:MS):Prop:=0<=s.cur/\s.cur<=(s.text.length:Nat)
structure cQ (B:Nat) (s t:MS):Prop where
  inv:MI (B+20000) t
  bell:t.bells=s.bells\/(t.bells=s.bells+1/\t.text=s.text)
  lin:s.lines.length<=t.lines.length
theorem MI.up {C:Nat}{s:MS}(k:MI B s) (h:B<=C):MI C s :=
  { k with ring:=fun x hx=>Nat.le_trans (k.ring x hx) h,linesn:=Nat.le_trans k.linesn h,bell1:=by have:=k.bell1;omega }
theorem GS {s:MS}(k:MI B s):cQ B s s:=⟨k.up (by omega),.inl rfl,Nat.le_refl _⟩
theorem bI {s:MS}(k:MI B s):cQ B s (dL s) :=
  ⟨{ k.up (C:=B+20000) (by omega) with bell0:=by have:=k.bell0;show 0<=s.bells+1;omega,bell1:=by have:=k.bell1;show s.bells+1<=_;omega },.inr ⟨rfl,rfl⟩,Nat.le_refl _⟩
theorem MI.of {s t:MS}(k:MI B s) (h1:t.text.length<=16384) (h2:t.draft=s.draft) (h3:t.saved=s.saved) (h4:t.query=s.query) (h5:t.ring=s.ring) (h6:t.hist=s.hist) (h7:t.lines=s.lines) (h8:t.flags=s.flags) (h9:t.at_=s.at_) (h10:t.found=s.found) (h11:t.bells=s.bells):MI B t:=by
  obtain⟨text,cur,mode,mark,ring,hist,at_,draft,last,from_,to_,query,found,saved,savedAt,was,lines,flags,bells⟩:=t;simp only at h1 h2 h3 h4 h5 h6 h7 h8 h9 h10 h11;subst h2 h3 h4 h5 h6 h7 h8 h9 h10 h11;exact⟨h1,k.draft,k.saved,k.query,k.ring,k.ringn,k.hist,k.histn,k.lines,k.linesn,k.flags,k.at0,k.at1,k.fnd0,k.fnd1,k.bell0,k.bell1⟩
theorem MI.ring' {C:Nat}{s:MS}(k:MI B s) (r:List By) (h1:∀x∈r,x.length<=C) (h2:r.length<=10) (h:B<=C):MI C { s with ring:=r } :=
  ⟨k.text,k.draft,k.saved,k.query,h1,h2,k.hist,k.histn,k.lines,Nat.le_trans k.linesn h,k.flags,k.at0,k.at1,k.fnd0,k.fnd1,k.bell0,by have:=k.bell1;show s.bells<=_;omega⟩
theorem wN {x:By}(way:Int) (h1:∀y∈l,y.length<=B) (h2:l.length<=10) (hx:x.length<=16385):(∀y∈oe l x way,y.length<=B+16385)/\(oe l x way).length<=10:=by
  unfold oe;split
  · exact⟨fun y hy=>by have:=h1 y hy;omega,h2⟩
  · cases l with
    |nil=>exact⟨fun y hy=>by rw[List.mem_singleton.1 hy];omega,by simp⟩
    |cons a r =>
      have ha:=h1 a List.mem_cons_self;have hr:∀y∈r,y.length<=B:=fun y hy=>h1 y (List.mem_cons_of_mem _ hy)
      simp only
      have key:∀(b:By) (q:List By),b.length<=B+16385->(∀y∈q,y.length<=B+16385)->(∀y∈(b::q).take 10,y.length<=B+16385)/\((b::q).take 10).length<=10:=fun b q hb hq=>⟨fun y hy=>by
        rcases List.mem_cons.1 (List.mem_of_mem_take hy) with rfl|hy
        · exact hb
        · exact hq y hy,by rw[List.length_take];omega⟩
      split
      · exact key _ _ (by rw[List.length_append];omega) (fun y hy=>by have:=hr y hy;omega)
      · split
        · exact key _ _ (by rw[List.length_append];omega) (fun y hy=>by have:=hr y hy;omega)
        · exact key _ _ (by omega) (fun y hy=>by have:=h1 y hy;omega)
theorem HQ (h1:∀y∈l,y.length<=B) (h2:l.length<=10):(∀y∈vq l,y.length<=B)/\(vq l).length<=10:=by
  cases l with
  |nil=>exact⟨h1,h2⟩
  |cons a r =>
    refine⟨fun y hy=>?_,by simpa [vq] using h2⟩
    rcases List.mem_append.1 hy with hy|hy
    · exact h1 y (List.mem_cons_of_mem _ hy)
    · rw[List.mem_singleton.1 hy];exact h1 a List.mem_cons_self
theorem I9 {x:By}(h1:∀y∈l,y.length<=B) (h2:l.length<=100) (hx:x.length<=B):(∀y∈fQ l x,y.length<=B)/\(fQ l x).length<=100:=by
  unfold fQ;split
  · exact⟨h1,h2⟩
  · refine⟨fun y hy=>?_,by rw[List.length_drop,List.length_append];simp only[List.length_cons,List.length_nil];omega⟩
    rcases List.mem_append.1 (List.mem_of_mem_drop hy) with hy|hy
    · exact h1 y hy
    · rw[List.mem_singleton.1 hy];exact hx
theorem rN (s:By) (a b:Nat) (n:Nat) (h:s.length<=n):((s.take b).drop a).length<=n:=by rw[List.length_drop,List.length_take];omega
theorem rM {s:MS}(k:MI B s) (ha:a<=s.text.length) (t:By):((dN s a t).2=false/\(dN s a t).1=dL s)\/((dN s a t).2=true/\MI B (dN s a t).1/\(dN s a t).1.bells=s.bells/\(dN s a t).1.lines=s.lines/\(dN s a t).1.cur=((a+t.length:Nat):Int)/\(dN s a t).1.text.length=s.text.length+t.length):=by
  have:=k.text;unfold dN;split
  · exact .inl ⟨rfl,rfl⟩
  · rename_i h
    have hl:(s.text.take a++t++s.text.drop a).length=s.text.length+t.length:=by
      rw[List.length_append,List.length_append,List.length_take,List.length_drop];omega
    exact .inr ⟨rfl,k.of (by show (s.text.take a++t++s.text.drop a).length<=_;omega) rfl rfl rfl rfl rfl rfl rfl rfl rfl rfl,rfl,rfl,rfl,hl⟩
theorem mH {s:MS}(k:MI B s){b:Nat}(h:a<=b):MI B (qO s a b) :=
  k.of (by have:=k.text;show (s.text.take a++s.text.drop b).length<=_;rw[List.length_append,List.length_take,List.length_drop];omega) rfl rfl rfl rfl rfl rfl rfl rfl rfl rfl
theorem mj {s:MS}(k:MI B s) (hc:fo s) (t:By) (n last:Int):cQ B s (gk s t n last):=by
  unfold gk;split
  · exact bI k
  · rename_i x _
    rcases rM k (a:=s.cur.toNat) (by unfold fo at hc;omega) x with ⟨h1,h2⟩|⟨h1,h2,h3,h4,h5,h6⟩
    · rw[if_pos h1,h2];exact bI k
    · rw[if_neg (by rw[h1];simp)];exact⟨(h2.up (by omega)).of h2.text rfl rfl rfl rfl rfl rfl rfl rfl rfl rfl,.inl h3,by show _<=(dN s s.cur.toNat x).1.lines.length;rw[h4];exact Nat.le_refl _⟩
theorem Gs {s:MS}(c:Cm):dR s c<=s.text.length:=by
  unfold dR;exact eX (vv _ _ _ _) (eX (vv _ _ _ _) (vv _ _ _ _))
theorem Cz {s:MS}(k:MI B s) (a b:Nat) (d:Bool):MI (B+16385) (p6 s a b d):=by
  have:=wN (x:=(s.text.take b).drop a) (if s.last=2 then (if d=true then 1 else -1) else 0) k.ring k.ringn (by have:=rN s.text a b _ k.text;omega);exact k.ring' _ this.1 this.2 (by omega)
theorem Fy {s:MS}(k:MI B s) (c:Cm):cQ B s (G1 s c):=by
  unfold G1;simp only;have hab:min (dR s c) s.cur.toNat<=max (dR s c) s.cur.toNat:=by omega
  split
  · exact bI k
  · split
    · exact⟨((mH k hab).up (by omega)).of (mH k hab).text rfl rfl rfl rfl rfl rfl rfl rfl rfl rfl,.inl rfl,Nat.le_refl _⟩
    · split
      · have h:=mH (Cz k (min (dR s c) s.cur.toNat) (max (dR s c) s.cur.toNat) (decide (s.cur<=(dR s c:Int)))) hab;exact⟨(h.up (by omega)).of h.text rfl rfl rfl rfl rfl rfl rfl rfl rfl rfl,.inl rfl,Nat.le_refl _⟩
      · have h:=Cz (k.of (t:= { s with last:=0 }) k.text rfl rfl rfl rfl rfl rfl rfl rfl rfl rfl) (min (dR s c) s.cur.toNat) (max (dR s c) s.cur.toNat) (decide (s.cur<=(dR s c:Int)));exact⟨(h.up (by omega)).of h.text rfl rfl rfl rfl rfl rfl rfl rfl rfl rfl,.inl rfl,Nat.le_refl _⟩
theorem zy {s:By}:∀(n b:Nat),b<=s.length->b<=nW s n b/\nW s n b<=s.length
  | 0,b,h=>⟨Nat.le_refl _,h⟩
  |n+1,b,h=>by
    rw[nW];split
    · rename_i q;have h1:=mz (s:=s) (a:=b+1) (by omega);have h2:=zy n (eI s (b+1)) h1.2;omega
    · omega
theorem GG {s:MS}(k:MI B s) (hc:fo s) (c:Cm):cQ B s (D9 s c):=by
  have hn:s.cur.toNat<=s.text.length:=by unfold fo at hc;omega
  have h0:=gL s.text s.cur.toNat;have h1:=mz hn;have h2:=zy (s:=s.text) ((dB c.n).toNat-1) _ h1.2;have hk:=wN (x:=(s.text.take (nW s.text ((dB c.n).toNat-1) (eI s.text s.cur.toNat))).drop (aW s.text s.cur.toNat)++[10]) 0 k.ring k.ringn (by rw[List.length_append];have:=rN s.text (aW s.text s.cur.toNat) (nW s.text ((dB c.n).toNat-1) (eI s.text s.cur.toNat)) _ k.text;simp only[List.length_cons,List.length_nil];omega);have hr:=k.ring' (C:=B+16385) _ hk.1 hk.2 (by omega);unfold D9;simp only;split
  · exact bI k
  · split
    · exact⟨(hr.up (by omega)).of k.text rfl rfl rfl rfl rfl rfl rfl rfl rfl rfl,.inl rfl,Nat.le_refl _⟩
    · generalize nW s.text ((dB c.n).toNat-1) (eI s.text s.cur.toNat)=b at *;generalize aW s.text s.cur.toNat=a at *;have hab:(if b<s.text.length then a else if 0<a then a-1 else a)<=(if b<s.text.length then b+1 else b):=by (repeat' split)<;>omega
      have h:=mH (hr.of (t:= { s with last:=0,ring:=oe s.ring ((s.text.take b).drop a++[10]) 0 }) k.text rfl rfl rfl rfl rfl rfl rfl rfl rfl rfl) hab;exact⟨(h.up (by omega)).of h.text rfl rfl rfl rfl rfl rfl rfl rfl rfl rfl,.inl rfl,Nat.le_refl _⟩
theorem HH {s:MS}(k:MI B s) (hc:fo s) (c:Cm):cQ B s (HJ s c):=by
  unfold HJ;split
  · exact bI k
  · rename_i x _ _;split
    · have h:=mj (k.of (t:= { s with cur:=(lV s.text s.cur 1 1:Nat) }) k.text rfl rfl rfl rfl rfl rfl rfl rfl rfl rfl) ⟨by show (0:Int)<=((lV s.text s.cur 1 1:Nat):Int);omega,by show ((lV s.text s.cur 1 1:Nat):Int)<=(s.text.length:Nat);have:=vv s.text s.cur 1 1;omega⟩ x c.n 3;simp only;split
      · exact⟨h.inv.of h.inv.text rfl rfl rfl rfl rfl rfl rfl rfl rfl rfl,h.bell,h.lin⟩
      · exact⟨h.inv,h.bell,h.lin⟩
    · exact mj k hc x c.n 3
theorem Kr {s:MS}(k:MI B s):cQ B s (Mo s):=by
  unfold Mo;split
  · exact bI k
  · rename_i hn;have ht:=HQ k.ring k.ringn;have hr:=k.ring' (C:=B) _ ht.1 ht.2 (Nat.le_refl _)
    have h1:s.from_.toNat<=s.to_.toNat/\s.to_.toNat<=s.text.length:=by
      simp only[not_or,Int.not_lt] at hn;omega
    have h2:=mH hr h1.1
    have hl:(qO { s with ring:=vq s.ring } s.from_.toNat s.to_.toNat).text.length=s.text.length-(s.to_.toNat-s.from_.toNat):=by
      show (s.text.take _++s.text.drop _).length=_
      rw[List.length_append,List.length_take,List.length_drop];omega
    simp only
    rcases rM h2 (a:=s.from_.toNat) (by omega) ((vq s.ring).headD []) with ⟨e1,e2⟩|⟨e1,e2,e3,e4,e5,e6⟩
    · rw[if_pos e1];exact bI k
    · rw[if_neg (by rw[e1];simp)];exact⟨(e2.up (by omega)).of e2.text rfl rfl rfl rfl rfl rfl rfl rfl rfl rfl,.inl e3,by show _<=List.length (dN _ _ _).1.lines;rw[e4];exact Nat.le_refl _⟩
theorem zM {s:MS}(k:MI B s) (hc:fo s):cQ B s (ou s):=by
  unfold ou;split
  · rcases rM k (a:=s.cur.toNat) (by unfold fo at hc;omega) (10::List.replicate (2*min (qK s.text (aQ s.text).1 s.cur) 20) 32) with ⟨h1,h2⟩|⟨h1,h2,h3,h4,h5,h6⟩
    · rw[h2];have:=bI k;exact⟨this.inv,this.bell,this.lin⟩
    · exact⟨(h2.up (by omega)).of h2.text rfl rfl rfl rfl rfl rfl rfl rfl rfl rfl,.inl h3,by show _<=List.length (dN _ _ _).1.lines;rw[h4];exact Nat.le_refl _⟩
  · have hh:=I9 k.hist k.histn k.text;refine⟨⟨by show ([]:By).length<=_;simp,by show ([]:By).length<=_;simp,k.saved,k.query,fun x hx=>Nat.le_trans (k.ring x hx) (by omega),k.ringn,hh.1,hh.2,fun x hx=>?_,?_,?_,by show (0:Int)<=((fQ s.hist s.text).length:Nat);omega,Int.le_refl _,k.fnd0,k.fnd1,k.bell0,by have:=k.bell1;show s.bells<=_;omega⟩,.inl rfl,?_⟩
    · rcases List.mem_append.1 hx with hx|hx
      · exact k.lines x hx
      · rw[List.mem_singleton.1 hx];exact k.text
    · show (s.lines++[s.text]).length<=_
      have:=k.linesn;rw[List.length_append];simp only[List.length_cons,List.length_nil];omega
    · show (s.flags++[_]).length=(s.lines++[s.text]).length
      rw[List.length_append,List.length_append,k.flags];rfl
    · show _<=(s.lines++[s.text]).length
      rw[List.length_append];omega
theorem wT {n:Nat}(h:∀x∈l,x.length<=n) (i:Nat):(l.getD i []).length<=n:=by
  rw[List.getD_eq_getElem?_getD];cases q:l[i]? with
  |none=>simp
  |some x=>exact h x (List.mem_of_getElem? q)
theorem zo {s:MS}(k:MI B s):cQ B s (AG s):=by
  unfold AG;split
  · exact bI k
  · rename_i h;simp only[not_or,Int.not_le,Int.not_lt] at h;refine⟨⟨wT k.hist _,?_,k.saved,k.query,fun x hx=>Nat.le_trans (k.ring x hx) (by omega),k.ringn,k.hist,k.histn,k.lines,by have:=k.linesn;show s.lines.length<=_;omega,k.flags,by show 0<=s.at_-1;omega,by show s.at_-1<=(s.hist.length:Nat);omega,k.fnd0,k.fnd1,k.bell0,by have:=k.bell1;show s.bells<=_;omega⟩,.inl rfl,Nat.le_refl _⟩
    show (if s.at_=(s.hist.length:Nat) then s.text else s.draft).length<=_
    split
    · exact k.text
    · exact k.draft
theorem zu {s:MS}(k:MI B s):cQ B s (AJ s):=by
  have:=k.at0;unfold AJ;split
  · exact bI k
  · rename_i h;simp only[not_or,Int.not_le,Int.not_lt] at h;have key:∀t:By,t.length<=16384->cQ B s (nQ { s with at_:=s.at_+1 } t):=fun t ht=>⟨⟨ht,k.draft,k.saved,k.query,fun x hx=>Nat.le_trans (k.ring x hx) (by omega),k.ringn,k.hist,k.histn,k.lines,by have:=k.linesn;show s.lines.length<=_;omega,k.flags,by show 0<=s.at_+1;omega,by show s.at_+1<=(s.hist.length:Nat);omega,k.fnd0,k.fnd1,k.bell0,by have:=k.bell1;show s.bells<=_;omega⟩,.inl rfl,Nat.le_refl _⟩
    split
    · exact key _ k.draft
    · exact key _ (wT k.hist _)
theorem lf {s t:MS}(h:MI B t) (hb:t.bells=s.bells) (hl:t.lines=s.lines):cQ B s t:=⟨h.up (by omega),.inl hb,by rw[hl];exact Nat.le_refl _⟩
theorem o6 {s:MS}(k:MI B s) (w n:Int):cQ B s (jB s w n):=lf (k.of k.text rfl rfl rfl rfl rfl rfl rfl rfl rfl rfl) rfl rfl
theorem Dt {s:MS}(k:MI B s) (c:Cm):cQ B s (Ab s c):=by
  unfold Ab;split
  · exact zo k
  · split
    · exact zu k
    · split
      · exact o6 k _ _
      · exact o6 k _ _
theorem xI (how:Int):∀(l:By) (m:Bool),(xJ how l m).length=l.length
  | [],_=>rfl
  |c::l,m=>by rw[xJ,List.length_cons,List.length_cons,xI how l]
theorem BD {s:MS}(k:MI B s){b:Nat}(h:s.cur.toNat<=b) (hb:b<=s.text.length) (how:Int):cQ B s (BE s b how)/\(BE s b how).text.length=s.text.length:=by
  have hl:(BE s b how).text.length=s.text.length:=by
    show (s.text.take s.cur.toNat++xJ how _ false++s.text.drop b).length=_
    rw[List.length_append,List.length_append,xI,List.length_drop,List.length_drop,List.length_take,List.length_take];omega
  exact⟨lf (k.of (by rw[hl];exact k.text) rfl rfl rfl rfl rfl rfl rfl rfl rfl rfl) rfl rfl,hl⟩
theorem HT (s:By) (w:Int) (a:Nat):HV s w 1 a=mS s a w:=by
  rw[HV];split
  · rename_i e;rw[e]
  · rfl
theorem oS (s:By) (a w:Int):lV s a w 1=mS s (fG s a) w:=by
  unfold lV;rw[show (min (max (1:Int) 0) 1000).toNat=1 by decide,HT]
theorem Fw {a:Int}:∀(l:List Nat) (o:Nat),(∀k∈l,a<(k:Nat))->l.foldl (fun(o k:Nat)=>if (k:Int)<=a then k else o) o=o
  | [],_,_=>rfl
  |x::l,o,h=>by
    rw[List.foldl_cons,if_neg (by have:=h x List.mem_cons_self;omega)];exact Fw l o fun k hk=>h k (List.mem_cons_of_mem _ hk)
theorem zJ:∀(n:Nat) (l:By) (a o c:Nat),c∈bf n l a->(bf n l a).foldl (fun(o k:Nat)=>if (k:Int)<=(c:Nat) then k else o) o=c
  | 0,_,_,_,_,h=>by simp[bf] at h
  |n+1,l,a,o,c,h=>by
    rw[bf] at h ⊢;split at h
    · simp at h
    · rename_i hl;have hr:=cv hl;rw[if_neg hl,List.foldl_cons]
      rcases List.mem_cons.1 h with rfl|h
      · rw[if_pos (by omega)];exact Fw _ _ fun k hk=>by have:=eC _ _ _ _ hk;omega
      · exact zJ n _ _ _ c h
theorem tA {s:By}(h:mO s a):fG s a=a:=by
  unfold fG
  rcases h with h|h
  · have:=gx h;rw[if_neg (by omega)];exact zJ _ _ _ _ _ h
  · rw[if_pos (by omega),h]
theorem Iq {s:By}(h:mO s a):mO s (cw s a):=by
  unfold cw
  rcases h with h|h
  · have:=gx h;rw[if_neg (by omega)];exact(tM h).1
  · rw[if_pos (by omega)];exact .inr h
theorem Fv {a:Int}{c:Nat}(hc:(c:Int)<=a):∀(n:Nat) (l:By) (b o:Nat),c∈bf n l b->c<=(bf n l b).foldl (fun(o k:Nat)=>if (k:Int)<=a then k else o) o
  | 0,_,_,_,h=>by simp[bf] at h
  |n+1,l,b,o,h=>by
    rw[bf] at h ⊢;split at h
    · simp at h
    · rename_i hl;have hr:=cv hl;rw[if_neg hl,List.foldl_cons]
      rcases List.mem_cons.1 h with rfl|h
      · rw[if_pos hc]
        rcases A5 (bf n (l.drop (aN l)) (c+aN l)) a c (fun _ h=>h) with q|q
        · have:=eC _ _ _ _ q;omega
        · omega
      · exact Fv hc n _ _ _ h
theorem MJ {s:By}{c:Nat}{a:Int}(h:mO s c) (ha:(c:Int)<=a):c<=fG s a:=by
  unfold fG;split
  · exact tS h
  · rcases h with h|h
    · exact Fv ha _ _ _ _ h
    · omega
def lR (s:MS):Prop:=∃c:Nat,s.cur=(c:Nat)/\mO s.text c
theorem lR.ok {s:MS}(h:lR s):fo s:=by
  obtain⟨c,h1,h2⟩:=h;have:=tS h2;unfold fo;omega
theorem MG {s:By}(h:mO s a):a<=lV s a 6 1/\lV s a 6 1<=s.length:=by
  rw[oS,tA h];have e:mS s a 6=cI FZ s (cI uD s a):=rfl;rw[e];have h1:=fY (so:=uD) (tS h);have h2:=fY (so:=FZ) h1.2;omega
theorem s5 {s:By}(h:mO s a):lV s a 1 1=cw s a:=by rw[oS,tA h];rfl
theorem F2 {s:MS}(k:MI B s) (hc:lR s):cQ B s (Dx s):=by
  obtain⟨p,h1,h2⟩:=hc;unfold Dx;simp only
  have hpa:mO s.text (if s.cur=(s.text.length:Nat) then lV s.text s.cur 0 1 else s.cur.toNat):=by
    split
    · rw[oS];exact Ft (mw _ _)
    · rw[h1];exact h2
  generalize (if s.cur=(s.text.length:Nat) then lV s.text s.cur 0 1 else s.cur.toNat)=a at hpa ⊢;have e1:lV s.text a 0 1=ij s.text a:=by rw[oS,tA hpa];rfl
  rw[e1,s5 hpa];split
  · exact bI k
  · refine lf (k.of ?_ rfl rfl rfl rfl rfl rfl rfl rfl rfl rfl) rfl rfl;have q1:=rV s.text a;have q2:=gM (tS hpa);have:=k.text
    show (s.text.take _++(s.text.take _).drop a++(s.text.take a).drop _++s.text.drop _).length<=_
    simp only[List.length_append,List.length_take,List.length_drop];omega
theorem Jz {s:MS}(k:MI B s) (hc:lR s) (c:Cm):cQ B s (JA s c):=by
  obtain⟨p,h1,h2⟩:=hc;unfold JA;split
  · exact bI k
  · rw[h1];have:=MG h2;exact(BD k (by rw[h1];exact this.1) this.2 _).1
theorem qo {s:By}{e:Nat}:∀(n b:Nat),mO s b->mO s (rm s e n b)/\b<=rm s e n b
  | 0,_,h=>⟨h,Nat.le_refl _⟩
  |n+1,b,h=>by
    rw[rm];split
    · rw[s5 h];have h1:=qo (e:=e) n _ (Iq h);have h2:=gM (tS h);exact⟨h1.1,by omega⟩
    · exact qo n b h
theorem DA {s:MS}(k:MI B s) (hc:lR s) (n:Int):cQ B s (Af s n):=by
  obtain⟨p,h1,h2⟩:=hc;have h3:=qo (e:=eI s.text p) (dB n).toNat p h2;unfold Af;simp only[h1,Int.toNat_natCast];split
  · exact bI k
  · exact(BD k (by rw[h1];exact h3.2) (tS h3.1) _).1
theorem BW {s:MS}(k:MI B s) (hc:lR s) (t:By):cQ B s (replaceM s t):=by
  obtain⟨p,h1,h2⟩:=hc;have hp:=tS h2;have hr:=gM hp;unfold replaceM;simp only[h1,Int.toNat_natCast];split
  · exact bI k
  · rw[s5 h2];have hk:=mH k hr.1;have hl:p<=(qO s p (cw s.text p)).text.length:=by show _<=(s.text.take p++_).length;rw[List.length_append,List.length_take];omega
    rcases rM hk hl t with ⟨e1,e2⟩|⟨e1,e2,e3,e4,e5,e6⟩
    · rw[if_pos e1];exact bI k
    · rw[if_neg (by rw[e1];simp)];exact⟨(e2.up (by omega)).of e2.text rfl rfl rfl rfl rfl rfl rfl rfl rfl rfl,.inl e3,by show _<=List.length (dN _ _ _).1.lines;rw[e4];exact Nat.le_refl _⟩
theorem rP {s:MS}(k:MI B s) (n:Int):cQ B s (jC s n)/\((0<=n/\n<=3)->MI B (jC s n)/\(jC s n).bells=s.bells/\(jC s n).text=s.text/\(jC s n).lines=s.lines):=by
  unfold jC;split
  · exact⟨bI k,fun h=>by omega⟩
  · have key:∀t:MS,MI B t->t.bells=s.bells->t.lines=s.lines->t.text=s.text->(cQ B s { t with mark:=if n=3 then t.cur else -1,mode:=n,last:=0 }/\((0<=n/\n<=3)->MI B { t with mark:=if n=3 then t.cur else -1,mode:=n,last:=0 }/\t.bells=s.bells/\t.text=s.text/\t.lines=s.lines)):=fun t h1 h2 h3 h4=>by
      have q:=h1.of (t:= { t with mark:=if n=3 then t.cur else -1,mode:=n,last:=0 }) h1.text rfl rfl rfl rfl rfl rfl rfl rfl rfl rfl;exact⟨lf q h2 h3,fun _=>⟨q,h2,h4,h3⟩⟩
    simp only;split
    · exact key (jB s 0 1) (k.of k.text rfl rfl rfl rfl rfl rfl rfl rfl rfl rfl) rfl rfl rfl
    · exact key s k rfl rfl rfl
theorem D4 {s:MS}(k:MI B s) (c:Cm):cQ B s (AM s c):=by
  unfold AM;split
  · exact bI k
  · rename_i hn;simp only;generalize hm:fG s.text s.mark=m;have hab:min m s.cur.toNat<=lV s.text (max m s.cur.toNat:Nat) 1 1\/True:=.inr trivial;have hkl:=wN (x:=(s.text.take (lV s.text (max m s.cur.toNat:Nat) 1 1)).drop (min m s.cur.toNat)) 0 k.ring k.ringn (by have:=rN s.text (min m s.cur.toNat) (lV s.text (max m s.cur.toNat:Nat) 1 1) _ k.text;omega);have hr:=k.ring' (C:=B+16385) _ hkl.1 hkl.2 (by omega);have hml:=uV s.text s.mark
    have hab:min m s.cur.toNat<=lV s.text (max m s.cur.toNat:Nat) 1 1:=by
      rw[oS]
      have h1:min m s.cur.toNat<=fG s.text ((max m s.cur.toNat:Nat):Int):=by
        have hpl:mO s.text m:=by rw[<-hm];exact mw _ _
        have h2:=MJ (s:=s.text) (c:=m) (a:=((max m s.cur.toNat:Nat):Int)) hpl (by omega);omega
      have h2:=gM (s:=s.text) (a:=fG s.text ((max m s.cur.toNat:Nat):Int)) (uV _ _);have e:mS s.text (fG s.text ((max m s.cur.toNat:Nat):Int)) 1=cw s.text (fG s.text ((max m s.cur.toNat:Nat):Int)):=rfl;rw[e];omega
    generalize hb:lV s.text ((max m s.cur.toNat:Nat):Int) 1 1=b at *;generalize ha:min m s.cur.toNat=a at *;have hn2:0<=c.n/\c.n<=3:=by omega
    have key:∀t:MS,MI (B+16385) t->t.bells=s.bells->t.lines=s.lines->cQ B s (jC { t with cur:=(a:Nat) } c.n):=fun t h1 h2 h3=>by
      obtain⟨q1,q2,_,q4⟩:=(rP (h1.of (t:= { t with cur:=(a:Nat) }) h1.text rfl rfl rfl rfl rfl rfl rfl rfl rfl rfl) c.n).2 hn2;exact⟨q1.up (by omega),.inl (by rw[q2];exact h2),by rw[q4];show _<=t.lines.length;rw[h3];exact Nat.le_refl _⟩
    split
    · exact key _ (mH hr hab) rfl rfl
    · exact key _ hr rfl rfl
theorem IE {s:MS}(k:MI B s) (hc:fo s) (c:Cm):cQ B s (IF s c):=by
  have hn:s.cur.toNat<=s.text.length:=by unfold fo at hc;omega
  unfold IF;simp only;generalize ha:(if c.kind=16 then aW s.text s.cur.toNat else eI s.text s.cur.toNat)=a;have hal:a<=s.text.length:=by rw[<-ha];exact eX (gL _ _).2 (mz hn).2
  rcases rM k hal [10] with ⟨e1,e2⟩|⟨e1,e2,e3,e4,e5,e6⟩
  · rw[if_pos e1];exact bI k
  · rw[if_neg (by rw[e1];simp)];obtain⟨q1,q2,_,q4⟩:=(rP (e2.of (t:= { (dN s a [10]).1 with cur:=if c.kind=15 then ((a+1:Nat):Int) else (a:Nat) }) e2.text rfl rfl rfl rfl rfl rfl rfl rfl rfl rfl) 1).2 ⟨by decide,by decide⟩;exact⟨q1.up (by omega),.inl (by rw[q2];exact e3),by rw[q4];show _<=List.length (dN _ _ _).1.lines;rw[e4];exact Nat.le_refl _⟩
theorem CI {l:List By}{t:By}:∀(n:Nat){i a:Int},n<=l.length->KO l t n=some (i,a)->0<=i/\i<(l.length:Nat)
  | 0,_,_,_,h=>by cases h
  |n+1,i,a,hn,h=>by
    rw[KO] at h;split at h
    · cases h;omega
    · exact CI n (by omega) h
theorem KN {t:By}{u i a:Int}(h:MH l t u=some (i,a)):0<=i/\i<(l.length:Nat):=by
  unfold MH at h;split at h
  · cases h
  · refine CI _ ?_ h;split<;>omega
theorem wu {s:MS}(k:MI B s){q:By}(hq:q.length<=100) (u:Int):cQ B s (Cn s q u):=by
  have key:∀(q:By) (f:Int) (t:By) (a:Int),q.length<=100->0<=f->f<=100->t.length<=16384->cQ B s (vE { s with query:=q,found:=f } t a):=fun q f t a h1 h2 h3 h4 =>
    ⟨⟨h4,k.draft,k.saved,h1,fun x hx=>Nat.le_trans (k.ring x hx) (by omega),k.ringn,k.hist,k.histn,k.lines,by have:=k.linesn;show s.lines.length<=_;omega,k.flags,k.at0,k.at1,h2,h3,k.bell0,by have:=k.bell1;show s.bells<=_;omega⟩,.inl rfl,Nat.le_refl _⟩
  have hh:=k.histn;unfold Cn;split
  · exact key [] _ _ _ (by simp) (by omega) (by omega) k.saved
  · split
    · exact bI k
    · rename_i i a e;have:=KN e;exact key q i _ _ hq (by omega) (by omega) (wT k.hist _)
theorem DL {s:MS}(k:MI B s) (c:Cm):cQ B s (Ar s c):=by
  unfold Ar;split
  · split
    · exact bI k
    · exact wu k (by rw[List.length_append];omega) _
  · split
    · exact wu k (by have:=k.query;rw[List.length_take];omega) _
    · split
      · exact wu k k.query _
      · split
        · exact⟨⟨k.text,by show ([]:By).length<=_;simp,k.saved,k.query,fun x hx=>Nat.le_trans (k.ring x hx) (by omega),k.ringn,k.hist,k.histn,k.lines,by have:=k.linesn;show s.lines.length<=_;omega,k.flags,by show (0:Int)<=(s.hist.length:Nat);omega,Int.le_refl _,k.fnd0,k.fnd1,k.bell0,by have:=k.bell1;show s.bells<=_;omega⟩,.inl rfl,Nat.le_refl _⟩
        · split
          · exact lf (k.of (t:=vE { s with mode:=s.was } s.saved s.savedAt) k.saved rfl rfl rfl rfl rfl rfl rfl rfl rfl rfl) rfl rfl
          · exact bI k
theorem Gw {s:MS}(k:MI B s) (hc:fo s) (c:Cm):cQ B s (qv s c):=by
  have hh:=k.histn;unfold qv;split
  · exact zM k hc
  · split
    · exact zo k
    · split
      · exact zu k
      · split
        · exact Dt k c
        · split
          · exact(rP k _).1
          · split
            · exact⟨⟨k.text,k.draft,k.text,by show ([]:By).length<=_;simp,fun x hx=>Nat.le_trans (k.ring x hx) (by omega),k.ringn,k.hist,k.histn,k.lines,by have:=k.linesn;show s.lines.length<=_;omega,k.flags,k.at0,k.at1,by show (0:Int)<=(s.hist.length:Nat);omega,by show ((s.hist.length:Nat):Int)<=100;omega,k.bell0,by have:=k.bell1;show s.bells<=_;omega⟩,.inl rfl,Nat.le_refl _⟩
            · split
              · have:=bI (k.of (t:= { s with mark:= -1,mode:=if s.mode=3 then 2 else s.mode }) k.text rfl rfl rfl rfl rfl rfl rfl rfl rfl rfl);exact⟨this.inv,this.bell,this.lin⟩
              · split
                · exact bI k
                · exact GS k
theorem lE {s x y:MS}{c:Prop}[Decidable c] (h1:cQ B s x) (h2:cQ B s y):cQ B s (if c then x else y):=by split<;>assumption
theorem Jr {s:MS}(k:MI B s) (hc:lR s) (c:Cm):cQ B s (lI s c):=by
  have ho:=hc.ok;unfold lI;exact lE (mj k ho _ _ _) (lE (o6 k _ _) (lE (Fy k c) (lE (GG k ho c) (lE (HH k ho c) (lE (Kr k) (lE (F2 k hc) (lE (Jz k hc c) (lE (DA k hc _) (lE (BW k hc _) (lE (IE k ho c) (lE (D4 k c) (Gw k ho c))))))))))))
theorem KP (s:MS):lR (fixC s):=⟨_,rfl,mw _ _⟩
theorem MI.cur {B:Nat}{s:MS}(k:MI B s) (n:Int):MI B { s with cur:=n }:=k.of k.text rfl rfl rfl rfl rfl rfl rfl rfl rfl rfl
theorem Kz {s:MS}(k:MI B s) (c:Cm):cQ B s (GB (fixC s) c):=by
  unfold GB;refine lE ?_ ?_
  · have:=DL (k.cur (fG s.text s.cur:Nat)) c;exact⟨this.inv,this.bell,this.lin⟩
  · have:=Jr (k.cur (fG s.text s.cur:Nat)) (KP s) c;exact⟨this.inv,this.bell,this.lin⟩
end
end Go.Proofs.YtpjgdgdnbkjoiaaGreatDoor
namespace Go.Proofs.YtpjgdgdnbkjoiaaGreatDoor
open Go Go.Lw
section
variable {x:Nd}{h:ai}{O:Nat->Prop}{cs:List Value}
def Dq (s q:Nat):Nat:=(s >>> (64*q))%2 ^ 64
def eS (s q:Nat):Value:=.int .u64 (Dq s q:Nat)
def xq (s:Nat):List Value:=[eS s 0,eS s 1,eS s 2,eS s 3]
theorem Dp (s q:Nat):Dq s q<18446744073709551616:=Nat.mod_lt _ (by decide)
theorem lT (s q i:Nat):(Dq s q).testBit i=(decide (i<64) && s.testBit (64*q+i)):=by
  unfold Dq;rw[Nat.testBit_mod_two_pow,Nat.testBit_shiftRight]
theorem HL (s b:Nat) (q:Nat) (h:q≠b / 64):Dq (s |||(1 <<< b)) q=Dq s q:=by
  apply Nat.eq_of_testBit_eq
  intro i;rw[lT,lT,Nat.testBit_or,Nat.one_shiftLeft,Nat.testBit_two_pow]
  by_cases hi:i<64
  · have:b≠64*q+i:=by omega
    simp[this]
  · simp[hi]
theorem HK (s b:Nat):Dq (s |||(1 <<< b)) (b / 64)=Dq s (b / 64) ||| 2 ^ (b%64):=by
  apply Nat.eq_of_testBit_eq
  intro i;rw[lT,Nat.testBit_or,Nat.testBit_or,lT,Nat.one_shiftLeft,Nat.testBit_two_pow,Nat.testBit_two_pow]
  by_cases hi:i<64
  · have:(b=64*(b / 64)+i)↔(b%64=i):=by omega
    simp[hi,this]
  · have:¬b%64=i:=by omega
    simp[hi,this]
theorem kR {i:Int}(h:0<=i/\i<=18446744073709551615):IntKind.u64.wrap i=i:=by
  have h64:(2:Int) ^ 64=18446744073709551616:=rfl;simp only[IntKind.wrap,IntKind.bits,IntKind.signed,h64,Bool.false_and,Bool.false_eq_true,if_false];omega
theorem Pg {x y:Nat}(hx:x<18446744073709551616) (hy:y<18446744073709551616):IntKind.u64.wrap ((BitVec.ofInt IntKind.u64.bits (x:Int) |||BitVec.ofInt IntKind.u64.bits (y:Int)).toNat:Int)=((x |||y:Nat):Int):=by
  have e:(BitVec.ofInt IntKind.u64.bits (x:Int) |||BitVec.ofInt IntKind.u64.bits (y:Int)).toNat=x |||y:=by
    rw[BitVec.toNat_or]
    have h1:(BitVec.ofInt IntKind.u64.bits (x:Int)).toNat=x:=by
      show (BitVec.ofInt 64 (x:Int)).toNat=x
      simp only[BitVec.toNat_ofInt];omega
    have h2:(BitVec.ofInt IntKind.u64.bits (y:Int)).toNat=y:=by
      show (BitVec.ofInt 64 (y:Int)).toNat=y
      simp only[BitVec.toNat_ofInt];omega
    rw[h1,h2]
  rw[e];have:x |||y<2 ^ 64:=Nat.or_lt_two_pow hx hy;exact kR ⟨by omega,by omega⟩
theorem NS (b:Nat):IntKind.u64.wrap (1*2 ^ min ((b%64:Nat):Int).toNat IntKind.u64.bits)=((2 ^ (b%64):Nat):Int):=by
  have hb:b%64<64:=Nat.mod_lt _ (by decide);have h1:min ((b%64:Nat):Int).toNat IntKind.u64.bits=b%64:=by show min _ 64=_;simp;omega
  rw[h1,Int.one_mul];have h2:2 ^ (b%64)<2 ^ 64:=Nat.pow_lt_pow_right (by decide) hb;have h3:((2:Int) ^ (b%64))=((2 ^ (b%64):Nat):Int):=by push_cast;rfl
  rw[h3];generalize 2 ^ (b%64)=p at *;exact kR ⟨by omega,by omega⟩
theorem P4 {x:Nat}(hx:x<18446744073709551616):IntKind.u64.wrap ((BitVec.ofInt IntKind.u64.bits (x:Int) &&& BitVec.ofInt IntKind.u64.bits 1).toNat:Int)=((x%2:Nat):Int):=by
  have e:(BitVec.ofInt IntKind.u64.bits (x:Int) &&& BitVec.ofInt IntKind.u64.bits 1).toNat=x%2:=by
    rw[BitVec.toNat_and]
    have h1:(BitVec.ofInt IntKind.u64.bits (x:Int)).toNat=x:=by
      show (BitVec.ofInt 64 (x:Int)).toNat=x
      simp only[BitVec.toNat_ofInt];omega
    rw[h1]
    show x &&& 1=_
    exact Nat.and_one_is_mod x
  rw[e];exact kR ⟨by omega,by omega⟩
theorem NR (x:Nat) (b:Nat) (hb:b<64):((x:Int)).fdiv (2 ^ min ((b:Nat):Int).toNat IntKind.u64.bits)=((x >>> b:Nat):Int):=by
  have h1:min ((b:Nat):Int).toNat IntKind.u64.bits=b:=by show min _ 64=_;simp;omega
  rw[h1,Nat.shiftRight_eq_div_pow];have h3:((2:Int) ^ b)=((2 ^ b:Nat):Int):=by push_cast;rfl
  rw[h3,Int.fdiv_eq_ediv_of_nonneg _ (Int.natCast_nonneg _)]
  push_cast;rfl
theorem Kj (s b:Nat):(Dq s (b / 64) >>> (b%64))%2=(s.testBit b).toNat:=by
  have h:=lT s (b / 64) (b%64);rw[show 64*(b / 64)+b%64=b from Nat.div_add_mod b 64] at h;have hb:b%64<64:=Nat.mod_lt _ (by decide);simp only[hb,decide_true,Bool.true_and] at h;rw[Nat.shiftRight_eq_div_pow,<-Nat.toNat_testBit,h]
def dP (k s:Nat) (v:Value):List Value:=[.int .i64 k,eS s 0,eS s 1,eS s 2,eS s 3,v]
inductive bJ (h:ai) (O:Nat->Prop):List Value->Nd->Prop
  |mk (k s:Nat) (kids:List Nd) (oa:Option Addr) (n c:Nat) (css:Nat->List Value) (hl:kids.length=n) (hc:n<=c) (hm:c<=maxLen)
      (hr:∀i x,kids[i]? =some x->∃b o,oa=some ⟨b,o,none⟩/\¬O b/\Lw.rowAt h b (o+i*6) (css i)) (hk:∀i x,kids[i]? =some x->bJ h O (css i) x):bJ h O (dP k s (.slice oa n c)) (.mk k s kids)
theorem bJ.len (k:bJ h O cs x):cs.length=6:=by cases k;rfl
theorem bJ.one (k:bJ h O cs x):∀v∈cs,v.oneCell'=true:=by
  cases k;intro v hv;simp[dP,eS] at hv
  rcases hv with rfl|rfl|rfl|rfl|rfl|rfl<;>rfl
theorem bJ.mv {h':ai}{O':Nat->Prop}(k:bJ h O cs x) (m:Mv O O' h h'):bJ h' O' cs x:=by
  induction k with
  |mk k s kids oa n c css hl hc hm hr hk ih =>
    refine .mk k s kids oa n c css hl hc hm (fun i x hx=>?_) ih;obtain⟨b,o,ha,ho,hrow⟩:=hr i x hx;have hne:css i≠[]:=by intro e;have:=(hk i x hx).len;rw[e] at this;cases this
    exact⟨b,o,ha,(m.block b (fD hrow hne) ho).2,m.rowAt ho hrow⟩
def um:iS Nd:=⟨6,by decide,bJ,bJ.len,bJ.one,bJ.mv⟩
theorem bJ.aj {h h':ai}{O:Nat->Prop}{cs:List Value}{x:Nd}(k:bJ h O cs x) (e:ak h h'):bJ h' O cs x:=k.mv (Mv.aj e)
theorem bJ.of {v:Value}{kids:List Nd}(k s:Nat) (hv:bC um h O v kids):bJ h O (dP k s v) (.mk k s kids):=by
  obtain⟨oa,n,c,rfl,hl,hc,hm,hg⟩:=hv
  have hx:∀i,i<n->∃cs:List Value,∃x,kids[i]? =some x/\(∃b o,oa=some ⟨b,o,none⟩/\¬O b/\Lw.rowAt h b (o+i*6) cs)/\bJ h O cs x:=by
    intro i hi;obtain⟨b,o,cs,h1,h2,h3,h4⟩:=hg i kids[i] (List.getElem?_eq_getElem (by omega));exact⟨cs,kids[i],List.getElem?_eq_getElem (by omega),⟨b,o,h1,h2,h3⟩,h4⟩
  refine .mk k s kids oa n c (fun i=>if hi:i<n then Classical.choose (hx i hi) else []) hl hc hm (fun i x hxi=>?_) (fun i x hxi=>?_)
  · have hi:i<n:=by rw[<-hl];exact(List.getElem?_eq_some_iff.1 hxi).1
    simp only[dif_pos hi];obtain⟨y,_,h2,_⟩:=Classical.choose_spec (hx i hi);exact h2
  · have hi:i<n:=by rw[<-hl];exact(List.getElem?_eq_some_iff.1 hxi).1
    simp only[dif_pos hi];obtain⟨y,h1,_,h3⟩:=Classical.choose_spec (hx i hi);rw[h1] at hxi;cases hxi;exact h3
theorem bJ.open (k:bJ h O cs x):∃v,cs=dP x.kind x.set v/\bC um h O v x.kids:=by
  cases k with
  |mk k s kids oa n c css hl hc hm hr hk =>
    exact⟨_,rfl,oa,n,c,rfl,hl,hc,hm,fun i x hx=>by
      obtain⟨b,o,h1,h2,h3⟩:=hr i x hx;exact⟨b,o,css i,h1,h2,h3,hk i x hx⟩⟩
def bs (l:List UInt8):ByteArray:=⟨l.toArray⟩
theorem jr (l:List UInt8):(bs l).data.toList=l:=by simp[bs]
theorem Oy (s:ByteArray):bs s.data.toList=s:=by simp[bs]
theorem aF (l:List UInt8):(bs l).size=l.length:=by simp[bs,ByteArray.size]
theorem fK (l m:List UInt8):bs l++bs m=bs (l++m):=by
  apply ByteArray.ext
  simp[bs]
theorem gX {l m:List UInt8}(h:bs l=bs m):l=m:=by have:=congrArg (fun x=>x.data.toList) h;simpa [bs] using this
theorem iq {l:List UInt8}{i:Nat}{c:UInt8}(h:l[i]? =some c):(bs l).data[i]? =some c:=by simpa [bs] using h
theorem js (l:List UInt8) (i:Nat):(bs l).extract i (bs l).size=bs (l.drop i):=by
  apply ByteArray.ext
  apply Array.ext'
  rw[ByteArray.data_extract,Array.toList_extract,List.extract_eq_take_drop];rw[aF];simp only[bs];exact List.take_of_length_le (by simp)
theorem jq (l:List UInt8) (i j:Nat) (_h:i<=j):(bs l).extract i j=bs ((l.take j).drop i):=by
  apply ByteArray.ext
  apply Array.ext'
  rw[ByteArray.data_extract,Array.toList_extract,List.extract_eq_take_drop];simp only[bs];rw[List.drop_take]
theorem Nz (c d:UInt8):decide (((c.toNat:Nat):Int)≠((d.toNat:Nat):Int))=decide (c≠d):=by
  rw[decide_eq_decide];exact⟨fun h e=>h (by rw[e]),fun h e=>h (UInt8.toNat_inj.1 (by omega))⟩
theorem cT {c:UInt8}{k:Nat}{d:UInt8}(hd:d.toNat=k):(((c.toNat:Nat):Int)=(k:Int))↔c=d:=by
  subst hd;exact⟨fun e=>UInt8.toNat_inj.1 (by omega),fun e=>by rw[e]⟩
end
end Go.Proofs.YtpjgdgdnbkjoiaaGreatDoor

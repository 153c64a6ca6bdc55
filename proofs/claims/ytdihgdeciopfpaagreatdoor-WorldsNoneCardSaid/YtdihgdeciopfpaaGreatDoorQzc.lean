/- What the proof of the statement leans on (part 29). -/
import Derived.Lib.LastIndexLaws
import Derived.Test.YtdihgdeciopfpaaGreatDoorQzb

namespace Go.Proofs.YtdihgdeciopfpaaGreatDoor
open Go
section
variable {B:Nat}
structure MS where
  text:By
  cur:Int
  mode:Int
  mark:Int
  ring:List By
  hist:List By
  at_:Int
  draft:By
  last:Int
  from_:Int
  to_:Int
  query:By
  found:Int
  saved:By
  savedAt:Int
  was:Int
  lines:List By
  flags:List Bool
  bells:Int
structure Cm where
  kind:Int
  way:Int
  n:Int
  text:By
  incl:Bool
def Jg (l:List By) (s:By) (way:Int):List By :=
  if s=[] then l
  else match l with
    |x::r=>if 0<way then ((x++s)::r).take 10 else if way<0 then ((s++x)::r).take 10 else (s::l).take 10
    | []=>[s]
def LQ:List By->List By
  | []=>[]
  |x::r=>r++[x]
def Mw (l:List By) (s:By):List By:=if s=[]\/l.getLast? =some s then l else (l++[s]).drop (l.length+1-100)
def lastOf (s t:By):Int:=Lib.lastIndex s t
def Qq (l:List By) (t:By):Nat->Option (Int×Int)
  | 0=>none
  |n+1=>if 0<=lastOf (l.getD n []) t then some (n,lastOf (l.getD n []) t) else Qq l t n
def R7 (l:List By) (t:By) (upto:Int):Option (Int×Int):=if t=[] then none else Qq l t (if (l.length:Int)-1<upto then l.length else (upto+1).toNat)
def NZ (b:Nat):Nat:=if b=40 then 41 else if b=91 then 93 else if b=123 then 125 else 0
def JL (s:By) (t:Tk):Nat:=if (t.1≠7/\t.1≠8)\/t.2.1<0\/(s.length:Int)<=t.2.1\/t.2.2-1≠t.2.1 then 0 else (s.getD t.2.1.toNat 0).toNat
def EK (s:By) (o:List Nat) (t:Tk):List Nat×Bool :=
  if JL s t=0 then (o,true) else if t.1=7 then (o++[t.2.1.toNat],true)
  else if o=[]\/NZ (s.getD (o.getLastD 0) 0).toNat≠JL s t then (o,false) else (o.dropLast,true)
def I3 (s:By):List Tk->List Nat->List Nat×Bool
  | [],o=>(o,true)
  |t::l,o=>if (EK s o t).2=true then I3 s l (EK s o t).1 else (o,false)
def Mr (s:By) (l:List Tk) (m:Int):Int:=if (I3 s l []).2=false then 2 else if (I3 s l []).1≠[]\/m≠0 then 1 else 0
def JG (s:By) (a:Int):List Tk->List Nat->List Nat
  | [],o=>o
  |t::l,o=>JG s a l (if t.2.2<=a then (EK s o t).1 else o)
def NW (s:By) (l:List Tk) (a:Int):Nat:=(JG s a l []).length
def dR (s:MS):MS:= { s with bells:=s.bells+1,last:=0 }
def gw (n:Int):Int:=min (max n 0) 1000
def eM (s:MS) (a:Nat) (t:By):MS×Bool :=
  if 16384-(s.text.length:Int)<t.length then (dR s,false) else ({ s with text:=s.text.take a++t++s.text.drop a,cur:=((a+t.length:Nat):Int) },true)
def Hh (s:MS) (a b:Nat):MS:= { s with text:=s.text.take a++s.text.drop b,cur:=(a:Nat) }
def ym (t:By):Nat->By
  | 0=>[]
  |n+1=>t++ym t n
def jx (t:By) (n:Int):Option By:=if t≠[]/\((16384 / t.length:Nat):Int)<gw n then none else some (ym t (gw n).toNat)
def fK (s:MS) (t:By) (n last:Int):MS:=match jx t n with
  |none=>dR s
  |some x=>if (eM s s.cur.toNat x).2=false then (eM s s.cur.toNat x).1 else
    { (eM s s.cur.toNat x).1 with from_:=if last=1/\s.last=1/\s.to_=s.cur then s.from_ else s.cur,last:=last,to_:=(eM s s.cur.toNat x).1.cur }
def Ns (s:MS) (c:Cm):Nat :=
  let a:=BF s.text s.cur c.way (gw c.n)
  let a:=if c.incl=true/\s.cur<=(a:Int)/\a<o6 s.text a then BF s.text a 1 1 else a
  if (a:Int)=s.cur/\c.way=3/\c.kind=5/\0<c.n then BF s.text a 1 1 else a
def Mt (s:MS) (a b:Nat) (ahead:Bool):MS:= { s with ring:=Jg s.ring ((s.text.take b).drop a) (if s.last=2 then (if ahead=true then 1 else -1) else 0) }
def R8 (s:MS) (c:Cm):MS :=
  let r:=Ns s c
  let a:=min r s.cur.toNat
  let b:=max r s.cur.toNat
  if a=b then dR s
  else if c.kind=4 then { Hh s a b with last:=0 }
  else if c.kind=5 then { Hh (Mt s a b (decide (s.cur<=(r:Int)))) a b with last:=2 }
  else { Mt { s with last:=0 } a b (decide (s.cur<=(r:Int))) with cur:=(a:Nat) }
def I5 (s:By):Nat->Nat->Nat
  | 0,b=>b
  |n+1,b=>if b<s.length then I5 s n (o6 s (b+1)) else b
def NK (s:MS) (c:Cm):MS :=
  let a:=gy s.text s.cur.toNat
  let b:=I5 s.text ((gw c.n).toNat-1) (o6 s.text s.cur.toNat)
  if a=b/\s.text=[] then dR s
  else
    let r:=Jg s.ring ((s.text.take b).drop a++[10]) 0
    if c.kind=8 then { s with last:=0,ring:=r }
    else
      let b':=if b<s.text.length then b+1 else b
      let a':=if b<s.text.length then a else if 0<a then a-1 else a
      let t:=Hh { s with last:=0,ring:=r } a' b'
      { t with cur:=(gy t.text a':Nat) }
def OK (s:MS) (c:Cm):MS:=match s.ring with
  | []=>dR s
  |x::_ =>
    if c.kind=10/\s.cur.toNat<o6 s.text s.cur.toNat then
      let t:=fK { s with cur:=(BF s.text s.cur 1 1:Nat) } x c.n 3
      if s.bells<t.bells then { t with cur:=s.cur } else t
    else fK s x c.n 3
def Ry (s:MS):MS :=
  if s.last≠3\/s.ring.length<2\/s.from_<0\/s.to_<s.from_\/(s.text.length:Int)<s.to_ then dR s
  else
    let t:=eM (Hh { s with ring:=LQ s.ring } s.from_.toNat s.to_.toNat) s.from_.toNat ((LQ s.ring).headD [])
    if t.2=false then dR s else { t.1 with from_:=s.from_,to_:=t.1.cur }
def Az (s:MS) (t:By):MS:= { s with text:=t,cur:=(t.length:Nat),mark:= -1,last:=0 }
def NQ (s:MS):MS :=
  if Mr s.text (bh s.text).1 (bh s.text).2.1=1 then
    { (eM s s.cur.toNat (10::List.replicate (2*min (NW s.text (bh s.text).1 s.cur) 20) 32)).1 with last:=0 }
  else
    Az { s with lines:=s.lines++[s.text],flags:=s.flags++[decide (Mr s.text (bh s.text).1 (bh s.text).2.1=2)],hist:=Mw s.hist s.text,at_:=((Mw s.hist s.text).length:Nat),draft:=[],mode:=if s.mode=0 then 0 else 1 } []
def IM (s:MS):MS :=
  if s.at_<=0\/(s.hist.length:Int)<s.at_ then dR s
  else Az { s with draft:=if s.at_=(s.hist.length:Nat) then s.text else s.draft,at_:=s.at_-1 } (s.hist.getD (s.at_-1).toNat [])
def IS (s:MS):MS :=
  if s.at_<0\/(s.hist.length:Int)<=s.at_ then dR s
  else if s.at_+1=(s.hist.length:Nat) then Az { s with at_:=s.at_+1 } s.draft
  else Az { s with at_:=s.at_+1 } (s.hist.getD (s.at_+1).toNat [])
def AM (s:MS) (w n:Int):MS:= { s with cur:=(BF s.text s.cur w (gw n):Nat),last:=0 }
def Kq (s:MS) (c:Cm):MS :=
  if c.kind=19/\gy s.text s.cur.toNat=0 then IM s
  else if c.kind=20/\o6 s.text s.cur.toNat=s.text.length then IS s
  else if c.kind=19 then AM s 4 1 else AM s 5 1
def Na (s:MS):MS :=
  let a:=if s.cur=(s.text.length:Nat) then BF s.text s.cur 0 1 else s.cur.toNat
  let l:=BF s.text a 0 1
  let r:=BF s.text a 1 1
  if l=a\/r=a then dR s
  else { s with text:=s.text.take l++(s.text.take r).drop a++(s.text.take a).drop l++s.text.drop r,cur:=(r:Nat),last:=0 }
def Jm (b:UInt8):UInt8:=if 97<=b/\b<=122 then b-32 else b
def DT (b:UInt8):UInt8:=if 65<=b/\b<=90 then b+32 else b
def JI (how:Int):By->Bool->By
  | [],_=>[]
  |c::l,met=>(if how=1\/(how=2/\met=false)\/(how=3/\c=DT c) then Jm c else DT c)::JI how l (met ||decide (Jm c≠DT c))
def LR (s:MS) (b:Nat) (how:Int):MS:= { s with text:=s.text.take s.cur.toNat++JI how ((s.text.take b).drop s.cur.toNat) false++s.text.drop b,cur:=(b:Nat),last:=0 }
def QC (s:MS) (c:Cm):MS:=if BF s.text s.cur 6 1=s.cur.toNat\/c.n<0\/2<c.n then dR s else LR s (BF s.text s.cur 6 1) c.n
def E6 (s:By) (e:Nat):Nat->Nat->Nat
  | 0,b=>b
  |n+1,b=>E6 s e n (if b<e then BF s b 1 1 else b)
def Kr (s:MS) (n:Int):MS :=
  let b:=E6 s.text (o6 s.text s.cur.toNat) (gw n).toNat s.cur.toNat
  if b=s.cur.toNat then dR s else LR s b 3
def replaceM (s:MS) (t:By):MS :=
  if o6 s.text s.cur.toNat<=s.cur.toNat then dR s
  else
    let r:=eM (Hh s s.cur.toNat (BF s.text s.cur 1 1)) s.cur.toNat t
    if r.2=false then dR s else { r.1 with cur:=s.cur,last:=0 }
def IY (s:MS) (n:Int):MS :=
  if n<0\/3<n then dR s
  else
    let t:=if n=2/\s.mode=1/\gy s.text s.cur.toNat<s.cur.toNat then AM s 0 1 else s
    { t with mark:=if n=3 then t.cur else -1,mode:=n,last:=0 }
def KJ (s:MS) (c:Cm):MS :=
  if s.mark<0\/(c.n≠1/\c.n≠2) then dR s
  else
    let m:=nT s.text s.mark
    let a:=min m s.cur.toNat
    let b:=BF s.text (max m s.cur.toNat:Nat) 1 1
    let t:= { s with ring:=Jg s.ring ((s.text.take b).drop a) 0 }
    let t:=if c.kind=26 then Hh t a b else t
    IY { t with cur:=(a:Nat) } c.n
def DU (s:MS) (t:By) (a:Int):MS:= { s with text:=t,cur:=(nT t a:Nat),last:=0 }
def I2 (s:MS) (q:By) (upto:Int):MS :=
  if q=[] then DU { s with query:=[],found:=(s.hist.length:Nat) } s.saved s.savedAt
  else match R7 s.hist q upto with
    |none=>dR s
    |some (i,a)=>DU { s with query:=q,found:=i } (s.hist.getD i.toNat []) a
def Kv (s:MS) (c:Cm):MS :=
  if c.kind=29 then (if 100<s.query.length+c.text.length then dR s else I2 s (s.query++c.text) (min s.found ((s.hist.length:Int)-1)))
  else if c.kind=30 then I2 s (s.query.take (vI s.query s.query.length)) ((s.hist.length:Int)-1)
  else if c.kind=31 then I2 s s.query (max s.found 0-1)
  else if c.kind=32 then { s with mode:=s.was,at_:=(s.hist.length:Nat),draft:=[],last:=0 }
  else if c.kind=33 then DU { s with mode:=s.was } s.saved s.savedAt
  else dR s
def Pg (s:MS) (c:Cm):MS :=
  let a:=if c.kind=16 then gy s.text s.cur.toNat else o6 s.text s.cur.toNat
  let t:=eM s a [10]
  if t.2=false then dR s else IY { t.1 with cur:=if c.kind=15 then ((a+1:Nat):Int) else (a:Nat) } 1
def Nv (s:MS) (c:Cm):MS :=
  if c.kind=14 then NQ s
  else if c.kind=17 then IM s
  else if c.kind=18 then IS s
  else if c.kind=19\/c.kind=20 then Kq s c
  else if c.kind=25 then IY s c.n
  else if c.kind=28 then { s with was:=s.mode,mode:=4,query:=[],found:=(s.hist.length:Nat),saved:=s.text,savedAt:=s.cur,last:=0 }
  else if c.kind=33 then dR { s with mark:= -1,mode:=if s.mode=3 then 2 else s.mode }
  else if c.kind=1 then dR s
  else s
def kK (s:MS) (c:Cm):MS :=
  if c.kind=2 then fK s c.text c.n 1
  else if c.kind=3 then AM s c.way c.n
  else if c.kind=4\/c.kind=5\/c.kind=6 then R8 s c
  else if c.kind=7\/c.kind=8 then NK s c
  else if c.kind=9\/c.kind=10 then OK s c
  else if c.kind=11 then Ry s
  else if c.kind=21 then Na s
  else if c.kind=22 then QC s c
  else if c.kind=23 then Kr s c.n
  else if c.kind=24 then replaceM s c.text
  else if c.kind=15\/c.kind=16 then Pg s c
  else if c.kind=26\/c.kind=27 then KJ s c
  else Nv s c
def fixC (s:MS):MS:= { s with cur:=(nT s.text s.cur:Nat) }
def KI (s:MS) (c:Cm):MS:=if s.mode=4 then Kv s c else kK s c
def JA (t:MS):MS:=if t.mode=2/\t.cur.toNat=o6 t.text t.cur.toNat/\gy t.text t.cur.toNat<t.cur.toNat then { t with cur:=(BF t.text t.cur 0 1:Nat) } else t
def dO (s:MS) (c:Cm):MS:=if c.kind<=0\/33<c.kind\/c.kind=12\/c.kind=13 then s else JA (fixC (KI (fixC s) c))
structure MI (B:Nat) (s:MS):Prop where
  text:s.text.length<=16384
  draft:s.draft.length<=16384
  saved:s.saved.length<=16384
  query:s.query.length<=100
  ring:∀x∈s.ring,x.length<=B
  ringn:s.ring.length<=10
  hist:∀x∈s.hist,x.length<=16384
  histn:s.hist.length<=100
  lines:∀x∈s.lines,x.length<=16384
  linesn:s.lines.length<=B
  flags:s.flags.length=s.lines.length
  at0:0<=s.at_
  at1:s.at_<=(s.hist.length:Nat)
  fnd0:0<=s.found
  fnd1:s.found<=100
  bell0:0<=s.bells
  bell1:s.bells<=B
def xF (s:MS):Prop:=0<=s.cur/\s.cur<=(s.text.length:Nat)
structure F4 (B:Nat) (s t:MS):Prop where
  inv:MI (B+20000) t
  bell:t.bells=s.bells\/(t.bells=s.bells+1/\t.text=s.text)
  lin:s.lines.length<=t.lines.length
theorem MI.up {C:Nat}{s:MS}(k:MI B s) (h:B<=C):MI C s :=
  { k with ring:=fun x hx=>Nat.le_trans (k.ring x hx) h,linesn:=Nat.le_trans k.linesn h,bell1:=by have:=k.bell1;omega }
theorem zw {s:MS}(k:MI B s):F4 B s (dR s) :=
  ⟨{ k.up (C:=B+20000) (by omega) with bell0:=by have:=k.bell0;show 0<=s.bells+1;omega,bell1:=by have:=k.bell1;show s.bells+1<=_;omega },.inr ⟨rfl,rfl⟩,Nat.le_refl _⟩
theorem MI.of {s t:MS}(k:MI B s) (h1:t.text.length<=16384) (h2:t.draft=s.draft) (h3:t.saved=s.saved) (h4:t.query=s.query) (h5:t.ring=s.ring) (h6:t.hist=s.hist) (h7:t.lines=s.lines) (h8:t.flags=s.flags) (h9:t.at_=s.at_) (h10:t.found=s.found) (h11:t.bells=s.bells):MI B t:=by
  obtain⟨text,cur,mode,mark,ring,hist,at_,draft,last,from_,to_,query,found,saved,savedAt,was,lines,flags,bells⟩:=t;simp only at h1 h2 h3 h4 h5 h6 h7 h8 h9 h10 h11;subst h2 h3 h4 h5 h6 h7 h8 h9 h10 h11;exact⟨h1,k.draft,k.saved,k.query,k.ring,k.ringn,k.hist,k.histn,k.lines,k.linesn,k.flags,k.at0,k.at1,k.fnd0,k.fnd1,k.bell0,k.bell1⟩
theorem Ky {s:MS}(k:MI B s){a:Nat}(ha:a<=s.text.length) (t:By):((eM s a t).2=false/\(eM s a t).1=dR s)\/((eM s a t).2=true/\MI B (eM s a t).1/\(eM s a t).1.bells=s.bells/\(eM s a t).1.lines=s.lines/\(eM s a t).1.cur=((a+t.length:Nat):Int)/\(eM s a t).1.text.length=s.text.length+t.length):=by
  have:=k.text;unfold eM;split
  · exact .inl ⟨rfl,rfl⟩
  · rename_i h
    have hl:(s.text.take a++t++s.text.drop a).length=s.text.length+t.length:=by
      rw[List.length_append,List.length_append,List.length_take,List.length_drop];omega
    exact .inr ⟨rfl,k.of (by show (s.text.take a++t++s.text.drop a).length<=_;omega) rfl rfl rfl rfl rfl rfl rfl rfl rfl rfl,rfl,rfl,rfl,hl⟩
theorem Em {s:MS}(k:MI B s) (hc:xF s) (t:By) (n last:Int):F4 B s (fK s t n last):=by
  unfold fK;split
  · exact zw k
  · rename_i x _
    rcases Ky k (a:=s.cur.toNat) (by unfold xF at hc;omega) x with ⟨h1,h2⟩|⟨h1,h2,h3,h4,h5,h6⟩
    · rw[if_pos h1,h2];exact zw k
    · rw[if_neg (by rw[h1];simp)];exact⟨(h2.up (by omega)).of h2.text rfl rfl rfl rfl rfl rfl rfl rfl rfl rfl,.inl h3,by show _<=(eM s s.cur.toNat x).1.lines.length;rw[h4];exact Nat.le_refl _⟩
theorem HX (s:By) (w:Int) (a:Nat):Q8 s w 1 a=Ft s a w:=by
  rw[Q8];split
  · rename_i e;rw[e]
  · rfl
theorem Ks (s:By) (a w:Int):BF s a w 1=Ft s (nT s a) w:=by
  unfold BF;rw[show (min (max (1:Int) 0) 1000).toNat=1 by decide,HX]
theorem FB {a:Int}:∀(l:List Nat) (o:Nat),(∀k∈l,a<(k:Nat))->l.foldl (fun(o k:Nat)=>if (k:Int)<=a then k else o) o=o
  | [],_,_=>rfl
  |x::l,o,h=>by
    rw[List.foldl_cons,if_neg (by have:=h x List.mem_cons_self;omega)];exact FB l o fun k hk=>h k (List.mem_cons_of_mem _ hk)
theorem zD:∀(n:Nat) (l:By) (a o c:Nat),c∈bM n l a->(bM n l a).foldl (fun(o k:Nat)=>if (k:Int)<=(c:Nat) then k else o) o=c
  | 0,_,_,_,_,h=>by simp[bM] at h
  |n+1,l,a,o,c,h=>by
    rw[bM] at h ⊢;split at h
    · simp at h
    · rename_i hl;have hr:=dG hl;rw[if_neg hl,List.foldl_cons]
      rcases List.mem_cons.1 h with rfl|h
      · rw[if_pos (by omega)];exact FB _ _ fun k hk=>by have:=eX _ _ _ _ hk;omega
      · exact zD n _ _ _ c h
theorem G6 {s:By}{a:Nat}(h:xD s a):nT s a=a:=by
  unfold nT
  rcases h with h|h
  · have:=iZ h;rw[if_neg (by omega)];exact zD _ _ _ _ _ h
  · rw[if_pos (by omega),h]
def zQ (s:MS):Prop:=∃c:Nat,s.cur=(c:Nat)/\xD s.text c
theorem zQ.ok {s:MS}(h:zQ s):xF s:=by
  obtain⟨c,h1,h2⟩:=h;have:=Pc h2;unfold xF;omega
theorem MI.cur {B:Nat}{s:MS}(k:MI B s) (n:Int):MI B { s with cur:=n }:=k.of k.text rfl rfl rfl rfl rfl rfl rfl rfl rfl rfl
end
end Go.Proofs.YtdihgdeciopfpaaGreatDoor

/- What the proof of the statement leans on (part 20). -/
import Derived.Lib.LastIndexLaws
import Derived.Test.YtiigijehmmcfgaaGreatDoorQs

namespace Go.Proofs.YtiigijehmmcfgaaGreatDoor
open Go
section
variable {B a p:Nat}{l:List By}{x orig:By}{w:Int}
structure MS where
 text:By
 cur:Int
 mode:Int
 mark:Int
 ring:List By
 hist:List By
 at_:Int
 draft:By
 last:Int
 from_:Int
 to_:Int
 query:By
 found:Int
 saved:By
 savedAt:Int
 was:Int
 lines:List By
 flags:List Bool
 bells:Int
structure Cm where
 kind:Int
 way:Int
 n:Int
 text:By
 incl:Bool
def eM (l:List By) (s:By) (way:Int):List By :=
 if s=[] then l
 else match l with
  |x::r=>if 0<way then ((x++s)::r).take 10 else if way<0 then ((s++x)::r).take 10 else (s::l).take 10
  | []=>[s]
def eI:List By->List By
 | []=>[]
 |x::r=>r++[x]
def fG (l:List By) (s:By):List By:=if s=[]\/l.getLast? =some s then l else (l++[s]).drop (l.length+1-100)
def lastOf (s t:By):Int:=Lib.lastIndex s t
def DW (l:List By) (t:By):Nat->Option (Int×Int)
 | 0=>none
 |n+1=>if 0<=lastOf (l.getD n []) t then some (n,lastOf (l.getD n []) t) else DW l t n
def BO (l:List By) (t:By) (upto:Int):Option (Int×Int):=if t=[] then none else DW l t (if (l.length:Int)-1<upto then l.length else (upto+1).toNat)
def oS (b:Nat):Nat:=if b=40 then 41 else if b=91 then 93 else if b=123 then 125 else 0
def iQ (s:By) (t:Tk):Nat:=if (t.1≠7/\t.1≠8)\/t.2.1<0\/(s.length:Int)<=t.2.1\/t.2.2-1≠t.2.1 then 0 else (s.getD t.2.1.toNat 0).toNat
def de (s:By) (o:List Nat) (t:Tk):List Nat×Bool :=
 if iQ s t=0 then (o,true) else if t.1=7 then (o++[t.2.1.toNat],true)
 else if o=[]\/oS (s.getD (o.getLastD 0) 0).toNat≠iQ s t then (o,false) else (o.dropLast,true)
def tR (s:By):List Tk->List Nat->List Nat×Bool
 | [],o=>(o,true)
 |t::l,o=>if (de s o t).2=true then tR s l (de s o t).1 else (o,false)
def tP (s:By) (l:List Tk) (m:Int):Int:=if (tR s l []).2=false then 2 else if (tR s l []).1≠[]\/m≠0 then 1 else 0
def lG (s:By) (a:Int):List Tk->List Nat->List Nat
 | [],o=>o
 |t::l,o=>lG s a l (if t.2.2<=a then (de s o t).1 else o)
def oL (s:By) (l:List Tk) (a:Int):Nat:=(lG s a l []).length
def cF (s:MS):MS:= { s with bells:=s.bells+1,last:=0 }
def cH (n:Int):Int:=min (max n 0) 1000
def cN (s:MS) (a:Nat) (t:By):MS×Bool :=
 if 16384-(s.text.length:Int)<t.length then (cF s,false) else ({ s with text:=s.text.take a++t++s.text.drop a,cur:=((a+t.length:Nat):Int) },true)
def ef (s:MS) (a b:Nat):MS:= { s with text:=s.text.take a++s.text.drop b,cur:=(a:Nat) }
def ou (t:By):Nat->By
 | 0=>[]
 |n+1=>t++ou t n
def iy (t:By) (n:Int):Option By:=if t≠[]/\((16384 / t.length:Nat):Int)<cH n then none else some (ou t (cH n).toNat)
def cX (s:MS) (t:By) (n last:Int):MS:=match iy t n with
 |none=>cF s
 |some x=>if (cN s s.cur.toNat x).2=false then (cN s s.cur.toNat x).1 else
  { (cN s s.cur.toNat x).1 with from_:=if last=1/\s.last=1/\s.to_=s.cur then s.from_ else s.cur,last:=last,to_:=(cN s s.cur.toNat x).1.cur }
def dJ (s:MS) (c:Cm):Nat :=
 let a:=gD s.text s.cur c.way (cH c.n)
 let a:=if c.incl=true/\s.cur<=(a:Int)/\a<cZ s.text a then gD s.text a 1 1 else a
 if (a:Int)=s.cur/\c.way=3/\c.kind=5/\0<c.n then gD s.text a 1 1 else a
def mI (s:MS) (a b:Nat) (ahead:Bool):MS:= { s with ring:=eM s.ring ((s.text.take b).drop a) (if s.last=2 then (if ahead=true then 1 else -1) else 0) }
def ym (s:MS) (c:Cm):MS :=
 let r:=dJ s c
 let a:=min r s.cur.toNat
 let b:=max r s.cur.toNat
 if a=b then cF s
 else if c.kind=4 then { ef s a b with last:=0 }
 else if c.kind=5 then { ef (mI s a b (decide (s.cur<=(r:Int)))) a b with last:=2 }
 else { mI { s with last:=0 } a b (decide (s.cur<=(r:Int))) with cur:=(a:Nat) }
def ic (s:By):Nat->Nat->Nat
 | 0,b=>b
 |n+1,b=>if b<s.length then ic s n (cZ s (b+1)) else b
def qJ (s:MS) (c:Cm):MS :=
 let a:=bn s.text s.cur.toNat
 let b:=ic s.text ((cH c.n).toNat-1) (cZ s.text s.cur.toNat)
 if a=b/\s.text=[] then cF s
 else
  let r:=eM s.ring ((s.text.take b).drop a++[10]) 0
  if c.kind=8 then { s with last:=0,ring:=r }
  else
   let b':=if b<s.text.length then b+1 else b
   let a':=if b<s.text.length then a else if 0<a then a-1 else a
   let t:=ef { s with last:=0,ring:=r } a' b'
   { t with cur:=(bn t.text a':Nat) }
def o8 (s:MS) (c:Cm):MS:=match s.ring with
 | []=>cF s
 |x::_ =>
  if c.kind=10/\s.cur.toNat<cZ s.text s.cur.toNat then
   let t:=cX { s with cur:=(gD s.text s.cur 1 1:Nat) } x c.n 3
   if s.bells<t.bells then { t with cur:=s.cur } else t
  else cX s x c.n 3
def zw (s:MS):MS :=
 if s.last≠3\/s.ring.length<2\/s.from_<0\/s.to_<s.from_\/(s.text.length:Int)<s.to_ then cF s
 else
  let t:=cN (ef { s with ring:=eI s.ring } s.from_.toNat s.to_.toNat) s.from_.toNat ((eI s.ring).headD [])
  if t.2=false then cF s else { t.1 with from_:=s.from_,to_:=t.1.cur }
def jj (s:MS) (t:By):MS:= { s with text:=t,cur:=(t.length:Nat),mark:= -1,last:=0 }
def mN (s:MS):MS :=
 if tP s.text (jD s.text).1 (jD s.text).2.1=1 then
  { (cN s s.cur.toNat (10::List.replicate (2*min (oL s.text (jD s.text).1 s.cur) 20) 32)).1 with last:=0 }
 else
  jj { s with lines:=s.lines++[s.text],flags:=s.flags++[decide (tP s.text (jD s.text).1 (jD s.text).2.1=2)],hist:=fG s.hist s.text,at_:=((fG s.hist s.text).length:Nat),draft:=[],mode:=if s.mode=0 then 0 else 1 } []
def jU (s:MS):MS :=
 if s.at_<=0\/(s.hist.length:Int)<s.at_ then cF s
 else jj { s with draft:=if s.at_=(s.hist.length:Nat) then s.text else s.draft,at_:=s.at_-1 } (s.hist.getD (s.at_-1).toNat [])
def jV (s:MS):MS :=
 if s.at_<0\/(s.hist.length:Int)<=s.at_ then cF s
 else if s.at_+1=(s.hist.length:Nat) then jj { s with at_:=s.at_+1 } s.draft
 else jj { s with at_:=s.at_+1 } (s.hist.getD (s.at_+1).toNat [])
def gi (s:MS) (w n:Int):MS:= { s with cur:=(gD s.text s.cur w (cH n):Nat),last:=0 }
def nq (s:MS) (c:Cm):MS :=
 if c.kind=19/\bn s.text s.cur.toNat=0 then jU s
 else if c.kind=20/\cZ s.text s.cur.toNat=s.text.length then jV s
 else if c.kind=19 then gi s 4 1 else gi s 5 1
def qx (s:MS):MS :=
 let a:=if s.cur=(s.text.length:Nat) then gD s.text s.cur 0 1 else s.cur.toNat
 let l:=gD s.text a 0 1
 let r:=gD s.text a 1 1
 if l=a\/r=a then cF s
 else { s with text:=s.text.take l++(s.text.take r).drop a++(s.text.take a).drop l++s.text.drop r,cur:=(r:Nat),last:=0 }
def gq (b:UInt8):UInt8:=if 97<=b/\b<=122 then b-32 else b
def dG (b:UInt8):UInt8:=if 65<=b/\b<=90 then b+32 else b
def jv (how:Int):By->Bool->By
 | [],_=>[]
 |c::l,met=>(if how=1\/(how=2/\met=false)\/(how=3/\c=dG c) then gq c else dG c)::jv how l (met ||decide (gq c≠dG c))
def nO (s:MS) (b:Nat) (how:Int):MS:= { s with text:=s.text.take s.cur.toNat++jv how ((s.text.take b).drop s.cur.toNat) false++s.text.drop b,cur:=(b:Nat),last:=0 }
def AE (s:MS) (c:Cm):MS:=if gD s.text s.cur 6 1=s.cur.toNat\/c.n<0\/2<c.n then cF s else nO s (gD s.text s.cur 6 1) c.n
def iX (s:By) (e:Nat):Nat->Nat->Nat
 | 0,b=>b
 |n+1,b=>iX s e n (if b<e then gD s b 1 1 else b)
def nr (s:MS) (n:Int):MS :=
 let b:=iX s.text (cZ s.text s.cur.toNat) (cH n).toNat s.cur.toNat
 if b=s.cur.toNat then cF s else nO s b 3
def replaceM (s:MS) (t:By):MS :=
 if cZ s.text s.cur.toNat<=s.cur.toNat then cF s
 else
  let r:=cN (ef s s.cur.toNat (gD s.text s.cur 1 1)) s.cur.toNat t
  if r.2=false then cF s else { r.1 with cur:=s.cur,last:=0 }
def gR (s:MS) (n:Int):MS :=
 if n<0\/3<n then cF s
 else
  let t:=if n=2/\s.mode=1/\bn s.text s.cur.toNat<s.cur.toNat then gi s 0 1 else s
  { t with mark:=if n=3 then t.cur else -1,mode:=n,last:=0 }
def nD (s:MS) (c:Cm):MS :=
 if s.mark<0\/(c.n≠1/\c.n≠2) then cF s
 else
  let m:=eE s.text s.mark
  let a:=min m s.cur.toNat
  let b:=gD s.text (max m s.cur.toNat:Nat) 1 1
  let t:= { s with ring:=eM s.ring ((s.text.take b).drop a) 0 }
  let t:=if c.kind=26 then ef t a b else t
  gR { t with cur:=(a:Nat) } c.n
def kU (s:MS) (t:By) (a:Int):MS:= { s with text:=t,cur:=(eE t a:Nat),last:=0 }
def lS (s:MS) (q:By) (upto:Int):MS :=
 if q=[] then kU { s with query:=[],found:=(s.hist.length:Nat) } s.saved s.savedAt
 else match BO s.hist q upto with
  |none=>cF s
  |some (i,a)=>kU { s with query:=q,found:=i } (s.hist.getD i.toNat []) a
def kV (s:MS) (c:Cm):MS :=
 if c.kind=29 then (if 100<s.query.length+c.text.length then cF s else lS s (s.query++c.text) (min s.found ((s.hist.length:Int)-1)))
 else if c.kind=30 then lS s (s.query.take (fF s.query s.query.length)) ((s.hist.length:Int)-1)
 else if c.kind=31 then lS s s.query (max s.found 0-1)
 else if c.kind=32 then { s with mode:=s.was,at_:=(s.hist.length:Nat),draft:=[],last:=0 }
 else if c.kind=33 then kU { s with mode:=s.was } s.saved s.savedAt
 else cF s
def wu (s:MS) (c:Cm):MS :=
 let a:=if c.kind=16 then bn s.text s.cur.toNat else cZ s.text s.cur.toNat
 let t:=cN s a [10]
 if t.2=false then cF s else gR { t.1 with cur:=if c.kind=15 then ((a+1:Nat):Int) else (a:Nat) } 1
def tq (s:MS) (c:Cm):MS :=
 if c.kind=14 then mN s
 else if c.kind=17 then jU s
 else if c.kind=18 then jV s
 else if c.kind=19\/c.kind=20 then nq s c
 else if c.kind=25 then gR s c.n
 else if c.kind=28 then { s with was:=s.mode,mode:=4,query:=[],found:=(s.hist.length:Nat),saved:=s.text,savedAt:=s.cur,last:=0 }
 else if c.kind=33 then cF { s with mark:= -1,mode:=if s.mode=3 then 2 else s.mode }
 else if c.kind=1 then cF s
 else s
def gS (s:MS) (c:Cm):MS :=
 if c.kind=2 then cX s c.text c.n 1
 else if c.kind=3 then gi s c.way c.n
 else if c.kind=4\/c.kind=5\/c.kind=6 then ym s c
 else if c.kind=7\/c.kind=8 then qJ s c
 else if c.kind=9\/c.kind=10 then o8 s c
 else if c.kind=11 then zw s
 else if c.kind=21 then qx s
 else if c.kind=22 then AE s c
 else if c.kind=23 then nr s c.n
 else if c.kind=24 then replaceM s c.text
 else if c.kind=15\/c.kind=16 then wu s c
 else if c.kind=26\/c.kind=27 then nD s c
 else tq s c
def fixC (s:MS):MS:= { s with cur:=(eE s.text s.cur:Nat) }
def Bu (s:MS) (c:Cm):MS:=if s.mode=4 then kV s c else gS s c
def BR (t:MS):MS:=if t.mode=2/\t.cur.toNat=cZ t.text t.cur.toNat/\bn t.text t.cur.toNat<t.cur.toNat then { t with cur:=(gD t.text t.cur 0 1:Nat) } else t
def en (s:MS) (c:Cm):MS:=if c.kind<=0\/33<c.kind\/c.kind=12\/c.kind=13 then s else BR (fixC (Bu (fixC s) c))
structure MI (B:Nat) (s:MS):Prop where
 text:s.text.length<=16384
 draft:s.draft.length<=16384
 saved:s.saved.length<=16384
 query:s.query.length<=100
 ring:∀x∈s.ring,x.length<=B
 ringn:s.ring.length<=10
 hist:∀x∈s.hist,x.length<=16384
 histn:s.hist.length<=100
 lines:∀x∈s.lines,x.length<=16384
 linesn:s.lines.length<=B
 flags:s.flags.length=s.lines.length
 at0:0<=s.at_
 at1:s.at_<=(s.hist.length:Nat)
 fnd0:0<=s.found
 fnd1:s.found<=100
 bell0:0<=s.bells
 bell1:s.bells<=B
def cM (s:MS):Prop:=0<=s.cur/\s.cur<=(s.text.length:Nat)
structure dm (B:Nat) (s t:MS):Prop where
 inv:MI (B+20000) t
 bell:t.bells=s.bells\/(t.bells=s.bells+1/\t.text=s.text)
 lin:s.lines.length<=t.lines.length
theorem MI.up {C:Nat}{s:MS}(k:MI B s) (h:B<=C):MI C s :=
 { k with ring:=fun x hx=>Nat.le_trans (k.ring x hx) h,linesn:=Nat.le_trans k.linesn h,bell1:=by have:=k.bell1;omega }
theorem wN {s:MS}(k:MI B s):dm B s s:=⟨k.up (by omega),.inl rfl,Nat.le_refl _⟩
theorem bZ {s:MS}(k:MI B s):dm B s (cF s) :=
 ⟨{ k.up (C:=B+20000) (by omega) with bell0:=by have:=k.bell0;show 0<=s.bells+1;omega,bell1:=by have:=k.bell1;show s.bells+1<=_;omega },.inr ⟨rfl,rfl⟩,Nat.le_refl _⟩
theorem MI.of {s t:MS}(k:MI B s) (h1:t.text.length<=16384) (h2:t.draft=s.draft) (h3:t.saved=s.saved) (h4:t.query=s.query) (h5:t.ring=s.ring) (h6:t.hist=s.hist) (h7:t.lines=s.lines) (h8:t.flags=s.flags) (h9:t.at_=s.at_) (h10:t.found=s.found) (h11:t.bells=s.bells):MI B t:=by
 obtain⟨text,cur,mode,mark,ring,hist,at_,draft,last,from_,to_,query,found,saved,savedAt,was,lines,flags,bells⟩:=t;simp only at h1 h2 h3 h4 h5 h6 h7 h8 h9 h10 h11;subst h2 h3 h4 h5 h6 h7 h8 h9 h10 h11;exact⟨h1,k.draft,k.saved,k.query,k.ring,k.ringn,k.hist,k.histn,k.lines,k.linesn,k.flags,k.at0,k.at1,k.fnd0,k.fnd1,k.bell0,k.bell1⟩
theorem MI.ring' {C:Nat}{s:MS}(k:MI B s) (r:List By) (h1:∀x∈r,x.length<=C) (h2:r.length<=10) (h:B<=C):MI C { s with ring:=r } :=
 ⟨k.text,k.draft,k.saved,k.query,h1,h2,k.hist,k.histn,k.lines,Nat.le_trans k.linesn h,k.flags,k.at0,k.at1,k.fnd0,k.fnd1,k.bell0,by have:=k.bell1;show s.bells<=_;omega⟩
theorem p8 (way:Int) (h1:∀y∈l,y.length<=B) (h2:l.length<=10) (hx:x.length<=16385):(∀y∈eM l x way,y.length<=B+16385)/\(eM l x way).length<=10:=by
 unfold eM;split
 · exact⟨fun y hy=>by have:=h1 y hy;omega,h2⟩
 · cases l with
   |nil=>exact⟨fun y hy=>by rw[List.mem_singleton.1 hy];omega,by simp⟩
   |cons a r =>
    have ha:=h1 a List.mem_cons_self;have hr:∀y∈r,y.length<=B:=fun y hy=>h1 y (List.mem_cons_of_mem _ hy)
    simp only
    have key:∀(b:By) (q:List By),b.length<=B+16385->(∀y∈q,y.length<=B+16385)->(∀y∈(b::q).take 10,y.length<=B+16385)/\((b::q).take 10).length<=10:=fun b q hb hq=>⟨fun y hy=>by
     rcases List.mem_cons.1 (List.mem_of_mem_take hy) with rfl|hy
     · exact hb
     · exact hq y hy,by rw[List.length_take];omega⟩
    split
    · exact key _ _ (by rw[List.length_append];omega) (fun y hy=>by have:=hr y hy;omega)
    · split
      · exact key _ _ (by rw[List.length_append];omega) (fun y hy=>by have:=hr y hy;omega)
      · exact key _ _ (by omega) (fun y hy=>by have:=h1 y hy;omega)
theorem yR (h1:∀y∈l,y.length<=B) (h2:l.length<=10):(∀y∈eI l,y.length<=B)/\(eI l).length<=10:=by
 cases l with
 |nil=>exact⟨h1,h2⟩
 |cons a r =>
  refine⟨fun y hy=>?_,by simpa [eI] using h2⟩
  rcases List.mem_append.1 hy with hy|hy
  · exact h1 y (List.mem_cons_of_mem _ hy)
  · rw[List.mem_singleton.1 hy];exact h1 a List.mem_cons_self
theorem Fy (h1:∀y∈l,y.length<=B) (h2:l.length<=100) (hx:x.length<=B):(∀y∈fG l x,y.length<=B)/\(fG l x).length<=100:=by
 unfold fG;split
 · exact⟨h1,h2⟩
 · refine⟨fun y hy=>?_,by rw[List.length_drop,List.length_append];simp only[List.length_cons,List.length_nil];omega⟩
   rcases List.mem_append.1 (List.mem_of_mem_drop hy) with hy|hy
   · exact h1 y hy
   · rw[List.mem_singleton.1 hy];exact hx
theorem kD (s:By) (a b:Nat) (n:Nat) (h:s.length<=n):((s.take b).drop a).length<=n:=by rw[List.length_drop,List.length_take];omega
theorem nB {s:MS}(k:MI B s) (ha:a<=s.text.length) (t:By):((cN s a t).2=false/\(cN s a t).1=cF s)\/((cN s a t).2=true/\MI B (cN s a t).1/\(cN s a t).1.bells=s.bells/\(cN s a t).1.lines=s.lines/\(cN s a t).1.cur=((a+t.length:Nat):Int)/\(cN s a t).1.text.length=s.text.length+t.length):=by
 have:=k.text;unfold cN;split
 · exact .inl ⟨rfl,rfl⟩
 · rename_i h
   have hl:(s.text.take a++t++s.text.drop a).length=s.text.length+t.length:=by
    rw[List.length_append,List.length_append,List.length_take,List.length_drop];omega
   exact .inr ⟨rfl,k.of (by show (s.text.take a++t++s.text.drop a).length<=_;omega) rfl rfl rfl rfl rfl rfl rfl rfl rfl rfl,rfl,rfl,rfl,hl⟩
theorem iC {s:MS}(k:MI B s){b:Nat}(h:a<=b):MI B (ef s a b) :=
 k.of (by have:=k.text;show (s.text.take a++s.text.drop b).length<=_;rw[List.length_append,List.length_take,List.length_drop];omega) rfl rfl rfl rfl rfl rfl rfl rfl rfl rfl
theorem oH {s:MS}(k:MI B s) (hc:cM s) (t:By) (n last:Int):dm B s (cX s t n last):=by
 unfold cX;split
 · exact bZ k
 · rename_i x _
   rcases nB k (a:=s.cur.toNat) (by unfold cM at hc;omega) x with ⟨h1,h2⟩|⟨h1,h2,h3,h4,h5,h6⟩
   · rw[if_pos h1,h2];exact bZ k
   · rw[if_neg (by rw[h1];simp)];exact⟨(h2.up (by omega)).of h2.text rfl rfl rfl rfl rfl rfl rfl rfl rfl rfl,.inl h3,by show _<=(cN s s.cur.toNat x).1.lines.length;rw[h4];exact Nat.le_refl _⟩
theorem Dv {s:MS}(c:Cm):dJ s c<=s.text.length:=by
 unfold dJ;exact eV (oh _ _ _ _) (eV (oh _ _ _ _) (oh _ _ _ _))
theorem Ah {s:MS}(k:MI B s) (a b:Nat) (d:Bool):MI (B+16385) (mI s a b d):=by
 have:=p8 (x:=(s.text.take b).drop a) (if s.last=2 then (if d=true then 1 else -1) else 0) k.ring k.ringn (by have:=kD s.text a b _ k.text;omega);exact k.ring' _ this.1 this.2 (by omega)
theorem GZ {s:MS}(k:MI B s) (c:Cm):dm B s (ym s c):=by
 unfold ym;simp only;have hab:min (dJ s c) s.cur.toNat<=max (dJ s c) s.cur.toNat:=by omega
 split
 · exact bZ k
 · split
   · exact⟨((iC k hab).up (by omega)).of (iC k hab).text rfl rfl rfl rfl rfl rfl rfl rfl rfl rfl,.inl rfl,Nat.le_refl _⟩
   · split
     · have h:=iC (Ah k (min (dJ s c) s.cur.toNat) (max (dJ s c) s.cur.toNat) (decide (s.cur<=(dJ s c:Int)))) hab;exact⟨(h.up (by omega)).of h.text rfl rfl rfl rfl rfl rfl rfl rfl rfl rfl,.inl rfl,Nat.le_refl _⟩
     · have h:=Ah (k.of (t:= { s with last:=0 }) k.text rfl rfl rfl rfl rfl rfl rfl rfl rfl rfl) (min (dJ s c) s.cur.toNat) (max (dJ s c) s.cur.toNat) (decide (s.cur<=(dJ s c:Int)));exact⟨(h.up (by omega)).of h.text rfl rfl rfl rfl rfl rfl rfl rfl rfl rfl,.inl rfl,Nat.le_refl _⟩
theorem qK {s:By}:∀(n b:Nat),b<=s.length->b<=ic s n b/\ic s n b<=s.length
 | 0,b,h=>⟨Nat.le_refl _,h⟩
 |n+1,b,h=>by
  rw[ic];split
  · rename_i q;have h1:=iA (s:=s) (a:=b+1) (by omega);have h2:=qK n (cZ s (b+1)) h1.2;omega
  · omega
theorem DI {s:MS}(k:MI B s) (hc:cM s) (c:Cm):dm B s (qJ s c):=by
 have hn:s.cur.toNat<=s.text.length:=by unfold cM at hc;omega
 have h0:=eS s.text s.cur.toNat;have h1:=iA hn;have h2:=qK (s:=s.text) ((cH c.n).toNat-1) _ h1.2;have hk:=p8 (x:=(s.text.take (ic s.text ((cH c.n).toNat-1) (cZ s.text s.cur.toNat))).drop (bn s.text s.cur.toNat)++[10]) 0 k.ring k.ringn (by rw[List.length_append];have:=kD s.text (bn s.text s.cur.toNat) (ic s.text ((cH c.n).toNat-1) (cZ s.text s.cur.toNat)) _ k.text;simp only[List.length_cons,List.length_nil];omega);have hr:=k.ring' (C:=B+16385) _ hk.1 hk.2 (by omega);unfold qJ;simp only;split
 · exact bZ k
 · split
   · exact⟨(hr.up (by omega)).of k.text rfl rfl rfl rfl rfl rfl rfl rfl rfl rfl,.inl rfl,Nat.le_refl _⟩
   · generalize ic s.text ((cH c.n).toNat-1) (cZ s.text s.cur.toNat)=b at *;generalize bn s.text s.cur.toNat=a at *;have hab:(if b<s.text.length then a else if 0<a then a-1 else a)<=(if b<s.text.length then b+1 else b):=by (repeat' split)<;>omega
     have h:=iC (hr.of (t:= { s with last:=0,ring:=eM s.ring ((s.text.take b).drop a++[10]) 0 }) k.text rfl rfl rfl rfl rfl rfl rfl rfl rfl rfl) hab;exact⟨(h.up (by omega)).of h.text rfl rfl rfl rfl rfl rfl rfl rfl rfl rfl,.inl rfl,Nat.le_refl _⟩
theorem Ev {s:MS}(k:MI B s) (hc:cM s) (c:Cm):dm B s (o8 s c):=by
 unfold o8;split
 · exact bZ k
 · rename_i x _ _;split
   · have h:=oH (k.of (t:= { s with cur:=(gD s.text s.cur 1 1:Nat) }) k.text rfl rfl rfl rfl rfl rfl rfl rfl rfl rfl) ⟨by show (0:Int)<=((gD s.text s.cur 1 1:Nat):Int);omega,by show ((gD s.text s.cur 1 1:Nat):Int)<=(s.text.length:Nat);have:=oh s.text s.cur 1 1;omega⟩ x c.n 3;simp only;split
     · exact⟨h.inv.of h.inv.text rfl rfl rfl rfl rfl rfl rfl rfl rfl rfl,h.bell,h.lin⟩
     · exact⟨h.inv,h.bell,h.lin⟩
   · exact oH k hc x c.n 3
theorem Gv {s:MS}(k:MI B s):dm B s (zw s):=by
 unfold zw;split
 · exact bZ k
 · rename_i hn;have ht:=yR k.ring k.ringn;have hr:=k.ring' (C:=B) _ ht.1 ht.2 (Nat.le_refl _)
   have h1:s.from_.toNat<=s.to_.toNat/\s.to_.toNat<=s.text.length:=by
    simp only[not_or,Int.not_lt] at hn;omega
   have h2:=iC hr h1.1
   have hl:(ef { s with ring:=eI s.ring } s.from_.toNat s.to_.toNat).text.length=s.text.length-(s.to_.toNat-s.from_.toNat):=by
    show (s.text.take _++s.text.drop _).length=_
    rw[List.length_append,List.length_take,List.length_drop];omega
   simp only
   rcases nB h2 (a:=s.from_.toNat) (by omega) ((eI s.ring).headD []) with ⟨e1,e2⟩|⟨e1,e2,e3,e4,e5,e6⟩
   · rw[if_pos e1];exact bZ k
   · rw[if_neg (by rw[e1];simp)];exact⟨(e2.up (by omega)).of e2.text rfl rfl rfl rfl rfl rfl rfl rfl rfl rfl,.inl e3,by show _<=List.length (cN _ _ _).1.lines;rw[e4];exact Nat.le_refl _⟩
theorem D2 {s:MS}(k:MI B s) (hc:cM s):dm B s (mN s):=by
 unfold mN;split
 · rcases nB k (a:=s.cur.toNat) (by unfold cM at hc;omega) (10::List.replicate (2*min (oL s.text (jD s.text).1 s.cur) 20) 32) with ⟨h1,h2⟩|⟨h1,h2,h3,h4,h5,h6⟩
   · rw[h2];have:=bZ k;exact⟨this.inv,this.bell,this.lin⟩
   · exact⟨(h2.up (by omega)).of h2.text rfl rfl rfl rfl rfl rfl rfl rfl rfl rfl,.inl h3,by show _<=List.length (cN _ _ _).1.lines;rw[h4];exact Nat.le_refl _⟩
 · have hh:=Fy k.hist k.histn k.text;refine⟨⟨by show ([]:By).length<=_;simp,by show ([]:By).length<=_;simp,k.saved,k.query,fun x hx=>Nat.le_trans (k.ring x hx) (by omega),k.ringn,hh.1,hh.2,fun x hx=>?_,?_,?_,by show (0:Int)<=((fG s.hist s.text).length:Nat);omega,Int.le_refl _,k.fnd0,k.fnd1,k.bell0,by have:=k.bell1;show s.bells<=_;omega⟩,.inl rfl,?_⟩
   · rcases List.mem_append.1 hx with hx|hx
     · exact k.lines x hx
     · rw[List.mem_singleton.1 hx];exact k.text
   · show (s.lines++[s.text]).length<=_
     have:=k.linesn;rw[List.length_append];simp only[List.length_cons,List.length_nil];omega
   · show (s.flags++[_]).length=(s.lines++[s.text]).length
     rw[List.length_append,List.length_append,k.flags];rfl
   · show _<=(s.lines++[s.text]).length
     rw[List.length_append];omega
theorem uu {n:Nat}(h:∀x∈l,x.length<=n) (i:Nat):(l.getD i []).length<=n:=by
 rw[List.getD_eq_getElem?_getD];cases q:l[i]? with
 |none=>simp
 |some x=>exact h x (List.mem_of_getElem? q)
theorem wv {s:MS}(k:MI B s):dm B s (jU s):=by
 unfold jU;split
 · exact bZ k
 · rename_i h;simp only[not_or,Int.not_le,Int.not_lt] at h;refine⟨⟨uu k.hist _,?_,k.saved,k.query,fun x hx=>Nat.le_trans (k.ring x hx) (by omega),k.ringn,k.hist,k.histn,k.lines,by have:=k.linesn;show s.lines.length<=_;omega,k.flags,by show 0<=s.at_-1;omega,by show s.at_-1<=(s.hist.length:Nat);omega,k.fnd0,k.fnd1,k.bell0,by have:=k.bell1;show s.bells<=_;omega⟩,.inl rfl,Nat.le_refl _⟩
   show (if s.at_=(s.hist.length:Nat) then s.text else s.draft).length<=_
   split
   · exact k.text
   · exact k.draft
theorem wC {s:MS}(k:MI B s):dm B s (jV s):=by
 have:=k.at0;unfold jV;split
 · exact bZ k
 · rename_i h;simp only[not_or,Int.not_le,Int.not_lt] at h;have key:∀t:By,t.length<=16384->dm B s (jj { s with at_:=s.at_+1 } t):=fun t ht=>⟨⟨ht,k.draft,k.saved,k.query,fun x hx=>Nat.le_trans (k.ring x hx) (by omega),k.ringn,k.hist,k.histn,k.lines,by have:=k.linesn;show s.lines.length<=_;omega,k.flags,by show 0<=s.at_+1;omega,by show s.at_+1<=(s.hist.length:Nat);omega,k.fnd0,k.fnd1,k.bell0,by have:=k.bell1;show s.bells<=_;omega⟩,.inl rfl,Nat.le_refl _⟩
   split
   · exact key _ k.draft
   · exact key _ (uu k.hist _)
theorem kq {s t:MS}(h:MI B t) (hb:t.bells=s.bells) (hl:t.lines=s.lines):dm B s t:=⟨h.up (by omega),.inl hb,by rw[hl];exact Nat.le_refl _⟩
theorem qF {s:MS}(k:MI B s) (w n:Int):dm B s (gi s w n):=kq (k.of k.text rfl rfl rfl rfl rfl rfl rfl rfl rfl rfl) rfl rfl
theorem AY {s:MS}(k:MI B s) (c:Cm):dm B s (nq s c):=by
 unfold nq;split
 · exact wv k
 · split
   · exact wC k
   · split
     · exact qF k _ _
     · exact qF k _ _
theorem uP (how:Int):∀(l:By) (m:Bool),(jv how l m).length=l.length
 | [],_=>rfl
 |c::l,m=>by rw[jv,List.length_cons,List.length_cons,uP how l]
theorem yS {s:MS}(k:MI B s){b:Nat}(h:s.cur.toNat<=b) (hb:b<=s.text.length) (how:Int):dm B s (nO s b how)/\(nO s b how).text.length=s.text.length:=by
 have hl:(nO s b how).text.length=s.text.length:=by
  show (s.text.take s.cur.toNat++jv how _ false++s.text.drop b).length=_
  rw[List.length_append,List.length_append,uP,List.length_drop,List.length_drop,List.length_take,List.length_take];omega
 exact⟨kq (k.of (by rw[hl];exact k.text) rfl rfl rfl rfl rfl rfl rfl rfl rfl rfl) rfl rfl,hl⟩
theorem ED (s:By) (w:Int) (a:Nat):EF s w 1 a=jG s a w:=by
 rw[EF];split
 · rename_i e;rw[e]
 · rfl
theorem fQ (s:By) (a w:Int):gD s a w 1=jG s (eE s a) w:=by
 unfold gD;rw[show (min (max (1:Int) 0) 1000).toNat=1 by decide,ED]
theorem CL {a:Int}:∀(l:List Nat) (o:Nat),(∀k∈l,a<(k:Nat))->l.foldl (fun(o k:Nat)=>if (k:Int)<=a then k else o) o=o
 | [],_,_=>rfl
 |x::l,o,h=>by
  rw[List.foldl_cons,if_neg (by have:=h x List.mem_cons_self;omega)];exact CL l o fun k hk=>h k (List.mem_cons_of_mem _ hk)
theorem wP:∀(n:Nat) (l:By) (a o c:Nat),c∈bB n l a->(bB n l a).foldl (fun(o k:Nat)=>if (k:Int)<=(c:Nat) then k else o) o=c
 | 0,_,_,_,_,h=>by simp[bB] at h
 |n+1,l,a,o,c,h=>by
  rw[bB] at h ⊢;split at h
  · simp at h
  · rename_i hl;have hr:=cS hl;rw[if_neg hl,List.foldl_cons]
    rcases List.mem_cons.1 h with rfl|h
    · rw[if_pos (by omega)];exact CL _ _ fun k hk=>by have:=dS _ _ _ _ hk;omega
    · exact wP n _ _ _ c h
theorem jf {s:By}(h:ew s a):eE s a=a:=by
 unfold eE
 rcases h with h|h
 · have:=fZ h;rw[if_neg (by omega)];exact wP _ _ _ _ _ h
 · rw[if_pos (by omega),h]
theorem mo {s:By}(h:ew s a):ew s (cj s a):=by
 unfold cj
 rcases h with h|h
 · have:=fZ h;rw[if_neg (by omega)];exact(ry h).1
 · rw[if_pos (by omega)];exact .inr h
theorem sX {so:Int->Bool}{s:By}:∀(n a:Nat),ew s a->ew s (ji so s n a)
 | 0,_,h=>h
 |n+1,a,h=>by
  rw[ji];split
  · exact sX n _ (mo h)
  · exact h
theorem uV {so:Int->Bool}{s:By}:∀(n a:Nat),ew s a->ew s (jP so s n a)
 | 0,_,h=>h
 |n+1,a,h=>by
  rw[jP];split
  · exact uV n _ (pX h)
  · exact h
theorem CK {a:Int}:∀(l:List Nat) (o:Nat),(o:Int)<=a->((l.foldl (fun(o k:Nat)=>if (k:Int)<=a then k else o) o:Nat):Int)<=a
 | [],_,h=>h
 |x::l,o,h=>by
  rw[List.foldl_cons];refine CK l _ ?_;split
  · assumption
  · exact h
theorem DY (s:By) (a:Nat):eE s a<=a:=by
 unfold eE;split
 · omega
 · have:=CK (a:=(a:Int)) (ct s) 0 (by omega);omega
theorem CJ {a:Int}{c:Nat}(hc:(c:Int)<=a):∀(n:Nat) (l:By) (b o:Nat),c∈bB n l b->c<=(bB n l b).foldl (fun(o k:Nat)=>if (k:Int)<=a then k else o) o
 | 0,_,_,_,h=>by simp[bB] at h
 |n+1,l,b,o,h=>by
  rw[bB] at h ⊢;split at h
  · simp at h
  · rename_i hl;have hr:=cS hl;rw[if_neg hl,List.foldl_cons]
    rcases List.mem_cons.1 h with rfl|h
    · rw[if_pos hc]
      rcases yl (bB n (l.drop (aZ l)) (c+aZ l)) a c (fun _ h=>h) with q|q
      · have:=dS _ _ _ _ q;omega
      · omega
    · exact CJ hc n _ _ _ h
theorem FF {s:By}{c:Nat}{a:Int}(h:ew s c) (ha:(c:Int)<=a):c<=eE s a:=by
 unfold eE;split
 · exact jm h
 · rcases h with h|h
   · exact CJ ha _ _ _ _ h
   · omega
def gW (s:MS):Prop:=∃c:Nat,s.cur=(c:Nat)/\ew s.text c
theorem gW.ok {s:MS}(h:gW s):cM s:=by
 obtain⟨c,h1,h2⟩:=h;have:=jm h2;unfold cM;omega
theorem FA {s:By}(h:ew s a):a<=gD s a 6 1/\gD s a 6 1<=s.length:=by
 rw[fQ,jf h];have e:jG s a 6=cY C7 s (cY sj s a):=rfl;rw[e];have h1:=fO (so:=sj) (jm h);have h2:=fO (so:=C7) h1.2;omega
theorem ia {s:By}(h:ew s a):gD s a 1 1=cj s a:=by rw[fQ,jf h];rfl
theorem Da {s:MS}(k:MI B s) (hc:gW s):dm B s (qx s):=by
 obtain⟨p,h1,h2⟩:=hc;unfold qx;simp only
 have hpa:ew s.text (if s.cur=(s.text.length:Nat) then gD s.text s.cur 0 1 else s.cur.toNat):=by
  split
  · rw[fQ];exact pX (fT _ _)
  · rw[h1];exact h2
 generalize (if s.cur=(s.text.length:Nat) then gD s.text s.cur 0 1 else s.cur.toNat)=a at hpa ⊢;have e1:gD s.text a 0 1=fF s.text a:=by rw[fQ,jf hpa];rfl
 rw[e1,ia hpa];split
 · exact bZ k
 · refine kq (k.of ?_ rfl rfl rfl rfl rfl rfl rfl rfl rfl rfl) rfl rfl;have q1:=mF s.text a;have q2:=dP (jm hpa);have:=k.text
   show (s.text.take _++(s.text.take _).drop a++(s.text.take a).drop _++s.text.drop _).length<=_
   simp only[List.length_append,List.length_take,List.length_drop];omega
theorem FX {s:MS}(k:MI B s) (hc:gW s) (c:Cm):dm B s (AE s c):=by
 obtain⟨p,h1,h2⟩:=hc;unfold AE;split
 · exact bZ k
 · rw[h1];have:=FA h2;exact(yS k (by rw[h1];exact this.1) this.2 _).1
theorem og {s:By}{e:Nat}:∀(n b:Nat),ew s b->ew s (iX s e n b)/\b<=iX s e n b
 | 0,_,h=>⟨h,Nat.le_refl _⟩
 |n+1,b,h=>by
  rw[iX];split
  · rw[ia h];have h1:=og (e:=e) n _ (mo h);have h2:=dP (jm h);exact⟨h1.1,by omega⟩
  · exact og n b h
theorem A0 {s:MS}(k:MI B s) (hc:gW s) (n:Int):dm B s (nr s n):=by
 obtain⟨p,h1,h2⟩:=hc;have h3:=og (e:=cZ s.text p) (cH n).toNat p h2;unfold nr;simp only[h1,Int.toNat_natCast];split
 · exact bZ k
 · exact(yS k (by rw[h1];exact h3.2) (jm h3.1) _).1
theorem zo {s:MS}(k:MI B s) (hc:gW s) (t:By):dm B s (replaceM s t):=by
 obtain⟨p,h1,h2⟩:=hc;have hp:=jm h2;have hr:=dP hp;unfold replaceM;simp only[h1,Int.toNat_natCast];split
 · exact bZ k
 · rw[ia h2];have hk:=iC k hr.1;have hl:p<=(ef s p (cj s.text p)).text.length:=by show _<=(s.text.take p++_).length;rw[List.length_append,List.length_take];omega
   rcases nB hk hl t with ⟨e1,e2⟩|⟨e1,e2,e3,e4,e5,e6⟩
   · rw[if_pos e1];exact bZ k
   · rw[if_neg (by rw[e1];simp)];exact⟨(e2.up (by omega)).of e2.text rfl rfl rfl rfl rfl rfl rfl rfl rfl rfl,.inl e3,by show _<=List.length (cN _ _ _).1.lines;rw[e4];exact Nat.le_refl _⟩
theorem tJ {s:MS}(k:MI B s) (n:Int):dm B s (gR s n)/\((0<=n/\n<=3)->MI B (gR s n)/\(gR s n).bells=s.bells/\(gR s n).text=s.text/\(gR s n).lines=s.lines):=by
 unfold gR;split
 · exact⟨bZ k,fun h=>by omega⟩
 · have key:∀t:MS,MI B t->t.bells=s.bells->t.lines=s.lines->t.text=s.text->(dm B s { t with mark:=if n=3 then t.cur else -1,mode:=n,last:=0 }/\((0<=n/\n<=3)->MI B { t with mark:=if n=3 then t.cur else -1,mode:=n,last:=0 }/\t.bells=s.bells/\t.text=s.text/\t.lines=s.lines)):=fun t h1 h2 h3 h4=>by
    have q:=h1.of (t:= { t with mark:=if n=3 then t.cur else -1,mode:=n,last:=0 }) h1.text rfl rfl rfl rfl rfl rfl rfl rfl rfl rfl;exact⟨kq q h2 h3,fun _=>⟨q,h2,h4,h3⟩⟩
   simp only;split
   · exact key (gi s 0 1) (k.of k.text rfl rfl rfl rfl rfl rfl rfl rfl rfl rfl) rfl rfl rfl
   · exact key s k rfl rfl rfl
theorem Bw {s:MS}(k:MI B s) (c:Cm):dm B s (nD s c):=by
 unfold nD;split
 · exact bZ k
 · rename_i hn;simp only;generalize hm:eE s.text s.mark=m;have hab:min m s.cur.toNat<=gD s.text (max m s.cur.toNat:Nat) 1 1\/True:=.inr trivial;have hkl:=p8 (x:=(s.text.take (gD s.text (max m s.cur.toNat:Nat) 1 1)).drop (min m s.cur.toNat)) 0 k.ring k.ringn (by have:=kD s.text (min m s.cur.toNat) (gD s.text (max m s.cur.toNat:Nat) 1 1) _ k.text;omega);have hr:=k.ring' (C:=B+16385) _ hkl.1 hkl.2 (by omega);have hml:=jK s.text s.mark
   have hab:min m s.cur.toNat<=gD s.text (max m s.cur.toNat:Nat) 1 1:=by
    rw[fQ]
    have h1:min m s.cur.toNat<=eE s.text ((max m s.cur.toNat:Nat):Int):=by
     have hpl:ew s.text m:=by rw[<-hm];exact fT _ _
     have h2:=FF (s:=s.text) (c:=m) (a:=((max m s.cur.toNat:Nat):Int)) hpl (by omega);omega
    have h2:=dP (s:=s.text) (a:=eE s.text ((max m s.cur.toNat:Nat):Int)) (jK _ _);have e:jG s.text (eE s.text ((max m s.cur.toNat:Nat):Int)) 1=cj s.text (eE s.text ((max m s.cur.toNat:Nat):Int)):=rfl;rw[e];omega
   generalize hb:gD s.text ((max m s.cur.toNat:Nat):Int) 1 1=b at *;generalize ha:min m s.cur.toNat=a at *;have hn2:0<=c.n/\c.n<=3:=by omega
   have key:∀t:MS,MI (B+16385) t->t.bells=s.bells->t.lines=s.lines->dm B s (gR { t with cur:=(a:Nat) } c.n):=fun t h1 h2 h3=>by
    obtain⟨q1,q2,_,q4⟩:=(tJ (h1.of (t:= { t with cur:=(a:Nat) }) h1.text rfl rfl rfl rfl rfl rfl rfl rfl rfl rfl) c.n).2 hn2;exact⟨q1.up (by omega),.inl (by rw[q2];exact h2),by rw[q4];show _<=t.lines.length;rw[h3];exact Nat.le_refl _⟩
   split
   · exact key _ (iC hr hab) rfl rfl
   · exact key _ hr rfl rfl
theorem E3 {s:MS}(k:MI B s) (hc:cM s) (c:Cm):dm B s (wu s c):=by
 have hn:s.cur.toNat<=s.text.length:=by unfold cM at hc;omega
 unfold wu;simp only;generalize ha:(if c.kind=16 then bn s.text s.cur.toNat else cZ s.text s.cur.toNat)=a;have hal:a<=s.text.length:=by rw[<-ha];exact eV (eS _ _).2 (iA hn).2
 rcases nB k hal [10] with ⟨e1,e2⟩|⟨e1,e2,e3,e4,e5,e6⟩
 · rw[if_pos e1];exact bZ k
 · rw[if_neg (by rw[e1];simp)];obtain⟨q1,q2,_,q4⟩:=(tJ (e2.of (t:= { (cN s a [10]).1 with cur:=if c.kind=15 then ((a+1:Nat):Int) else (a:Nat) }) e2.text rfl rfl rfl rfl rfl rfl rfl rfl rfl rfl) 1).2 ⟨by decide,by decide⟩;exact⟨q1.up (by omega),.inl (by rw[q2];exact e3),by rw[q4];show _<=List.length (cN _ _ _).1.lines;rw[e4];exact Nat.le_refl _⟩
theorem Aq {l:List By}{t:By}:∀(n:Nat){i a:Int},n<=l.length->DW l t n=some (i,a)->0<=i/\i<(l.length:Nat)
 | 0,_,_,_,h=>by cases h
 |n+1,i,a,hn,h=>by
  rw[DW] at h;split at h
  · cases h;omega
  · exact Aq n (by omega) h
theorem CO {t:By}{u i a:Int}(h:BO l t u=some (i,a)):0<=i/\i<(l.length:Nat):=by
 unfold BO at h;split at h
 · cases h
 · refine Aq _ ?_ h;split<;>omega
theorem tQ {s:MS}(k:MI B s){q:By}(hq:q.length<=100) (u:Int):dm B s (lS s q u):=by
 have key:∀(q:By) (f:Int) (t:By) (a:Int),q.length<=100->0<=f->f<=100->t.length<=16384->dm B s (kU { s with query:=q,found:=f } t a):=fun q f t a h1 h2 h3 h4 =>
  ⟨⟨h4,k.draft,k.saved,h1,fun x hx=>Nat.le_trans (k.ring x hx) (by omega),k.ringn,k.hist,k.histn,k.lines,by have:=k.linesn;show s.lines.length<=_;omega,k.flags,k.at0,k.at1,h2,h3,k.bell0,by have:=k.bell1;show s.bells<=_;omega⟩,.inl rfl,Nat.le_refl _⟩
 have hh:=k.histn;unfold lS;split
 · exact key [] _ _ _ (by simp) (by omega) (by omega) k.saved
 · split
   · exact bZ k
   · rename_i i a e;have:=CO e;exact key q i _ _ hq (by omega) (by omega) (uu k.hist _)
theorem Bd {s:MS}(k:MI B s) (c:Cm):dm B s (kV s c):=by
 unfold kV;split
 · split
   · exact bZ k
   · exact tQ k (by rw[List.length_append];omega) _
 · split
   · exact tQ k (by have:=k.query;rw[List.length_take];omega) _
   · split
     · exact tQ k k.query _
     · split
       · exact⟨⟨k.text,by show ([]:By).length<=_;simp,k.saved,k.query,fun x hx=>Nat.le_trans (k.ring x hx) (by omega),k.ringn,k.hist,k.histn,k.lines,by have:=k.linesn;show s.lines.length<=_;omega,k.flags,by show (0:Int)<=(s.hist.length:Nat);omega,Int.le_refl _,k.fnd0,k.fnd1,k.bell0,by have:=k.bell1;show s.bells<=_;omega⟩,.inl rfl,Nat.le_refl _⟩
       · split
         · exact kq (k.of (t:=kU { s with mode:=s.was } s.saved s.savedAt) k.saved rfl rfl rfl rfl rfl rfl rfl rfl rfl rfl) rfl rfl
         · exact bZ k
theorem Dz {s:MS}(k:MI B s) (hc:cM s) (c:Cm):dm B s (tq s c):=by
 have hh:=k.histn;unfold tq;split
 · exact D2 k hc
 · split
   · exact wv k
   · split
     · exact wC k
     · split
       · exact AY k c
       · split
         · exact(tJ k _).1
         · split
           · exact⟨⟨k.text,k.draft,k.text,by show ([]:By).length<=_;simp,fun x hx=>Nat.le_trans (k.ring x hx) (by omega),k.ringn,k.hist,k.histn,k.lines,by have:=k.linesn;show s.lines.length<=_;omega,k.flags,k.at0,k.at1,by show (0:Int)<=(s.hist.length:Nat);omega,by show ((s.hist.length:Nat):Int)<=100;omega,k.bell0,by have:=k.bell1;show s.bells<=_;omega⟩,.inl rfl,Nat.le_refl _⟩
           · split
             · have:=bZ (k.of (t:= { s with mark:= -1,mode:=if s.mode=3 then 2 else s.mode }) k.text rfl rfl rfl rfl rfl rfl rfl rfl rfl rfl);exact⟨this.inv,this.bell,this.lin⟩
             · split
               · exact bZ k
               · exact wN k
theorem kI {s x y:MS}{c:Prop}[Decidable c] (h1:dm B s x) (h2:dm B s y):dm B s (if c then x else y):=by split<;>assumption
theorem FO {s:MS}(k:MI B s) (hc:gW s) (c:Cm):dm B s (gS s c):=by
 have ho:=hc.ok;unfold gS;exact kI (oH k ho _ _ _) (kI (qF k _ _) (kI (GZ k c) (kI (DI k ho c) (kI (Ev k ho c) (kI (Gv k) (kI (Da k hc) (kI (FX k hc c) (kI (A0 k hc _) (kI (zo k hc _) (kI (E3 k ho c) (kI (Bw k c) (Dz k ho c))))))))))))
theorem GY (s:MS):gW (fixC s):=⟨_,rfl,fT _ _⟩
theorem MI.cur {B:Nat}{s:MS}(k:MI B s) (n:Int):MI B { s with cur:=n }:=k.of k.text rfl rfl rfl rfl rfl rfl rfl rfl rfl rfl
theorem CG {s:MS}(k:MI B s) (c:Cm):dm B s (Bu (fixC s) c):=by
 unfold Bu;refine kI ?_ ?_
 · have:=Bd (k.cur (eE s.text s.cur:Nat)) c;exact⟨this.inv,this.bell,this.lin⟩
 · have:=FO (k.cur (eE s.text s.cur:Nat)) (GY s) c;exact⟨this.inv,this.bell,this.lin⟩
theorem qV {s:MS}(k:MI B s) (hc:gW s) (c:Cm):dm B s (en s c)/\gW (en s c):=by
 unfold en;split
 · exact⟨wN k,hc⟩
 · have h1:=CG k c;generalize Bu (fixC s) c=t at h1;unfold BR;split
   · refine⟨⟨h1.inv.cur _,h1.bell,h1.lin⟩,_,rfl,?_⟩
     show ew t.text (gD t.text _ 0 1)
     rw[fQ];exact pX (fT _ _)
   · exact⟨⟨h1.inv.cur _,h1.bell,h1.lin⟩,_,rfl,fT _ _⟩
def nR:MS:=⟨[],0,0,-1,[],[],0,[],0,0,0,[],0,[],0,0,[],[],0⟩
theorem An (s:By):eE s 0=0:=Nat.le_zero.1 (DY s 0)
theorem EV (t:By):ou t 1=t:=by rw[ou,ou,List.append_nil]
theorem Bi {t:By}(h:t.length<=16384):iy t 1=some t:=by
 unfold iy;rw[if_neg,show (cH 1).toNat=1 by decide,EV];rintro⟨h1,h2⟩;have hp:=List.length_pos_iff.2 h1;have:1<=16384 / t.length:=(Nat.le_div_iff_mul_le hp).2 (by omega);rw[show cH 1=1 by decide] at h2;omega
theorem BK {s:MS}{t:By}(h:t.length<=16384) (last:Int):(cX s t 1 last=cF s/\16384-(s.text.length:Int)<t.length) \/
 (∃f,cX s t 1 last= { s with text:=s.text.take s.cur.toNat++t++s.text.drop s.cur.toNat,cur:=((s.cur.toNat+t.length:Nat):Int),from_:=f,last:=last,to_:=((s.cur.toNat+t.length:Nat):Int) }/\¬16384-(s.text.length:Int)<t.length):=by
 unfold cX;rw[Bi h];simp only
 by_cases q:16384-(s.text.length:Int)<t.length
 · have hp:cN s s.cur.toNat t=(cF s,false):=by unfold cN;rw[if_pos q]
   rw[hp];exact .inl ⟨if_pos rfl,q⟩
 · have hp:cN s s.cur.toNat t=({ s with text:=s.text.take s.cur.toNat++t++s.text.drop s.cur.toNat,cur:=((s.cur.toNat+t.length:Nat):Int) },true):=by unfold cN;rw[if_neg q]
   rw[hp,if_neg (by simp)];exact .inr ⟨_,rfl,q⟩
theorem mW {s t:MS}{c:Cm}(hm:s.mode=0) (hk:¬(c.kind<=0\/33<c.kind\/c.kind=12\/c.kind=13)) (he:gS (fixC s) c=t) (h2:t.mode=0):en s c=fixC t:=by
 unfold en Bu BR;rw[if_neg hk,if_neg (show ¬(fixC s).mode=4 by show ¬s.mode=4;rw[hm];decide),he,if_neg];rintro⟨q,_⟩;have q:t.mode=2:=q;rw[h2] at q;exact absurd q (by decide)
def AS:Cm:=⟨9,0,1,[],false⟩
def nL (w:Int):Cm:=⟨5,w,1,[],false⟩
def tI (w:Int):Cm:=⟨3,w,1,[],false⟩
inductive qu:By->Prop
 |nil:qu []
 |cons {l:By}:l≠[]->(2<=aZ l\/(l.getD 0 0).toNat<128)->qu (l.drop (aZ l))->qu l
theorem zk {l:By}(hl:l≠[]) (h:2<=aZ l\/(l.getD 0 0).toNat<128) (x:By):aZ (l++x)=aZ l:=by
 have hr:=cS hl
 rcases h with h|h
 · refine qC (n:=aZ l) ?_ h (by rw[List.length_append];omega);rw[List.take_append_of_le_length hr.2];exact(s8 rfl h hr.2).1
 · obtain⟨a,t,rfl⟩:=List.exists_cons_of_ne_nil hl;unfold aZ Lib.decodeN;rw[List.cons_append,List.getD_cons_zero] at *;rw[List.getD_cons_zero,if_pos h,if_pos h]
theorem F8 {l:By}(hl:l≠[]) (x:By):(l++x).getD 0 0=l.getD 0 0:=by
 obtain⟨a,t,rfl⟩:=List.exists_cons_of_ne_nil hl;rfl
theorem qu.app {l:By}(h:qu l) (k:qu x):qu (l++x):=by
 induction h with
 |nil=>exact k
 | @cons l hl hr _ ih =>
  have e:=zk hl hr x;refine .cons (by simp[hl]) (by rw[e,F8 hl];exact hr) ?_;rw[e,List.drop_append_of_le_length (cS hl).2];exact ih
theorem qu.pl {l:By}(h:qu l) (x:By):ew (l++x) l.length:=by
 have key:∀(n a:Nat),(l++x).length<=n->a+l.length∈bB n (l++x) a\/x=[]:=by
  induction h with
  |nil =>
   intro n a hn
   by_cases hx:x=[]
   · exact .inr hx
   · left
     rw[List.nil_append] at hn ⊢;cases n with
     |zero=>exact absurd (List.length_eq_zero_iff.1 (by omega)) hx
     |succ n=>rw[bB,if_neg hx];exact List.mem_cons_self
  | @cons l hl hr _ ih =>
   intro n a hn;have e:=zk hl hr x;have hrl:=cS hl;cases n with
   |zero=>rw[List.length_append] at hn;have:=List.length_pos_iff.2 hl;omega
   |succ n =>
    rw[bB,if_neg (by simp[hl]),e,List.drop_append_of_le_length hrl.2];refine(ih n (a+aZ l) ?_).imp (fun q=>List.mem_cons_of_mem _ ?_) id
    · rw[List.length_append] at hn ⊢;rw[List.length_drop];omega
    · rw[List.length_drop,show a+aZ l+(l.length-aZ l)=a+l.length by omega] at q;exact q
 rcases key (l++x).length 0 (Nat.le_refl _) with h|h
 · left;rw[Nat.zero_add] at h;exact h
 · right;rw[h,List.append_nil]
theorem qu.parts {l:By}(h:qu l) (hp:ew l p):qu (l.take p)/\qu (l.drop p):=by
 have key:∀(n a p:Nat),l.length<=n->(a+p∈bB n l a\/p=l.length)->qu (l.take p)/\qu (l.drop p):=by
  clear hp
  induction h with
  |nil=>intro n a p _ _;simp only[List.take_nil,List.drop_nil];exact⟨.nil,.nil⟩
  | @cons l hl hr hv ih =>
   intro n a p hn hp;have hrl:=cS hl
   by_cases h0:p=0
   · subst h0;rw[List.take_zero,List.drop_zero];exact⟨.nil,.cons hl hr hv⟩
   · cases n with
     |zero=>have:=List.length_pos_iff.2 hl;omega
     |succ n =>
      rw[bB,if_neg hl] at hp
      have hge:aZ l<=p:=by
       rcases hp with hp|hp
       · rcases List.mem_cons.1 hp with hp|hp
         · omega
         · have:=dS _ _ _ _ hp;omega
       · omega
      obtain⟨q1,q2⟩:=ih n (a+aZ l) (p-aZ l) (by rw[List.length_drop];omega) (by
       rcases hp with hp|hp
       · rcases List.mem_cons.1 hp with hp|hp
         · omega
         · left;rw[show a+aZ l+(p-aZ l)=a+p by omega];exact hp
       · right;rw[List.length_drop];omega)
      rw[List.drop_drop,show aZ l+(p-aZ l)=p by omega] at q2;refine⟨?_,q2⟩
      have e:aZ (l.take p)=aZ l:=by
       rcases hr with hr|hr
       · have h1:=s8 (l:=l) rfl hr hrl.2;refine qC (n:=aZ l) ?_ hr (by rw[List.length_take];omega);rw[List.take_take,Nat.min_eq_left hge];exact h1.1
       · obtain⟨b,t,rfl⟩:=List.exists_cons_of_ne_nil hl;obtain⟨p',rfl⟩:∃p',p=p'+1:=⟨p-1,by omega⟩
         unfold aZ Lib.decodeN;rw[List.getD_cons_zero] at hr;rw[List.take_succ_cons,List.getD_cons_zero,List.getD_cons_zero,if_pos hr,if_pos hr]
      have g0:(l.take p).getD 0 0=l.getD 0 0:=vT (by omega);refine .cons (by intro q;have:=congrArg List.length q;rw[List.length_take,List.length_nil] at this;omega) (by rw[e,g0];exact hr) ?_;rw[e,List.drop_take];exact q1
 exact key l.length 0 p (Nat.le_refl _) (by rw[Nat.zero_add];exact hp)
structure KS (orig:By) (s:MS):Prop where
 mode:s.mode=0
 len:orig.length<=200
 parts:∃pre post k:By,s.text=pre++post/\s.cur=(pre.length:Nat)/\qu pre/\qu post/\orig=pre++k++post/\((s.ring=[]/\s.last=0/\k=[])\/(s.ring=[k]/\s.last=2))
theorem KS.pl {orig:By}{s:MS}(h:KS orig s):∃p:Nat,s.cur=(p:Nat)/\ew s.text p/\qu s.text:=by
 obtain⟨pre,post,k,h1,h2,h3,h4,_⟩:=h.parts;rw[h1];exact⟨_,h2,h3.pl post,h3.app h4⟩
theorem Gx {s:By}(h:ew s a) (hw:w=0\/w=1\/w=6\/w=7):ew s (jG s a w):=by
 rcases hw with rfl|rfl|rfl|rfl
 · exact pX h
 · exact mo h
 · exact sX _ _ (sX _ _ h)
 · exact uV _ _ (uV _ _ h)
theorem qj {s:MS}(h:s.cur=(p:Nat)) (hp:ew s.text p):fixC s=s:=by
 unfold fixC;rw[h,jf hp,<-h]
theorem Du (s:MS) (hw:w≠3):dJ s (nL w)=gD s.text s.cur w 1:=by
 unfold dJ nL;simp only[Bool.false_eq_true,false_and,if_false];rw[if_neg (by rintro⟨_,h,_⟩;exact hw h),show cH 1=1 by decide]
theorem FN (s:MS) (w:Int):gS s (nL w)=ym s (nL w):=by
 unfold gS;rw[if_neg (by show ¬(5:Int)=2;decide),if_neg (by show ¬(5:Int)=3;decide),if_pos (by show (5:Int)=4\/(5:Int)=5\/(5:Int)=6;decide)]
theorem wK {s:MS}{r:Nat}(hm:s.mode=0) (hc:s.cur=(p:Nat)) (hp:ew s.text p) (hv:qu s.text) (hw:w≠3) (hr:gD s.text s.cur w 1=r) (hpl:ew s.text r) (hne:r≠p) :
 ∃_d:Int,en s (nL w)= { s with text:=s.text.take (min r p)++s.text.drop (max r p),cur:=(min r p:Nat),ring:=eM s.ring ((s.text.take (max r p)).drop (min r p)) (if s.last=2 then (if p<r then 1 else -1) else 0),last:=2 }:=by
 have hab:min r p≠max r p:=by omega
 have hd:decide (s.cur<=(r:Int))=decide (p<r):=by rw[hc,decide_eq_decide];omega
 have hf:ym s (nL w)= { s with text:=s.text.take (min r p)++s.text.drop (max r p),cur:=(min r p:Nat),ring:=eM s.ring ((s.text.take (max r p)).drop (min r p)) (if s.last=2 then (if p<r then 1 else -1) else 0),last:=2 }:=by
  unfold ym;simp only;rw[Du s hw,hr,hc,Int.toNat_natCast,if_neg hab,if_neg (by show ¬(5:Int)=4;decide),if_pos (by show (5:Int)=5;rfl)];rw[<-hc,hd];unfold ef mI;simp only[decide_eq_true_eq]
 refine⟨0,?_⟩
 have hpl1:ew s.text (min r p):=by
  rcases Nat.lt_or_ge r p with q|q
  · rw[Nat.min_eq_left (by omega)];exact hpl
  · rw[Nat.min_eq_right (by omega)];exact hp
 have hpl2:ew s.text (max r p):=by
  rcases Nat.lt_or_ge r p with q|q
  · rw[Nat.max_eq_right (by omega)];exact hp
  · rw[Nat.max_eq_left (by omega)];exact hpl
 have hl:(s.text.take (min r p)).length=min r p:=by rw[List.length_take];have:=jm hpl1;omega
 have hq:ew (s.text.take (min r p)++s.text.drop (max r p)) (min r p):=by
  have:=(hv.parts hpl1).1.pl (s.text.drop (max r p))
  rwa [hl] at this
 have e:=mW hm (c:=nL w) (by show ¬((5:Int)<=0\/33<(5:Int)\/(5:Int)=12\/(5:Int)=13);decide) ((congrArg (fun x=>gS x (nL w)) (qj hc hp)).trans ((FN s w).trans hf)) hm;rw[e];exact qj rfl hq
theorem Fu {s:MS}(h:KS orig s) (hw:w=0\/w=1\/w=6\/w=7) (hne:(gD s.text s.cur w 1:Int)≠s.cur):KS orig (en s (nL w))/\(en s (nL w)).ring.length=1:=by
 obtain⟨pre,post,k,h1,h2,h3,h4,h5,h6⟩:=h.parts;have hp:ew s.text pre.length:=by rw[h1];exact h3.pl post
 have hv:qu s.text:=by rw[h1];exact h3.app h4
 obtain⟨r,hr⟩:∃r,gD s.text s.cur w 1=r:=⟨_,rfl⟩
 have hrp:ew s.text r:=by rw[<-hr,fQ,h2,jf hp];exact Gx hp hw
 have hrl:=jm hrp;have hpn:r≠pre.length:=fun e=>hne (by rw[hr,e,h2])
 obtain⟨_,e⟩:=wK (w:=w) h.mode h2 hp hv (by rcases hw with rfl|rfl|rfl|rfl<;>decide) hr hrp hpn;have hlen:s.text.length=pre.length+post.length:=by rw[h1,List.length_append]
 rw[e]
 have hx:(s.text.take (max r pre.length)).drop (min r pre.length)≠[]:=by
  intro q;have:=congrArg List.length q;rw[List.length_drop,List.length_take,List.length_nil] at this;omega
 have hone:∀(x:By) (l:Int),eM [] x l=if x=[] then [] else [x]:=fun x l=>by unfold eM;split<;>rfl
 rcases Nat.lt_or_ge r pre.length with q|q
 · have m1:min r pre.length=r:=by omega
   have m2:max r pre.length=pre.length:=by omega
   have t1:s.text.take r=pre.take r:=by rw[h1,List.take_append_of_le_length (by omega)]
   have t2:s.text.drop pre.length=post:=by rw[h1,List.drop_left]
   have t3:(s.text.take pre.length).drop r=pre.drop r:=by rw[h1,List.take_left]
   rw[m1,m2] at hx ⊢;rw[t3] at hx ⊢;rw[t1,t2];have hl:(pre.take r).length=r:=by rw[List.length_take];omega
   have hvp:qu (pre.take r):=by have:=(hv.parts hrp).1;rwa [t1] at this
   rw[if_neg (by omega:¬pre.length<r)]
   rcases h6 with ⟨r1,r2,r3⟩|⟨r1,r2⟩
   · subst r3;rw[r1,hone,if_neg hx];exact⟨⟨h.mode,h.len,pre.take r,post,pre.drop r,rfl,by rw[hl],hvp,h4,by rw[List.take_append_drop,h5,List.append_nil],.inr ⟨rfl,rfl⟩⟩,rfl⟩
   · rw[r1,r2,if_pos rfl];have e2:eM [k] (pre.drop r) (-1)=[pre.drop r++k]:=by unfold eM;rw[if_neg hx];rfl
     rw[e2];exact⟨⟨h.mode,h.len,pre.take r,post,pre.drop r++k,rfl,by rw[hl],hvp,h4,by rw[<-List.append_assoc,List.take_append_drop];exact h5,.inr ⟨rfl,rfl⟩⟩,rfl⟩
 · have m1:min r pre.length=pre.length:=by omega
   have m2:max r pre.length=r:=by omega
   have t1:s.text.take pre.length=pre:=by rw[h1,List.take_left]
   have t2:s.text.drop r=post.drop (r-pre.length):=by rw[h1,List.drop_append,List.drop_of_length_le q,List.nil_append]
   have t3:(s.text.take r).drop pre.length=post.take (r-pre.length):=by rw[List.drop_take,h1,List.drop_left]
   rw[m1,m2] at hx ⊢;rw[t3] at hx ⊢;rw[t1,t2];have hvp:qu (post.drop (r-pre.length)):=by have:=(hv.parts hrp).2;rwa [t2] at this
   rw[if_pos (by omega:pre.length<r)]
   rcases h6 with ⟨r1,r2,r3⟩|⟨r1,r2⟩
   · subst r3;rw[r1,hone,if_neg hx];exact⟨⟨h.mode,h.len,pre,post.drop (r-pre.length),post.take (r-pre.length),rfl,rfl,h3,hvp,by rw[List.append_assoc,List.take_append_drop,h5,List.append_nil],.inr ⟨rfl,rfl⟩⟩,rfl⟩
   · rw[r1,r2,if_pos rfl];have e2:eM [k] (post.take (r-pre.length)) 1=[k++post.take (r-pre.length)]:=by unfold eM;rw[if_neg hx];rfl
     rw[e2];exact⟨⟨h.mode,h.len,pre,post.drop (r-pre.length),k++post.take (r-pre.length),rfl,rfl,h3,hvp,by rw[List.append_assoc,List.append_assoc,List.take_append_drop,<-List.append_assoc];exact h5,.inr ⟨rfl,rfl⟩⟩,rfl⟩
theorem FM {s:MS}{k:By}{r:List By}(h:s.ring=k::r):gS s AS=cX s k 1 3:=by
 unfold gS;rw[if_neg (by decide),if_neg (by decide),if_neg (by decide),if_neg (by decide),if_pos (by decide)];unfold o8;rw[h];simp only;rw[if_neg (by rintro⟨q,_⟩;exact absurd q (by decide))];rfl
theorem Ew {s:MS}(h:KS orig s) (hr:s.ring.length=1):(en s AS).text=orig:=by
 obtain⟨pre,post,k,h1,h2,h3,h4,h5,h6⟩:=h.parts;have hp:ew s.text pre.length:=by rw[h1];exact h3.pl post
 rcases h6 with ⟨r1,_⟩|⟨r1,r2⟩
 · rw[r1] at hr;cases hr
 · have hlen:=h.len;have hol:=congrArg List.length h5;rw[List.length_append,List.length_append] at hol;have hsl:s.text.length=pre.length+post.length:=by rw[h1,List.length_append]
   rcases BK (s:=s) (t:=k) (by omega) 3 with ⟨_,q⟩|⟨f,e,_⟩
   · exfalso;omega
   · rw[mW h.mode (c:=AS) (by simp only[AS];decide) ((congrArg (fun x=>gS x AS) (qj h2 hp)).trans ((FM r1).trans e)) h.mode]
     show s.text.take s.cur.toNat++k++s.text.drop s.cur.toNat=orig
     rw[h2,Int.toNat_natCast,h1,List.take_left,List.drop_left,h5]
theorem DP {s:MS}(h:KS orig s) (hne:s.text≠[]) (hr:s.ring.length<=1):(en (en s (tI 12)) (nL 1)).ring.length=s.ring.length+1:=by
 obtain⟨p,h1,h2,hv⟩:=h.pl
 have e0:gS s (tI 12)= { s with cur:=0,last:=0 }:=by
  have:gS s (tI 12)=gi s 12 1:=by
   unfold gS;rw[if_neg (by decide),if_pos (by decide)];rfl
  rw[this];unfold gi;rw[show cH 1=1 by decide,fQ];rfl
 have z:en s (tI 12)= { s with cur:=0,last:=0 }:=by
  rw[mW h.mode (c:=tI 12) (by simp only[tI];decide) ((congrArg (fun x=>gS x (tI 12)) (qj h1 h2)).trans e0) h.mode]
  show ({ s with cur:=(eE s.text 0:Nat),last:=0 }:MS)=_
  rw[An];rfl
 have hz:ew s.text 0:=.inl (rq hne);have hr1:=pM (s:=s.text) (a:=0) (List.length_pos_iff.2 hne);have ht:gD s.text (0:Nat) 1 1=cj s.text 0:=ia hz;rw[z];obtain⟨_,e⟩:=wK (s:= { s with cur:=0,last:=0 }) (p:=0) (r:=cj s.text 0) (w:=1) h.mode rfl hz hv (by decide) ht (mo hz) (by omega);rw[e]
 show (eM s.ring ((s.text.take (max (cj s.text 0) 0)).drop (min (cj s.text 0) 0)) (if (0:Int)=2 then (if 0<cj s.text 0 then 1 else -1) else 0)).length=_
 rw[if_neg (by decide),show max (cj s.text 0) 0=cj s.text 0 by omega,show min (cj s.text 0) 0=0 by omega,List.drop_zero]
 have hx:s.text.take (cj s.text 0)≠[]:=by
  intro q;have:=congrArg List.length q;rw[List.length_take,List.length_nil] at this;have:=List.length_pos_iff.2 hne;omega
 have key:∀(l:List By) (x:By),x≠[]->l.length<=1->(eM l x 0).length=l.length+1:=fun l x h1 h2=>by
  unfold eM;rw[if_neg h1];cases l with
  |nil=>rfl
  |cons a r =>
   simp only[Int.lt_irrefl,if_false];rw[List.length_take,List.length_cons,List.length_cons] at *;omega
 exact key _ _ hx hr
end
end Go.Proofs.YtiigijehmmcfgaaGreatDoor
namespace Go.Proofs.YtiigijehmmcfgaaGreatDoor
open Go Go.Lw
section
variable {x:Nd}{h:ay}{O:Nat->Prop}{cs:List Value}
def AV (s q:Nat):Nat:=(s >>> (64*q))%2 ^ 64
def eO (s q:Nat):Value:=.int .u64 (AV s q:Nat)
def uH (s:Nat):List Value:=[eO s 0,eO s 1,eO s 2,eO s 3]
theorem AU (s q:Nat):AV s q<18446744073709551616:=Nat.mod_lt _ (by decide)
theorem kQ (s q i:Nat):(AV s q).testBit i=(decide (i<64) && s.testBit (64*q+i)):=by
 unfold AV;rw[Nat.testBit_mod_two_pow,Nat.testBit_shiftRight]
theorem Ey (s b:Nat) (q:Nat) (h:q≠b / 64):AV (s |||(1 <<< b)) q=AV s q:=by
 apply Nat.eq_of_testBit_eq
 intro i;rw[kQ,kQ,Nat.testBit_or,Nat.one_shiftLeft,Nat.testBit_two_pow]
 by_cases hi:i<64
 · have:b≠64*q+i:=by omega
   simp[this]
 · simp[hi]
theorem Ex (s b:Nat):AV (s |||(1 <<< b)) (b / 64)=AV s (b / 64) ||| 2 ^ (b%64):=by
 apply Nat.eq_of_testBit_eq
 intro i;rw[kQ,Nat.testBit_or,Nat.testBit_or,kQ,Nat.one_shiftLeft,Nat.testBit_two_pow,Nat.testBit_two_pow]
 by_cases hi:i<64
 · have:(b=64*(b / 64)+i)↔(b%64=i):=by omega
   simp[hi,this]
 · have:¬b%64=i:=by omega
   simp[hi,this]
theorem nk {i:Int}(h:0<=i/\i<=18446744073709551615):IntKind.u64.wrap i=i:=by
 have h64:(2:Int) ^ 64=18446744073709551616:=rfl;simp only[IntKind.wrap,IntKind.bits,IntKind.signed,h64,Bool.false_and,Bool.false_eq_true,if_false];omega
theorem KX {x y:Nat}(hx:x<18446744073709551616) (hy:y<18446744073709551616):IntKind.u64.wrap ((BitVec.ofInt IntKind.u64.bits (x:Int) |||BitVec.ofInt IntKind.u64.bits (y:Int)).toNat:Int)=((x |||y:Nat):Int):=by
 have e:(BitVec.ofInt IntKind.u64.bits (x:Int) |||BitVec.ofInt IntKind.u64.bits (y:Int)).toNat=x |||y:=by
  rw[BitVec.toNat_or]
  have h1:(BitVec.ofInt IntKind.u64.bits (x:Int)).toNat=x:=by
   show (BitVec.ofInt 64 (x:Int)).toNat=x
   simp only[BitVec.toNat_ofInt];omega
  have h2:(BitVec.ofInt IntKind.u64.bits (y:Int)).toNat=y:=by
   show (BitVec.ofInt 64 (y:Int)).toNat=y
   simp only[BitVec.toNat_ofInt];omega
  rw[h1,h2]
 rw[e];have:x |||y<2 ^ 64:=Nat.or_lt_two_pow hx hy;exact nk ⟨by omega,by omega⟩
theorem Jq (b:Nat):IntKind.u64.wrap (1*2 ^ min ((b%64:Nat):Int).toNat IntKind.u64.bits)=((2 ^ (b%64):Nat):Int):=by
 have hb:b%64<64:=Nat.mod_lt _ (by decide);have h1:min ((b%64:Nat):Int).toNat IntKind.u64.bits=b%64:=by show min _ 64=_;simp;omega
 rw[h1,Int.one_mul];have h2:2 ^ (b%64)<2 ^ 64:=Nat.pow_lt_pow_right (by decide) hb;have h3:((2:Int) ^ (b%64))=((2 ^ (b%64):Nat):Int):=by push_cast;rfl
 rw[h3];generalize 2 ^ (b%64)=p at *;exact nk ⟨by omega,by omega⟩
theorem Ly {x:Nat}(hx:x<18446744073709551616):IntKind.u64.wrap ((BitVec.ofInt IntKind.u64.bits (x:Int) &&& BitVec.ofInt IntKind.u64.bits 1).toNat:Int)=((x%2:Nat):Int):=by
 have e:(BitVec.ofInt IntKind.u64.bits (x:Int) &&& BitVec.ofInt IntKind.u64.bits 1).toNat=x%2:=by
  rw[BitVec.toNat_and]
  have h1:(BitVec.ofInt IntKind.u64.bits (x:Int)).toNat=x:=by
   show (BitVec.ofInt 64 (x:Int)).toNat=x
   simp only[BitVec.toNat_ofInt];omega
  rw[h1]
  show x &&& 1=_
  exact Nat.and_one_is_mod x
 rw[e];exact nk ⟨by omega,by omega⟩
theorem Jp (x:Nat) (b:Nat) (hb:b<64):((x:Int)).fdiv (2 ^ min ((b:Nat):Int).toNat IntKind.u64.bits)=((x >>> b:Nat):Int):=by
 have h1:min ((b:Nat):Int).toNat IntKind.u64.bits=b:=by show min _ 64=_;simp;omega
 rw[h1,Nat.shiftRight_eq_div_pow];have h3:((2:Int) ^ b)=((2 ^ b:Nat):Int):=by push_cast;rfl
 rw[h3,Int.fdiv_eq_ediv_of_nonneg _ (Int.natCast_nonneg _)]
 push_cast;rfl
theorem Gs (s b:Nat):(AV s (b / 64) >>> (b%64))%2=(s.testBit b).toNat:=by
 have h:=kQ s (b / 64) (b%64);rw[show 64*(b / 64)+b%64=b from Nat.div_add_mod b 64] at h;have hb:b%64<64:=Nat.mod_lt _ (by decide);simp only[hb,decide_true,Bool.true_and] at h;rw[Nat.shiftRight_eq_div_pow,<-Nat.toNat_testBit,h]
def dX (k s:Nat) (v:Value):List Value:=[.int .i64 k,eO s 0,eO s 1,eO s 2,eO s 3,v]
inductive b6 (h:ay) (O:Nat->Prop):List Value->Nd->Prop
 |mk (k s:Nat) (kids:List Nd) (oa:Option Addr) (n c:Nat) (css:Nat->List Value) (hl:kids.length=n) (hc:n<=c) (hm:c<=maxLen)
  (hr:∀i x,kids[i]? =some x->∃b o,oa=some ⟨b,o,none⟩/\¬O b/\Lw.rowAt h b (o+i*6) (css i)) (hk:∀i x,kids[i]? =some x->b6 h O (css i) x):b6 h O (dX k s (.slice oa n c)) (.mk k s kids)
theorem b6.len (k:b6 h O cs x):cs.length=6:=by cases k;rfl
theorem b6.one (k:b6 h O cs x):∀v∈cs,v.oneCell'=true:=by
 cases k;intro v hv;simp[dX,eO] at hv
 rcases hv with rfl|rfl|rfl|rfl|rfl|rfl<;>rfl
theorem b6.mv {h':ay}{O':Nat->Prop}(k:b6 h O cs x) (m:Mv O O' h h'):b6 h' O' cs x:=by
 induction k with
 |mk k s kids oa n c css hl hc hm hr hk ih =>
  refine .mk k s kids oa n c css hl hc hm (fun i x hx=>?_) ih;obtain⟨b,o,ha,ho,hrow⟩:=hr i x hx;have hne:css i≠[]:=by intro e;have:=(hk i x hx).len;rw[e] at this;cases this
  exact⟨b,o,ha,(m.block b (iG hrow hne) ho).2,m.rowAt ho hrow⟩
def rS:iM Nd:=⟨6,by decide,b6,b6.len,b6.one,b6.mv⟩
theorem b6.av {h h':ay}{O:Nat->Prop}{cs:List Value}{x:Nd}(k:b6 h O cs x) (e:aD h h'):b6 h' O cs x:=k.mv (Mv.av e)
theorem b6.of {v:Value}{kids:List Nd}(k s:Nat) (hv:cq rS h O v kids):b6 h O (dX k s v) (.mk k s kids):=by
 obtain⟨oa,n,c,rfl,hl,hc,hm,hg⟩:=hv
 have hx:∀i,i<n->∃cs:List Value,∃x,kids[i]? =some x/\(∃b o,oa=some ⟨b,o,none⟩/\¬O b/\Lw.rowAt h b (o+i*6) cs)/\b6 h O cs x:=by
  intro i hi;obtain⟨b,o,cs,h1,h2,h3,h4⟩:=hg i kids[i] (List.getElem?_eq_getElem (by omega));exact⟨cs,kids[i],List.getElem?_eq_getElem (by omega),⟨b,o,h1,h2,h3⟩,h4⟩
 refine .mk k s kids oa n c (fun i=>if hi:i<n then Classical.choose (hx i hi) else []) hl hc hm (fun i x hxi=>?_) (fun i x hxi=>?_)
 · have hi:i<n:=by rw[<-hl];exact(List.getElem?_eq_some_iff.1 hxi).1
   simp only[dif_pos hi];obtain⟨y,_,h2,_⟩:=Classical.choose_spec (hx i hi);exact h2
 · have hi:i<n:=by rw[<-hl];exact(List.getElem?_eq_some_iff.1 hxi).1
   simp only[dif_pos hi];obtain⟨y,h1,_,h3⟩:=Classical.choose_spec (hx i hi);rw[h1] at hxi;cases hxi;exact h3
theorem b6.open (k:b6 h O cs x):∃v,cs=dX x.kind x.set v/\cq rS h O v x.kids:=by
 cases k with
 |mk k s kids oa n c css hl hc hm hr hk =>
  exact⟨_,rfl,oa,n,c,rfl,hl,hc,hm,fun i x hx=>by
   obtain⟨b,o,h1,h2,h3⟩:=hr i x hx;exact⟨b,o,css i,h1,h2,h3,hk i x hx⟩⟩
def bs (l:List UInt8):ByteArray:=⟨l.toArray⟩
theorem gJ (l:List UInt8):(bs l).data.toList=l:=by simp[bs]
theorem bf (l:List UInt8):(bs l).size=l.length:=by simp[bs,ByteArray.size]
theorem dQ (l m:List UInt8):bs l++bs m=bs (l++m):=by
 apply ByteArray.ext
 simp[bs]
theorem gK {l m:List UInt8}(h:bs l=bs m):l=m:=by have:=congrArg (fun x=>x.data.toList) h;simpa [bs] using this
theorem se {l:List UInt8}{i:Nat}{c:UInt8}(h:l[i]? =some c):(bs l).data[i]? =some c:=by simpa [bs] using h
theorem jN (l:List UInt8) (i:Nat):(bs l).extract i (bs l).size=bs (l.drop i):=by
 apply ByteArray.ext
 apply Array.ext'
 rw[ByteArray.data_extract,Array.toList_extract,List.extract_eq_take_drop];rw[bf];simp only[bs];exact List.take_of_length_le (by simp)
theorem fU (l:List UInt8) (i j:Nat) (_h:i<=j):(bs l).extract i j=bs ((l.take j).drop i):=by
 apply ByteArray.ext
 apply Array.ext'
 rw[ByteArray.data_extract,Array.toList_extract,List.extract_eq_take_drop];simp only[bs];rw[List.drop_take]
theorem Jm (c d:UInt8):decide (((c.toNat:Nat):Int)≠((d.toNat:Nat):Int))=decide (c≠d):=by
 rw[decide_eq_decide];exact⟨fun h e=>h (by rw[e]),fun h e=>h (UInt8.toNat_inj.1 (by omega))⟩
theorem dh {c:UInt8}{k:Nat}{d:UInt8}(hd:d.toNat=k):(((c.toNat:Nat):Int)=(k:Int))↔c=d:=by
 subst hd;exact⟨fun e=>UInt8.toNat_inj.1 (by omega),fun e=>by rw[e]⟩
end
end Go.Proofs.YtiigijehmmcfgaaGreatDoor

/- What the proof of the statement leans on (part 20). -/
import Derived.Lib.LastIndexLaws
import Derived.Test.YtiigijehmmcfgaaGreatDoorQs

namespace Go.Proofs.YtiigijehmmcfgaaGreatDoor
open Go
section
variable {B a:Nat}{l:List By}
structure MS where
 text:By
 cur:Int
 mode:Int
 mark:Int
 ring:List By
 hist:List By
 at_:Int
 draft:By
 last:Int
 from_:Int
 to_:Int
 query:By
 found:Int
 saved:By
 savedAt:Int
 was:Int
 lines:List By
 flags:List Bool
 bells:Int
structure Cm where
 kind:Int
 way:Int
 n:Int
 text:By
 incl:Bool
def jD (l:List By) (s:By) (way:Int):List By :=
 if s=[] then l
 else match l with
  |x::r=>if 0<way then ((x++s)::r).take 10 else if way<0 then ((s++x)::r).take 10 else (s::l).take 10
  | []=>[s]
def eG:List By->List By
 | []=>[]
 |x::r=>r++[x]
def fB (l:List By) (s:By):List By:=if s=[]\/l.getLast? =some s then l else (l++[s]).drop (l.length+1-100)
def lastOf (s t:By):Int:=Lib.lastIndex s t
def DB (l:List By) (t:By):Nat->Option (Int×Int)
 | 0=>none
 |n+1=>if 0<=lastOf (l.getD n []) t then some (n,lastOf (l.getD n []) t) else DB l t n
def Bu (l:List By) (t:By) (upto:Int):Option (Int×Int):=if t=[] then none else DB l t (if (l.length:Int)-1<upto then l.length else (upto+1).toNat)
def oN (b:Nat):Nat:=if b=40 then 41 else if b=91 then 93 else if b=123 then 125 else 0
def iI (s:By) (t:Tk):Nat:=if (t.1≠7/\t.1≠8)\/t.2.1<0\/(s.length:Int)<=t.2.1\/t.2.2-1≠t.2.1 then 0 else (s.getD t.2.1.toNat 0).toNat
def dc (s:By) (o:List Nat) (t:Tk):List Nat×Bool :=
 if iI s t=0 then (o,true) else if t.1=7 then (o++[t.2.1.toNat],true)
 else if o=[]\/oN (s.getD (o.getLastD 0) 0).toNat≠iI s t then (o,false) else (o.dropLast,true)
def tw (s:By):List Tk->List Nat->List Nat×Bool
 | [],o=>(o,true)
 |t::l,o=>if (dc s o t).2=true then tw s l (dc s o t).1 else (o,false)
def tr (s:By) (l:List Tk) (m:Int):Int:=if (tw s l []).2=false then 2 else if (tw s l []).1≠[]\/m≠0 then 1 else 0
def lz (s:By) (a:Int):List Tk->List Nat->List Nat
 | [],o=>o
 |t::l,o=>lz s a l (if t.2.2<=a then (dc s o t).1 else o)
def oH (s:By) (l:List Tk) (a:Int):Nat:=(lz s a l []).length
def cE (s:MS):MS:= { s with bells:=s.bells+1,last:=0 }
def cK (n:Int):Int:=min (max n 0) 1000
def cL (s:MS) (a:Nat) (t:By):MS×Bool :=
 if 16384-(s.text.length:Int)<t.length then (cE s,false) else ({ s with text:=s.text.take a++t++s.text.drop a,cur:=((a+t.length:Nat):Int) },true)
def eu (s:MS) (a b:Nat):MS:= { s with text:=s.text.take a++s.text.drop b,cur:=(a:Nat) }
def oh (t:By):Nat->By
 | 0=>[]
 |n+1=>t++oh t n
def ic (t:By) (n:Int):Option By:=if t≠[]/\((16384 / t.length:Nat):Int)<cK n then none else some (oh t (cK n).toNat)
def cW (s:MS) (t:By) (n last:Int):MS:=match ic t n with
 |none=>cE s
 |some x=>if (cL s s.cur.toNat x).2=false then (cL s s.cur.toNat x).1 else
  { (cL s s.cur.toNat x).1 with from_:=if last=1/\s.last=1/\s.to_=s.cur then s.from_ else s.cur,last:=last,to_:=(cL s s.cur.toNat x).1.cur }
def dY (s:MS) (c:Cm):Nat :=
 let a:=gK s.text s.cur c.way (cK c.n)
 let a:=if c.incl=true/\s.cur<=(a:Int)/\a<cY s.text a then gK s.text a 1 1 else a
 if (a:Int)=s.cur/\c.way=3/\c.kind=5/\0<c.n then gK s.text a 1 1 else a
def nR (s:MS) (a b:Nat) (ahead:Bool):MS:= { s with ring:=jD s.ring ((s.text.take b).drop a) (if s.last=2 then (if ahead=true then 1 else -1) else 0) }
def DF (s:MS) (c:Cm):MS :=
 let r:=dY s c
 let a:=min r s.cur.toNat
 let b:=max r s.cur.toNat
 if a=b then cE s
 else if c.kind=4 then { eu s a b with last:=0 }
 else if c.kind=5 then { eu (nR s a b (decide (s.cur<=(r:Int)))) a b with last:=2 }
 else { nR { s with last:=0 } a b (decide (s.cur<=(r:Int))) with cur:=(a:Nat) }
def gV (s:By):Nat->Nat->Nat
 | 0,b=>b
 |n+1,b=>if b<s.length then gV s n (cY s (b+1)) else b
def qz (s:MS) (c:Cm):MS :=
 let a:=bk s.text s.cur.toNat
 let b:=gV s.text ((cK c.n).toNat-1) (cY s.text s.cur.toNat)
 if a=b/\s.text=[] then cE s
 else
  let r:=jD s.ring ((s.text.take b).drop a++[10]) 0
  if c.kind=8 then { s with last:=0,ring:=r }
  else
   let b':=if b<s.text.length then b+1 else b
   let a':=if b<s.text.length then a else if 0<a then a-1 else a
   let t:=eu { s with last:=0,ring:=r } a' b'
   { t with cur:=(bk t.text a':Nat) }
def oZ (s:MS) (c:Cm):MS:=match s.ring with
 | []=>cE s
 |x::_ =>
  if c.kind=10/\s.cur.toNat<cY s.text s.cur.toNat then
   let t:=cW { s with cur:=(gK s.text s.cur 1 1:Nat) } x c.n 3
   if s.bells<t.bells then { t with cur:=s.cur } else t
  else cW s x c.n 3
def yZ (s:MS):MS :=
 if s.last≠3\/s.ring.length<2\/s.from_<0\/s.to_<s.from_\/(s.text.length:Int)<s.to_ then cE s
 else
  let t:=cL (eu { s with ring:=eG s.ring } s.from_.toNat s.to_.toNat) s.from_.toNat ((eG s.ring).headD [])
  if t.2=false then cE s else { t.1 with from_:=s.from_,to_:=t.1.cur }
def je (s:MS) (t:By):MS:= { s with text:=t,cur:=(t.length:Nat),mark:= -1,last:=0 }
def mI (s:MS):MS :=
 if tr s.text (jw s.text).1 (jw s.text).2.1=1 then
  { (cL s s.cur.toNat (10::List.replicate (2*min (oH s.text (jw s.text).1 s.cur) 20) 32)).1 with last:=0 }
 else
  je { s with lines:=s.lines++[s.text],flags:=s.flags++[decide (tr s.text (jw s.text).1 (jw s.text).2.1=2)],hist:=fB s.hist s.text,at_:=((fB s.hist s.text).length:Nat),draft:=[],mode:=if s.mode=0 then 0 else 1 } []
def jN (s:MS):MS :=
 if s.at_<=0\/(s.hist.length:Int)<s.at_ then cE s
 else je { s with draft:=if s.at_=(s.hist.length:Nat) then s.text else s.draft,at_:=s.at_-1 } (s.hist.getD (s.at_-1).toNat [])
def jO (s:MS):MS :=
 if s.at_<0\/(s.hist.length:Int)<=s.at_ then cE s
 else if s.at_+1=(s.hist.length:Nat) then je { s with at_:=s.at_+1 } s.draft
 else je { s with at_:=s.at_+1 } (s.hist.getD (s.at_+1).toNat [])
def gU (s:MS) (w n:Int):MS:= { s with cur:=(gK s.text s.cur w (cK n):Nat),last:=0 }
def mY (s:MS) (c:Cm):MS :=
 if c.kind=19/\bk s.text s.cur.toNat=0 then jN s
 else if c.kind=20/\cY s.text s.cur.toNat=s.text.length then jO s
 else if c.kind=19 then gU s 4 1 else gU s 5 1
def qm (s:MS):MS :=
 let a:=if s.cur=(s.text.length:Nat) then gK s.text s.cur 0 1 else s.cur.toNat
 let l:=gK s.text a 0 1
 let r:=gK s.text a 1 1
 if l=a\/r=a then cE s
 else { s with text:=s.text.take l++(s.text.take r).drop a++(s.text.take a).drop l++s.text.drop r,cur:=(r:Nat),last:=0 }
def ga (b:UInt8):UInt8:=if 97<=b/\b<=122 then b-32 else b
def dD (b:UInt8):UInt8:=if 65<=b/\b<=90 then b+32 else b
def jo (how:Int):By->Bool->By
 | [],_=>[]
 |c::l,met=>(if how=1\/(how=2/\met=false)\/(how=3/\c=dD c) then ga c else dD c)::jo how l (met ||decide (ga c≠dD c))
def nJ (s:MS) (b:Nat) (how:Int):MS:= { s with text:=s.text.take s.cur.toNat++jo how ((s.text.take b).drop s.cur.toNat) false++s.text.drop b,cur:=(b:Nat),last:=0 }
def Ak (s:MS) (c:Cm):MS:=if gK s.text s.cur 6 1=s.cur.toNat\/c.n<0\/2<c.n then cE s else nJ s (gK s.text s.cur 6 1) c.n
def iQ (s:By) (e:Nat):Nat->Nat->Nat
 | 0,b=>b
 |n+1,b=>iQ s e n (if b<e then gK s b 1 1 else b)
def mZ (s:MS) (n:Int):MS :=
 let b:=iQ s.text (cY s.text s.cur.toNat) (cK n).toNat s.cur.toNat
 if b=s.cur.toNat then cE s else nJ s b 3
def replaceM (s:MS) (t:By):MS :=
 if cY s.text s.cur.toNat<=s.cur.toNat then cE s
 else
  let r:=cL (eu s s.cur.toNat (gK s.text s.cur 1 1)) s.cur.toNat t
  if r.2=false then cE s else { r.1 with cur:=s.cur,last:=0 }
def gM (s:MS) (n:Int):MS :=
 if n<0\/3<n then cE s
 else
  let t:=if n=2/\s.mode=1/\bk s.text s.cur.toNat<s.cur.toNat then gU s 0 1 else s
  { t with mark:=if n=3 then t.cur else -1,mode:=n,last:=0 }
def ny (s:MS) (c:Cm):MS :=
 if s.mark<0\/(c.n≠1/\c.n≠2) then cE s
 else
  let m:=eC s.text s.mark
  let a:=min m s.cur.toNat
  let b:=gK s.text (max m s.cur.toNat:Nat) 1 1
  let t:= { s with ring:=jD s.ring ((s.text.take b).drop a) 0 }
  let t:=if c.kind=26 then eu t a b else t
  gM { t with cur:=(a:Nat) } c.n
def kM (s:MS) (t:By) (a:Int):MS:= { s with text:=t,cur:=(eC t a:Nat),last:=0 }
def lM (s:MS) (q:By) (upto:Int):MS :=
 if q=[] then kM { s with query:=[],found:=(s.hist.length:Nat) } s.saved s.savedAt
 else match Bu s.hist q upto with
  |none=>cE s
  |some (i,a)=>kM { s with query:=q,found:=i } (s.hist.getD i.toNat []) a
def kN (s:MS) (c:Cm):MS :=
 if c.kind=29 then (if 100<s.query.length+c.text.length then cE s else lM s (s.query++c.text) (min s.found ((s.hist.length:Int)-1)))
 else if c.kind=30 then lM s (s.query.take (fA s.query s.query.length)) ((s.hist.length:Int)-1)
 else if c.kind=31 then lM s s.query (max s.found 0-1)
 else if c.kind=32 then { s with mode:=s.was,at_:=(s.hist.length:Nat),draft:=[],last:=0 }
 else if c.kind=33 then kM { s with mode:=s.was } s.saved s.savedAt
 else cE s
def vT (s:MS) (c:Cm):MS :=
 let a:=if c.kind=16 then bk s.text s.cur.toNat else cY s.text s.cur.toNat
 let t:=cL s a [10]
 if t.2=false then cE s else gM { t.1 with cur:=if c.kind=15 then ((a+1:Nat):Int) else (a:Nat) } 1
def sU (s:MS) (c:Cm):MS :=
 if c.kind=14 then mI s
 else if c.kind=17 then jN s
 else if c.kind=18 then jO s
 else if c.kind=19\/c.kind=20 then mY s c
 else if c.kind=25 then gM s c.n
 else if c.kind=28 then { s with was:=s.mode,mode:=4,query:=[],found:=(s.hist.length:Nat),saved:=s.text,savedAt:=s.cur,last:=0 }
 else if c.kind=33 then cE { s with mark:= -1,mode:=if s.mode=3 then 2 else s.mode }
 else if c.kind=1 then cE s
 else s
def nV (s:MS) (c:Cm):MS :=
 if c.kind=2 then cW s c.text c.n 1
 else if c.kind=3 then gU s c.way c.n
 else if c.kind=4\/c.kind=5\/c.kind=6 then DF s c
 else if c.kind=7\/c.kind=8 then qz s c
 else if c.kind=9\/c.kind=10 then oZ s c
 else if c.kind=11 then yZ s
 else if c.kind=21 then qm s
 else if c.kind=22 then Ak s c
 else if c.kind=23 then mZ s c.n
 else if c.kind=24 then replaceM s c.text
 else if c.kind=15\/c.kind=16 then vT s c
 else if c.kind=26\/c.kind=27 then ny s c
 else sU s c
def fixC (s:MS):MS:= { s with cur:=(eC s.text s.cur:Nat) }
def Ba (s:MS) (c:Cm):MS:=if s.mode=4 then kN s c else nV s c
def Bx (t:MS):MS:=if t.mode=2/\t.cur.toNat=cY t.text t.cur.toNat/\bk t.text t.cur.toNat<t.cur.toNat then { t with cur:=(gK t.text t.cur 0 1:Nat) } else t
def fH (s:MS) (c:Cm):MS:=if c.kind<=0\/33<c.kind\/c.kind=12\/c.kind=13 then s else Bx (fixC (Ba (fixC s) c))
structure MI (B:Nat) (s:MS):Prop where
 text:s.text.length<=16384
 draft:s.draft.length<=16384
 saved:s.saved.length<=16384
 query:s.query.length<=100
 ring:∀x∈s.ring,x.length<=B
 ringn:s.ring.length<=10
 hist:∀x∈s.hist,x.length<=16384
 histn:s.hist.length<=100
 lines:∀x∈s.lines,x.length<=16384
 linesn:s.lines.length<=B
 flags:s.flags.length=s.lines.length
 at0:0<=s.at_
 at1:s.at_<=(s.hist.length:Nat)
 fnd0:0<=s.found
 fnd1:s.found<=100
 bell0:0<=s.bells
 bell1:s.bells<=B
def cJ (s:MS):Prop:=0<=s.cur/\s.cur<=(s.text.length:Nat)
structure dh (B:Nat) (s t:MS):Prop where
 inv:MI (B+20000) t
 bell:t.bells=s.bells\/(t.bells=s.bells+1/\t.text=s.text)
 lin:s.lines.length<=t.lines.length
theorem MI.up {C:Nat}{s:MS}(k:MI B s) (h:B<=C):MI C s :=
 { k with ring:=fun x hx=>Nat.le_trans (k.ring x hx) h,linesn:=Nat.le_trans k.linesn h,bell1:=by have:=k.bell1;omega }
theorem wv {s:MS}(k:MI B s):dh B s s:=⟨k.up (by omega),.inl rfl,Nat.le_refl _⟩
theorem bZ {s:MS}(k:MI B s):dh B s (cE s) :=
 ⟨{ k.up (C:=B+20000) (by omega) with bell0:=by have:=k.bell0;show 0<=s.bells+1;omega,bell1:=by have:=k.bell1;show s.bells+1<=_;omega },.inr ⟨rfl,rfl⟩,Nat.le_refl _⟩
theorem MI.of {s t:MS}(k:MI B s) (h1:t.text.length<=16384) (h2:t.draft=s.draft) (h3:t.saved=s.saved) (h4:t.query=s.query) (h5:t.ring=s.ring) (h6:t.hist=s.hist) (h7:t.lines=s.lines) (h8:t.flags=s.flags) (h9:t.at_=s.at_) (h10:t.found=s.found) (h11:t.bells=s.bells):MI B t:=by
 obtain⟨text,cur,mode,mark,ring,hist,at_,draft,last,from_,to_,query,found,saved,savedAt,was,lines,flags,bells⟩:=t;simp only at h1 h2 h3 h4 h5 h6 h7 h8 h9 h10 h11;subst h2 h3 h4 h5 h6 h7 h8 h9 h10 h11;exact⟨h1,k.draft,k.saved,k.query,k.ring,k.ringn,k.hist,k.histn,k.lines,k.linesn,k.flags,k.at0,k.at1,k.fnd0,k.fnd1,k.bell0,k.bell1⟩
theorem MI.ring' {C:Nat}{s:MS}(k:MI B s) (r:List By) (h1:∀x∈r,x.length<=C) (h2:r.length<=10) (h:B<=C):MI C { s with ring:=r } :=
 ⟨k.text,k.draft,k.saved,k.query,h1,h2,k.hist,k.histn,k.lines,Nat.le_trans k.linesn h,k.flags,k.at0,k.at1,k.fnd0,k.fnd1,k.bell0,by have:=k.bell1;show s.bells<=_;omega⟩
theorem pW {x:By}(way:Int) (h1:∀y∈l,y.length<=B) (h2:l.length<=10) (hx:x.length<=16385):(∀y∈jD l x way,y.length<=B+16385)/\(jD l x way).length<=10:=by
 unfold jD;split
 · exact⟨fun y hy=>by have:=h1 y hy;omega,h2⟩
 · cases l with
   |nil=>exact⟨fun y hy=>by rw[List.mem_singleton.1 hy];omega,by simp⟩
   |cons a r =>
    have ha:=h1 a List.mem_cons_self;have hr:∀y∈r,y.length<=B:=fun y hy=>h1 y (List.mem_cons_of_mem _ hy)
    simp only
    have key:∀(b:By) (q:List By),b.length<=B+16385->(∀y∈q,y.length<=B+16385)->(∀y∈(b::q).take 10,y.length<=B+16385)/\((b::q).take 10).length<=10:=fun b q hb hq=>⟨fun y hy=>by
     rcases List.mem_cons.1 (List.mem_of_mem_take hy) with rfl|hy
     · exact hb
     · exact hq y hy,by rw[List.length_take];omega⟩
    split
    · exact key _ _ (by rw[List.length_append];omega) (fun y hy=>by have:=hr y hy;omega)
    · split
      · exact key _ _ (by rw[List.length_append];omega) (fun y hy=>by have:=hr y hy;omega)
      · exact key _ _ (by omega) (fun y hy=>by have:=h1 y hy;omega)
theorem yz (h1:∀y∈l,y.length<=B) (h2:l.length<=10):(∀y∈eG l,y.length<=B)/\(eG l).length<=10:=by
 cases l with
 |nil=>exact⟨h1,h2⟩
 |cons a r =>
  refine⟨fun y hy=>?_,by simpa [eG] using h2⟩
  rcases List.mem_append.1 hy with hy|hy
  · exact h1 y (List.mem_cons_of_mem _ hy)
  · rw[List.mem_singleton.1 hy];exact h1 a List.mem_cons_self
theorem Fb {x:By}(h1:∀y∈l,y.length<=B) (h2:l.length<=100) (hx:x.length<=B):(∀y∈fB l x,y.length<=B)/\(fB l x).length<=100:=by
 unfold fB;split
 · exact⟨h1,h2⟩
 · refine⟨fun y hy=>?_,by rw[List.length_drop,List.length_append];simp only[List.length_cons,List.length_nil];omega⟩
   rcases List.mem_append.1 (List.mem_of_mem_drop hy) with hy|hy
   · exact h1 y hy
   · rw[List.mem_singleton.1 hy];exact hx
theorem kg (s:By) (a b:Nat) (n:Nat) (h:s.length<=n):((s.take b).drop a).length<=n:=by rw[List.length_drop,List.length_take];omega
theorem nq {s:MS}(k:MI B s) (ha:a<=s.text.length) (t:By):((cL s a t).2=false/\(cL s a t).1=cE s)\/((cL s a t).2=true/\MI B (cL s a t).1/\(cL s a t).1.bells=s.bells/\(cL s a t).1.lines=s.lines/\(cL s a t).1.cur=((a+t.length:Nat):Int)/\(cL s a t).1.text.length=s.text.length+t.length):=by
 have:=k.text;unfold cL;split
 · exact .inl ⟨rfl,rfl⟩
 · rename_i h
   have hl:(s.text.take a++t++s.text.drop a).length=s.text.length+t.length:=by
    rw[List.length_append,List.length_append,List.length_take,List.length_drop];omega
   exact .inr ⟨rfl,k.of (by show (s.text.take a++t++s.text.drop a).length<=_;omega) rfl rfl rfl rfl rfl rfl rfl rfl rfl rfl,rfl,rfl,rfl,hl⟩
theorem iq {s:MS}(k:MI B s){b:Nat}(h:a<=b):MI B (eu s a b) :=
 k.of (by have:=k.text;show (s.text.take a++s.text.drop b).length<=_;rw[List.length_append,List.length_take,List.length_drop];omega) rfl rfl rfl rfl rfl rfl rfl rfl rfl rfl
theorem oD {s:MS}(k:MI B s) (hc:cJ s) (t:By) (n last:Int):dh B s (cW s t n last):=by
 unfold cW;split
 · exact bZ k
 · rename_i x _
   rcases nq k (a:=s.cur.toNat) (by unfold cJ at hc;omega) x with ⟨h1,h2⟩|⟨h1,h2,h3,h4,h5,h6⟩
   · rw[if_pos h1,h2];exact bZ k
   · rw[if_neg (by rw[h1];simp)];exact⟨(h2.up (by omega)).of h2.text rfl rfl rfl rfl rfl rfl rfl rfl rfl rfl,.inl h3,by show _<=(cL s s.cur.toNat x).1.lines.length;rw[h4];exact Nat.le_refl _⟩
theorem C9 {s:MS}(c:Cm):dY s c<=s.text.length:=by
 unfold dY;exact eS (n5 _ _ _ _) (eS (n5 _ _ _ _) (n5 _ _ _ _))
theorem zQ {s:MS}(k:MI B s) (a b:Nat) (d:Bool):MI (B+16385) (nR s a b d):=by
 have:=pW (x:=(s.text.take b).drop a) (if s.last=2 then (if d=true then 1 else -1) else 0) k.ring k.ringn (by have:=kg s.text a b _ k.text;omega);exact k.ring' _ this.1 this.2 (by omega)
theorem Gz {s:MS}(k:MI B s) (c:Cm):dh B s (DF s c):=by
 unfold DF;simp only;have hab:min (dY s c) s.cur.toNat<=max (dY s c) s.cur.toNat:=by omega
 split
 · exact bZ k
 · split
   · exact⟨((iq k hab).up (by omega)).of (iq k hab).text rfl rfl rfl rfl rfl rfl rfl rfl rfl rfl,.inl rfl,Nat.le_refl _⟩
   · split
     · have h:=iq (zQ k (min (dY s c) s.cur.toNat) (max (dY s c) s.cur.toNat) (decide (s.cur<=(dY s c:Int)))) hab;exact⟨(h.up (by omega)).of h.text rfl rfl rfl rfl rfl rfl rfl rfl rfl rfl,.inl rfl,Nat.le_refl _⟩
     · have h:=zQ (k.of (t:= { s with last:=0 }) k.text rfl rfl rfl rfl rfl rfl rfl rfl rfl rfl) (min (dY s c) s.cur.toNat) (max (dY s c) s.cur.toNat) (decide (s.cur<=(dY s c:Int)));exact⟨(h.up (by omega)).of h.text rfl rfl rfl rfl rfl rfl rfl rfl rfl rfl,.inl rfl,Nat.le_refl _⟩
theorem qA {s:By}:∀(n b:Nat),b<=s.length->b<=gV s n b/\gV s n b<=s.length
 | 0,b,h=>⟨Nat.le_refl _,h⟩
 |n+1,b,h=>by
  rw[gV];split
  · rename_i q;have h1:=ig (s:=s) (a:=b+1) (by omega);have h2:=qA n (cY s (b+1)) h1.2;omega
  · omega
theorem Dn {s:MS}(k:MI B s) (hc:cJ s) (c:Cm):dh B s (qz s c):=by
 have hn:s.cur.toNat<=s.text.length:=by unfold cJ at hc;omega
 have h0:=eO s.text s.cur.toNat;have h1:=ig hn;have h2:=qA (s:=s.text) ((cK c.n).toNat-1) _ h1.2;have hk:=pW (x:=(s.text.take (gV s.text ((cK c.n).toNat-1) (cY s.text s.cur.toNat))).drop (bk s.text s.cur.toNat)++[10]) 0 k.ring k.ringn (by rw[List.length_append];have:=kg s.text (bk s.text s.cur.toNat) (gV s.text ((cK c.n).toNat-1) (cY s.text s.cur.toNat)) _ k.text;simp only[List.length_cons,List.length_nil];omega);have hr:=k.ring' (C:=B+16385) _ hk.1 hk.2 (by omega);unfold qz;simp only;split
 · exact bZ k
 · split
   · exact⟨(hr.up (by omega)).of k.text rfl rfl rfl rfl rfl rfl rfl rfl rfl rfl,.inl rfl,Nat.le_refl _⟩
   · generalize gV s.text ((cK c.n).toNat-1) (cY s.text s.cur.toNat)=b at *;generalize bk s.text s.cur.toNat=a at *;have hab:(if b<s.text.length then a else if 0<a then a-1 else a)<=(if b<s.text.length then b+1 else b):=by (repeat' split)<;>omega
     have h:=iq (hr.of (t:= { s with last:=0,ring:=jD s.ring ((s.text.take b).drop a++[10]) 0 }) k.text rfl rfl rfl rfl rfl rfl rfl rfl rfl rfl) hab;exact⟨(h.up (by omega)).of h.text rfl rfl rfl rfl rfl rfl rfl rfl rfl rfl,.inl rfl,Nat.le_refl _⟩
theorem Ea {s:MS}(k:MI B s) (hc:cJ s) (c:Cm):dh B s (oZ s c):=by
 unfold oZ;split
 · exact bZ k
 · rename_i x _ _;split
   · have h:=oD (k.of (t:= { s with cur:=(gK s.text s.cur 1 1:Nat) }) k.text rfl rfl rfl rfl rfl rfl rfl rfl rfl rfl) ⟨by show (0:Int)<=((gK s.text s.cur 1 1:Nat):Int);omega,by show ((gK s.text s.cur 1 1:Nat):Int)<=(s.text.length:Nat);have:=n5 s.text s.cur 1 1;omega⟩ x c.n 3;simp only;split
     · exact⟨h.inv.of h.inv.text rfl rfl rfl rfl rfl rfl rfl rfl rfl rfl,h.bell,h.lin⟩
     · exact⟨h.inv,h.bell,h.lin⟩
   · exact oD k hc x c.n 3
theorem Ga {s:MS}(k:MI B s):dh B s (yZ s):=by
 unfold yZ;split
 · exact bZ k
 · rename_i hn;have ht:=yz k.ring k.ringn;have hr:=k.ring' (C:=B) _ ht.1 ht.2 (Nat.le_refl _)
   have h1:s.from_.toNat<=s.to_.toNat/\s.to_.toNat<=s.text.length:=by
    simp only[not_or,Int.not_lt] at hn;omega
   have h2:=iq hr h1.1
   have hl:(eu { s with ring:=eG s.ring } s.from_.toNat s.to_.toNat).text.length=s.text.length-(s.to_.toNat-s.from_.toNat):=by
    show (s.text.take _++s.text.drop _).length=_
    rw[List.length_append,List.length_take,List.length_drop];omega
   simp only
   rcases nq h2 (a:=s.from_.toNat) (by omega) ((eG s.ring).headD []) with ⟨e1,e2⟩|⟨e1,e2,e3,e4,e5,e6⟩
   · rw[if_pos e1];exact bZ k
   · rw[if_neg (by rw[e1];simp)];exact⟨(e2.up (by omega)).of e2.text rfl rfl rfl rfl rfl rfl rfl rfl rfl rfl,.inl e3,by show _<=List.length (cL _ _ _).1.lines;rw[e4];exact Nat.le_refl _⟩
theorem DH {s:MS}(k:MI B s) (hc:cJ s):dh B s (mI s):=by
 unfold mI;split
 · rcases nq k (a:=s.cur.toNat) (by unfold cJ at hc;omega) (10::List.replicate (2*min (oH s.text (jw s.text).1 s.cur) 20) 32) with ⟨h1,h2⟩|⟨h1,h2,h3,h4,h5,h6⟩
   · rw[h2];have:=bZ k;exact⟨this.inv,this.bell,this.lin⟩
   · exact⟨(h2.up (by omega)).of h2.text rfl rfl rfl rfl rfl rfl rfl rfl rfl rfl,.inl h3,by show _<=List.length (cL _ _ _).1.lines;rw[h4];exact Nat.le_refl _⟩
 · have hh:=Fb k.hist k.histn k.text;refine⟨⟨by show ([]:By).length<=_;simp,by show ([]:By).length<=_;simp,k.saved,k.query,fun x hx=>Nat.le_trans (k.ring x hx) (by omega),k.ringn,hh.1,hh.2,fun x hx=>?_,?_,?_,by show (0:Int)<=((fB s.hist s.text).length:Nat);omega,Int.le_refl _,k.fnd0,k.fnd1,k.bell0,by have:=k.bell1;show s.bells<=_;omega⟩,.inl rfl,?_⟩
   · rcases List.mem_append.1 hx with hx|hx
     · exact k.lines x hx
     · rw[List.mem_singleton.1 hx];exact k.text
   · show (s.lines++[s.text]).length<=_
     have:=k.linesn;rw[List.length_append];simp only[List.length_cons,List.length_nil];omega
   · show (s.flags++[_]).length=(s.lines++[s.text]).length
     rw[List.length_append,List.length_append,k.flags];rfl
   · show _<=(s.lines++[s.text]).length
     rw[List.length_append];omega
theorem tS {n:Nat}(h:∀x∈l,x.length<=n) (i:Nat):(l.getD i []).length<=n:=by
 rw[List.getD_eq_getElem?_getD];cases q:l[i]? with
 |none=>simp
 |some x=>exact h x (List.mem_of_getElem? q)
theorem vU {s:MS}(k:MI B s):dh B s (jN s):=by
 unfold jN;split
 · exact bZ k
 · rename_i h;simp only[not_or,Int.not_le,Int.not_lt] at h;refine⟨⟨tS k.hist _,?_,k.saved,k.query,fun x hx=>Nat.le_trans (k.ring x hx) (by omega),k.ringn,k.hist,k.histn,k.lines,by have:=k.linesn;show s.lines.length<=_;omega,k.flags,by show 0<=s.at_-1;omega,by show s.at_-1<=(s.hist.length:Nat);omega,k.fnd0,k.fnd1,k.bell0,by have:=k.bell1;show s.bells<=_;omega⟩,.inl rfl,Nat.le_refl _⟩
   show (if s.at_=(s.hist.length:Nat) then s.text else s.draft).length<=_
   split
   · exact k.text
   · exact k.draft
theorem vY {s:MS}(k:MI B s):dh B s (jO s):=by
 have:=k.at0;unfold jO;split
 · exact bZ k
 · rename_i h;simp only[not_or,Int.not_le,Int.not_lt] at h;have key:∀t:By,t.length<=16384->dh B s (je { s with at_:=s.at_+1 } t):=fun t ht=>⟨⟨ht,k.draft,k.saved,k.query,fun x hx=>Nat.le_trans (k.ring x hx) (by omega),k.ringn,k.hist,k.histn,k.lines,by have:=k.linesn;show s.lines.length<=_;omega,k.flags,by show 0<=s.at_+1;omega,by show s.at_+1<=(s.hist.length:Nat);omega,k.fnd0,k.fnd1,k.bell0,by have:=k.bell1;show s.bells<=_;omega⟩,.inl rfl,Nat.le_refl _⟩
   split
   · exact key _ k.draft
   · exact key _ (tS k.hist _)
theorem j7 {s t:MS}(h:MI B t) (hb:t.bells=s.bells) (hl:t.lines=s.lines):dh B s t:=⟨h.up (by omega),.inl hb,by rw[hl];exact Nat.le_refl _⟩
theorem qv {s:MS}(k:MI B s) (w n:Int):dh B s (gU s w n):=j7 (k.of k.text rfl rfl rfl rfl rfl rfl rfl rfl rfl rfl) rfl rfl
theorem AF {s:MS}(k:MI B s) (c:Cm):dh B s (mY s c):=by
 unfold mY;split
 · exact vU k
 · split
   · exact vY k
   · split
     · exact qv k _ _
     · exact qv k _ _
theorem uA (how:Int):∀(l:By) (m:Bool),(jo how l m).length=l.length
 | [],_=>rfl
 |c::l,m=>by rw[jo,List.length_cons,List.length_cons,uA how l]
theorem yA {s:MS}(k:MI B s){b:Nat}(h:s.cur.toNat<=b) (hb:b<=s.text.length) (how:Int):dh B s (nJ s b how)/\(nJ s b how).text.length=s.text.length:=by
 have hl:(nJ s b how).text.length=s.text.length:=by
  show (s.text.take s.cur.toNat++jo how _ false++s.text.drop b).length=_
  rw[List.length_append,List.length_append,uA,List.length_drop,List.length_drop,List.length_take,List.length_take];omega
 exact⟨j7 (k.of (by rw[hl];exact k.text) rfl rfl rfl rfl rfl rfl rfl rfl rfl rfl) rfl rfl,hl⟩
theorem Ei (s:By) (w:Int) (a:Nat):Ek s w 1 a=ko s a w:=by
 rw[Ek];split
 · rename_i e;rw[e]
 · rfl
theorem hU (s:By) (a w:Int):gK s a w 1=ko s (eC s a) w:=by
 unfold gK;rw[show (min (max (1:Int) 0) 1000).toNat=1 by decide,Ei]
theorem Co {a:Int}:∀(l:List Nat) (o:Nat),(∀k∈l,a<(k:Nat))->l.foldl (fun(o k:Nat)=>if (k:Int)<=a then k else o) o=o
 | [],_,_=>rfl
 |x::l,o,h=>by
  rw[List.foldl_cons,if_neg (by have:=h x List.mem_cons_self;omega)];exact Co l o fun k hk=>h k (List.mem_cons_of_mem _ hk)
theorem wA:∀(n:Nat) (l:By) (a o c:Nat),c∈bH n l a->(bH n l a).foldl (fun(o k:Nat)=>if (k:Int)<=(c:Nat) then k else o) o=c
 | 0,_,_,_,_,h=>by simp[bH] at h
 |n+1,l,a,o,c,h=>by
  rw[bH] at h ⊢;split at h
  · simp at h
  · rename_i hl;have hr:=dm hl;rw[if_neg hl,List.foldl_cons]
    rcases List.mem_cons.1 h with rfl|h
    · rw[if_pos (by omega)];exact Co _ _ fun k hk=>by have:=eD _ _ _ _ hk;omega
    · exact wA n _ _ _ c h
theorem nA {s:By}(h:jx s a):eC s a=a:=by
 unfold eC
 rcases h with h|h
 · have:=fT h;rw[if_neg (by omega)];exact wA _ _ _ _ _ h
 · rw[if_pos (by omega),h]
theorem yU {s:By}(h:jx s a):jx s (cQ s a):=by
 unfold cQ
 rcases h with h|h
 · have:=fT h;rw[if_neg (by omega)];exact(qT h).1
 · rw[if_pos (by omega)];exact .inr h
theorem Cn {a:Int}:∀(l:List Nat) (o:Nat),(o:Int)<=a->((l.foldl (fun(o k:Nat)=>if (k:Int)<=a then k else o) o:Nat):Int)<=a
 | [],_,h=>h
 |x::l,o,h=>by
  rw[List.foldl_cons];refine Cn l _ ?_;split
  · assumption
  · exact h
theorem DD (s:By) (a:Nat):eC s a<=a:=by
 unfold eC;split
 · omega
 · have:=Cn (a:=(a:Int)) (cq s) 0 (by omega);omega
theorem Cl {a:Int}{c:Nat}(hc:(c:Int)<=a):∀(n:Nat) (l:By) (b o:Nat),c∈bH n l b->c<=(bH n l b).foldl (fun(o k:Nat)=>if (k:Int)<=a then k else o) o
 | 0,_,_,_,h=>by simp[bH] at h
 |n+1,l,b,o,h=>by
  rw[bH] at h ⊢;split at h
  · simp at h
  · rename_i hl;have hr:=dm hl;rw[if_neg hl,List.foldl_cons]
    rcases List.mem_cons.1 h with rfl|h
    · rw[if_pos hc]
      rcases xS (bH n (l.drop (bw l)) (c+bw l)) a c (fun _ h=>h) with q|q
      · have:=eD _ _ _ _ q;omega
      · omega
    · exact Cl hc n _ _ _ h
theorem Fk {s:By}{c:Nat}{a:Int}(h:jx s c) (ha:(c:Int)<=a):c<=eC s a:=by
 unfold eC;split
 · exact lJ h
 · rcases h with h|h
   · exact Cl ha _ _ _ _ h
   · omega
def iE (s:MS):Prop:=∃c:Nat,s.cur=(c:Nat)/\jx s.text c
theorem iE.ok {s:MS}(h:iE s):cJ s:=by
 obtain⟨c,h1,h2⟩:=h;have:=lJ h2;unfold cJ;omega
theorem Fe {s:By}(h:jx s a):a<=gK s a 6 1/\gK s a 6 1<=s.length:=by
 rw[hU,nA h];have e:ko s a 6=cX CK s (cX rR s a):=rfl;rw[e];have h1:=fK (so:=rR) (lJ h);have h2:=fK (so:=CK) h1.2;omega
theorem iZ {s:By}(h:jx s a):gK s a 1 1=cQ s a:=by rw[hU,nA h];rfl
theorem CO {s:MS}(k:MI B s) (hc:iE s):dh B s (qm s):=by
 obtain⟨p,h1,h2⟩:=hc;unfold qm;simp only
 have hpa:jx s.text (if s.cur=(s.text.length:Nat) then gK s.text s.cur 0 1 else s.cur.toNat):=by
  split
  · rw[hU];exact xD (gC _ _)
  · rw[h1];exact h2
 generalize (if s.cur=(s.text.length:Nat) then gK s.text s.cur 0 1 else s.cur.toNat)=a at hpa ⊢;have e1:gK s.text a 0 1=fA s.text a:=by rw[hU,nA hpa];rfl
 rw[e1,iZ hpa];split
 · exact bZ k
 · refine j7 (k.of ?_ rfl rfl rfl rfl rfl rfl rfl rfl rfl rfl) rfl rfl;have q1:=mB s.text a;have q2:=dO (lJ hpa);have:=k.text
   show (s.text.take _++(s.text.take _).drop a++(s.text.take a).drop _++s.text.drop _).length<=_
   simp only[List.length_append,List.length_take,List.length_drop];omega
theorem FB {s:MS}(k:MI B s) (hc:iE s) (c:Cm):dh B s (Ak s c):=by
 obtain⟨p,h1,h2⟩:=hc;unfold Ak;split
 · exact bZ k
 · rw[h1];have:=Fe h2;exact(yA k (by rw[h1];exact this.1) this.2 _).1
theorem nZ {s:By}{e:Nat}:∀(n b:Nat),jx s b->jx s (iQ s e n b)/\b<=iQ s e n b
 | 0,_,h=>⟨h,Nat.le_refl _⟩
 |n+1,b,h=>by
  rw[iQ];split
  · rw[iZ h];have h1:=nZ (e:=e) n _ (yU h);have h2:=dO (lJ h);exact⟨h1.1,by omega⟩
  · exact nZ n b h
theorem AH {s:MS}(k:MI B s) (hc:iE s) (n:Int):dh B s (mZ s n):=by
 obtain⟨p,h1,h2⟩:=hc;have h3:=nZ (e:=cY s.text p) (cK n).toNat p h2;unfold mZ;simp only[h1,Int.toNat_natCast];split
 · exact bZ k
 · exact(yA k (by rw[h1];exact h3.2) (lJ h3.1) _).1
theorem yV {s:MS}(k:MI B s) (hc:iE s) (t:By):dh B s (replaceM s t):=by
 obtain⟨p,h1,h2⟩:=hc;have hp:=lJ h2;have hr:=dO hp;unfold replaceM;simp only[h1,Int.toNat_natCast];split
 · exact bZ k
 · rw[iZ h2];have hk:=iq k hr.1;have hl:p<=(eu s p (cQ s.text p)).text.length:=by show _<=(s.text.take p++_).length;rw[List.length_append,List.length_take];omega
   rcases nq hk hl t with ⟨e1,e2⟩|⟨e1,e2,e3,e4,e5,e6⟩
   · rw[if_pos e1];exact bZ k
   · rw[if_neg (by rw[e1];simp)];exact⟨(e2.up (by omega)).of e2.text rfl rfl rfl rfl rfl rfl rfl rfl rfl rfl,.inl e3,by show _<=List.length (cL _ _ _).1.lines;rw[e4];exact Nat.le_refl _⟩
theorem tf {s:MS}(k:MI B s) (n:Int):dh B s (gM s n)/\((0<=n/\n<=3)->MI B (gM s n)/\(gM s n).bells=s.bells/\(gM s n).text=s.text/\(gM s n).lines=s.lines):=by
 unfold gM;split
 · exact⟨bZ k,fun h=>by omega⟩
 · have key:∀t:MS,MI B t->t.bells=s.bells->t.lines=s.lines->t.text=s.text->(dh B s { t with mark:=if n=3 then t.cur else -1,mode:=n,last:=0 }/\((0<=n/\n<=3)->MI B { t with mark:=if n=3 then t.cur else -1,mode:=n,last:=0 }/\t.bells=s.bells/\t.text=s.text/\t.lines=s.lines)):=fun t h1 h2 h3 h4=>by
    have q:=h1.of (t:= { t with mark:=if n=3 then t.cur else -1,mode:=n,last:=0 }) h1.text rfl rfl rfl rfl rfl rfl rfl rfl rfl rfl;exact⟨j7 q h2 h3,fun _=>⟨q,h2,h4,h3⟩⟩
   simp only;split
   · exact key (gU s 0 1) (k.of k.text rfl rfl rfl rfl rfl rfl rfl rfl rfl rfl) rfl rfl rfl
   · exact key s k rfl rfl rfl
theorem Bc {s:MS}(k:MI B s) (c:Cm):dh B s (ny s c):=by
 unfold ny;split
 · exact bZ k
 · rename_i hn;simp only;generalize hm:eC s.text s.mark=m;have hab:min m s.cur.toNat<=gK s.text (max m s.cur.toNat:Nat) 1 1\/True:=.inr trivial;have hkl:=pW (x:=(s.text.take (gK s.text (max m s.cur.toNat:Nat) 1 1)).drop (min m s.cur.toNat)) 0 k.ring k.ringn (by have:=kg s.text (min m s.cur.toNat) (gK s.text (max m s.cur.toNat:Nat) 1 1) _ k.text;omega);have hr:=k.ring' (C:=B+16385) _ hkl.1 hkl.2 (by omega);have hml:=jE s.text s.mark
   have hab:min m s.cur.toNat<=gK s.text (max m s.cur.toNat:Nat) 1 1:=by
    rw[hU]
    have h1:min m s.cur.toNat<=eC s.text ((max m s.cur.toNat:Nat):Int):=by
     have hpl:jx s.text m:=by rw[<-hm];exact gC _ _
     have h2:=Fk (s:=s.text) (c:=m) (a:=((max m s.cur.toNat:Nat):Int)) hpl (by omega);omega
    have h2:=dO (s:=s.text) (a:=eC s.text ((max m s.cur.toNat:Nat):Int)) (jE _ _);have e:ko s.text (eC s.text ((max m s.cur.toNat:Nat):Int)) 1=cQ s.text (eC s.text ((max m s.cur.toNat:Nat):Int)):=rfl;rw[e];omega
   generalize hb:gK s.text ((max m s.cur.toNat:Nat):Int) 1 1=b at *;generalize ha:min m s.cur.toNat=a at *;have hn2:0<=c.n/\c.n<=3:=by omega
   have key:∀t:MS,MI (B+16385) t->t.bells=s.bells->t.lines=s.lines->dh B s (gM { t with cur:=(a:Nat) } c.n):=fun t h1 h2 h3=>by
    obtain⟨q1,q2,_,q4⟩:=(tf (h1.of (t:= { t with cur:=(a:Nat) }) h1.text rfl rfl rfl rfl rfl rfl rfl rfl rfl rfl) c.n).2 hn2;exact⟨q1.up (by omega),.inl (by rw[q2];exact h2),by rw[q4];show _<=t.lines.length;rw[h3];exact Nat.le_refl _⟩
   split
   · exact key _ (iq hr hab) rfl rfl
   · exact key _ hr rfl rfl
theorem EJ {s:MS}(k:MI B s) (hc:cJ s) (c:Cm):dh B s (vT s c):=by
 have hn:s.cur.toNat<=s.text.length:=by unfold cJ at hc;omega
 unfold vT;simp only;generalize ha:(if c.kind=16 then bk s.text s.cur.toNat else cY s.text s.cur.toNat)=a;have hal:a<=s.text.length:=by rw[<-ha];exact eS (eO _ _).2 (ig hn).2
 rcases nq k hal [10] with ⟨e1,e2⟩|⟨e1,e2,e3,e4,e5,e6⟩
 · rw[if_pos e1];exact bZ k
 · rw[if_neg (by rw[e1];simp)];obtain⟨q1,q2,_,q4⟩:=(tf (e2.of (t:= { (cL s a [10]).1 with cur:=if c.kind=15 then ((a+1:Nat):Int) else (a:Nat) }) e2.text rfl rfl rfl rfl rfl rfl rfl rfl rfl rfl) 1).2 ⟨by decide,by decide⟩;exact⟨q1.up (by omega),.inl (by rw[q2];exact e3),by rw[q4];show _<=List.length (cL _ _ _).1.lines;rw[e4];exact Nat.le_refl _⟩
theorem zY {l:List By}{t:By}:∀(n:Nat){i a:Int},n<=l.length->DB l t n=some (i,a)->0<=i/\i<(l.length:Nat)
 | 0,_,_,_,h=>by cases h
 |n+1,i,a,hn,h=>by
  rw[DB] at h;split at h
  · cases h;omega
  · exact zY n (by omega) h
theorem Cq {t:By}{u i a:Int}(h:Bu l t u=some (i,a)):0<=i/\i<(l.length:Nat):=by
 unfold Bu at h;split at h
 · cases h
 · refine zY _ ?_ h;split<;>omega
theorem tu {s:MS}(k:MI B s){q:By}(hq:q.length<=100) (u:Int):dh B s (lM s q u):=by
 have key:∀(q:By) (f:Int) (t:By) (a:Int),q.length<=100->0<=f->f<=100->t.length<=16384->dh B s (kM { s with query:=q,found:=f } t a):=fun q f t a h1 h2 h3 h4 =>
  ⟨⟨h4,k.draft,k.saved,h1,fun x hx=>Nat.le_trans (k.ring x hx) (by omega),k.ringn,k.hist,k.histn,k.lines,by have:=k.linesn;show s.lines.length<=_;omega,k.flags,k.at0,k.at1,h2,h3,k.bell0,by have:=k.bell1;show s.bells<=_;omega⟩,.inl rfl,Nat.le_refl _⟩
 have hh:=k.histn;unfold lM;split
 · exact key [] _ _ _ (by simp) (by omega) (by omega) k.saved
 · split
   · exact bZ k
   · rename_i i a e;have:=Cq e;exact key q i _ _ hq (by omega) (by omega) (tS k.hist _)
theorem AR {s:MS}(k:MI B s) (c:Cm):dh B s (kN s c):=by
 unfold kN;split
 · split
   · exact bZ k
   · exact tu k (by rw[List.length_append];omega) _
 · split
   · exact tu k (by have:=k.query;rw[List.length_take];omega) _
   · split
     · exact tu k k.query _
     · split
       · exact⟨⟨k.text,by show ([]:By).length<=_;simp,k.saved,k.query,fun x hx=>Nat.le_trans (k.ring x hx) (by omega),k.ringn,k.hist,k.histn,k.lines,by have:=k.linesn;show s.lines.length<=_;omega,k.flags,by show (0:Int)<=(s.hist.length:Nat);omega,Int.le_refl _,k.fnd0,k.fnd1,k.bell0,by have:=k.bell1;show s.bells<=_;omega⟩,.inl rfl,Nat.le_refl _⟩
       · split
         · exact j7 (k.of (t:=kM { s with mode:=s.was } s.saved s.savedAt) k.saved rfl rfl rfl rfl rfl rfl rfl rfl rfl rfl) rfl rfl
         · exact bZ k
theorem Dd {s:MS}(k:MI B s) (hc:cJ s) (c:Cm):dh B s (sU s c):=by
 have hh:=k.histn;unfold sU;split
 · exact DH k hc
 · split
   · exact vU k
   · split
     · exact vY k
     · split
       · exact AF k c
       · split
         · exact(tf k _).1
         · split
           · exact⟨⟨k.text,k.draft,k.text,by show ([]:By).length<=_;simp,fun x hx=>Nat.le_trans (k.ring x hx) (by omega),k.ringn,k.hist,k.histn,k.lines,by have:=k.linesn;show s.lines.length<=_;omega,k.flags,k.at0,k.at1,by show (0:Int)<=(s.hist.length:Nat);omega,by show ((s.hist.length:Nat):Int)<=100;omega,k.bell0,by have:=k.bell1;show s.bells<=_;omega⟩,.inl rfl,Nat.le_refl _⟩
           · split
             · have:=bZ (k.of (t:= { s with mark:= -1,mode:=if s.mode=3 then 2 else s.mode }) k.text rfl rfl rfl rfl rfl rfl rfl rfl rfl rfl);exact⟨this.inv,this.bell,this.lin⟩
             · split
               · exact bZ k
               · exact wv k
theorem kB {s x y:MS}{c:Prop}[Decidable c] (h1:dh B s x) (h2:dh B s y):dh B s (if c then x else y):=by split<;>assumption
theorem Fu {s:MS}(k:MI B s) (hc:iE s) (c:Cm):dh B s (nV s c):=by
 have ho:=hc.ok;unfold nV;exact kB (oD k ho _ _ _) (kB (qv k _ _) (kB (Gz k c) (kB (Dn k ho c) (kB (Ea k ho c) (kB (Ga k) (kB (CO k hc) (kB (FB k hc c) (kB (AH k hc _) (kB (yV k hc _) (kB (EJ k ho c) (kB (Bc k c) (Dd k ho c))))))))))))
theorem Gy (s:MS):iE (fixC s):=⟨_,rfl,gC _ _⟩
theorem MI.cur {B:Nat}{s:MS}(k:MI B s) (n:Int):MI B { s with cur:=n }:=k.of k.text rfl rfl rfl rfl rfl rfl rfl rfl rfl rfl
theorem Cj {s:MS}(k:MI B s) (c:Cm):dh B s (Ba (fixC s) c):=by
 unfold Ba;refine kB ?_ ?_
 · have:=AR (k.cur (eC s.text s.cur:Nat)) c;exact⟨this.inv,this.bell,this.lin⟩
 · have:=Fu (k.cur (eC s.text s.cur:Nat)) (Gy s) c;exact⟨this.inv,this.bell,this.lin⟩
theorem DW {s:MS}(k:MI B s) (hc:iE s) (c:Cm):dh B s (fH s c)/\iE (fH s c):=by
 unfold fH;split
 · exact⟨wv k,hc⟩
 · have h1:=Cj k c;generalize Ba (fixC s) c=t at h1;unfold Bx;split
   · refine⟨⟨h1.inv.cur _,h1.bell,h1.lin⟩,_,rfl,?_⟩
     show jx t.text (gK t.text _ 0 1)
     rw[hU];exact xD (gC _ _)
   · exact⟨⟨h1.inv.cur _,h1.bell,h1.lin⟩,_,rfl,gC _ _⟩
def iS:MS:=⟨[],0,0,-1,[],[],0,[],0,0,0,[],0,[],0,0,[],[],0⟩
theorem tZ (s:By):eC s 0=0:=Nat.le_zero.1 (DD s 0)
theorem EB (t:By):oh t 1=t:=by rw[oh,oh,List.append_nil]
theorem AW {t:By}(h:t.length<=16384):ic t 1=some t:=by
 unfold ic;rw[if_neg,show (cK 1).toNat=1 by decide,EB];rintro⟨h1,h2⟩;have hp:=List.length_pos_iff.2 h1;have:1<=16384 / t.length:=(Nat.le_div_iff_mul_le hp).2 (by omega);rw[show cK 1=1 by decide] at h2;omega
theorem Bp {s:MS}{t:By}(h:t.length<=16384) (last:Int):(cW s t 1 last=cE s/\16384-(s.text.length:Int)<t.length) \/
 (∃f,cW s t 1 last= { s with text:=s.text.take s.cur.toNat++t++s.text.drop s.cur.toNat,cur:=((s.cur.toNat+t.length:Nat):Int),from_:=f,last:=last,to_:=((s.cur.toNat+t.length:Nat):Int) }/\¬16384-(s.text.length:Int)<t.length):=by
 unfold cW;rw[AW h];simp only
 by_cases q:16384-(s.text.length:Int)<t.length
 · have hp:cL s s.cur.toNat t=(cE s,false):=by unfold cL;rw[if_pos q]
   rw[hp];exact .inl ⟨if_pos rfl,q⟩
 · have hp:cL s s.cur.toNat t=({ s with text:=s.text.take s.cur.toNat++t++s.text.drop s.cur.toNat,cur:=((s.cur.toNat+t.length:Nat):Int) },true):=by unfold cL;rw[if_neg q]
   rw[hp,if_neg (by simp)];exact .inr ⟨_,rfl,q⟩
theorem rT {s t:MS}{c:Cm}(hm:s.mode=0) (hk:¬(c.kind<=0\/33<c.kind\/c.kind=12\/c.kind=13)) (he:nV (fixC s) c=t) (h2:t.mode=0):fH s c=fixC t:=by
 unfold fH Ba Bx;rw[if_neg hk,if_neg (show ¬(fixC s).mode=4 by show ¬s.mode=4;rw[hm];decide),he,if_neg];rintro⟨q,_⟩;have q:t.mode=2:=q;rw[h2] at q;exact absurd q (by decide)
def Fa (t:By):Cm:=⟨2,0,1,t,false⟩
def Eb:Cm:=⟨9,0,1,[],false⟩
theorem Fg (full t:By) (ht:t.length<=200):∀c:Cm,c=Fa t\/c=Eb ->
 (t.length<=16384-(full.length:Int)->(fH { iS with text:=full,ring:=[t] } c).text=t++full/\(fH { iS with text:=full,ring:=[t] } c).bells=0) /\
 (¬t.length<=16384-(full.length:Int)->(fH { iS with text:=full,ring:=[t] } c).text=full/\(fH { iS with text:=full,ring:=[t] } c).bells=1/\(fH { iS with text:=full,ring:=[t] } c).cur=0):=by
 have e0:fixC { iS with text:=full,ring:=[t] } = { iS with text:=full,ring:=[t] }:=by
  show ({ iS with text:=full,ring:=[t],cur:=(eC full 0:Nat) }:MS)=_
  rw[tZ];rfl
 intro c hc
 have he:∃l,nV { iS with text:=full,ring:=[t] } c=cW { iS with text:=full,ring:=[t] } t 1 l:=by
  rcases hc with rfl|rfl
  · exact⟨1,rfl⟩
  · refine⟨3,?_⟩;unfold nV;rw[if_neg (by decide),if_neg (by decide),if_neg (by decide),if_neg (by decide),if_pos (by decide)];unfold oZ;simp only;rw[if_neg (by rintro⟨q,_⟩;exact absurd q (by decide))];rfl
 obtain⟨l,he⟩:=he;have hk:¬(c.kind<=0\/33<c.kind\/c.kind=12\/c.kind=13):=by rcases hc with rfl|rfl<;>(simp only[Fa,Eb];decide)
 rcases Bp (s:= { iS with text:=full,ring:=[t] }) (t:=t) (by omega) l with ⟨e,q⟩|⟨f,e,q⟩
 · rw[rT (s:= { iS with text:=full,ring:=[t] }) rfl hk (by rw[e0,he,e]) rfl];refine⟨fun h=>?_,fun _=>⟨rfl,rfl,?_⟩⟩
   · exfalso;have q:16384-(full.length:Int)<t.length:=q;omega
   · show ((eC full 0:Nat):Int)=0
     rw[tZ];rfl
 · rw[rT (s:= { iS with text:=full,ring:=[t] }) rfl hk (by rw[e0,he,e]) rfl];exact⟨fun _=>⟨rfl,rfl⟩,fun h=>absurd (by have q:¬16384-(full.length:Int)<t.length:=q;omega) h⟩
inductive Ki:By->Prop
 |nil:Ki []
 |cons {l:By}:l≠[]->(2<=bw l\/(l.getD 0 0).toNat<128)->Ki (l.drop (bw l))->Ki l
structure KS (orig:By) (s:MS):Prop where
 mode:s.mode=0
 len:orig.length<=200
 parts:∃pre post k:By,s.text=pre++post/\s.cur=(pre.length:Nat)/\Ki pre/\Ki post/\orig=pre++k++post/\((s.ring=[]/\s.last=0/\k=[])\/(s.ring=[k]/\s.last=2))
end
end Go.Proofs.YtiigijehmmcfgaaGreatDoor
namespace Go.Proofs.YtiigijehmmcfgaaGreatDoor
open Go Go.Lw
section
variable {x:Nd}{h:ay}{O:Nat->Prop}{cs:List Value}
def AB (s q:Nat):Nat:=(s >>> (64*q))%2 ^ 64
def eK (s q:Nat):Value:=.int .u64 (AB s q:Nat)
def uo (s:Nat):List Value:=[eK s 0,eK s 1,eK s 2,eK s 3]
theorem AA (s q:Nat):AB s q<18446744073709551616:=Nat.mod_lt _ (by decide)
theorem kJ (s q i:Nat):(AB s q).testBit i=(decide (i<64) && s.testBit (64*q+i)):=by
 unfold AB;rw[Nat.testBit_mod_two_pow,Nat.testBit_shiftRight]
theorem Ed (s b:Nat) (q:Nat) (h:q≠b / 64):AB (s |||(1 <<< b)) q=AB s q:=by
 apply Nat.eq_of_testBit_eq
 intro i;rw[kJ,kJ,Nat.testBit_or,Nat.one_shiftLeft,Nat.testBit_two_pow]
 by_cases hi:i<64
 · have:b≠64*q+i:=by omega
   simp[this]
 · simp[hi]
theorem Ec (s b:Nat):AB (s |||(1 <<< b)) (b / 64)=AB s (b / 64) ||| 2 ^ (b%64):=by
 apply Nat.eq_of_testBit_eq
 intro i;rw[kJ,Nat.testBit_or,Nat.testBit_or,kJ,Nat.one_shiftLeft,Nat.testBit_two_pow,Nat.testBit_two_pow]
 by_cases hi:i<64
 · have:(b=64*(b / 64)+i)↔(b%64=i):=by omega
   simp[hi,this]
 · have:¬b%64=i:=by omega
   simp[hi,this]
theorem mX {i:Int}(h:0<=i/\i<=18446744073709551615):IntKind.u64.wrap i=i:=by
 have h64:(2:Int) ^ 64=18446744073709551616:=rfl;simp only[IntKind.wrap,IntKind.bits,IntKind.signed,h64,Bool.false_and,Bool.false_eq_true,if_false];omega
theorem KA {x y:Nat}(hx:x<18446744073709551616) (hy:y<18446744073709551616):IntKind.u64.wrap ((BitVec.ofInt IntKind.u64.bits (x:Int) |||BitVec.ofInt IntKind.u64.bits (y:Int)).toNat:Int)=((x |||y:Nat):Int):=by
 have e:(BitVec.ofInt IntKind.u64.bits (x:Int) |||BitVec.ofInt IntKind.u64.bits (y:Int)).toNat=x |||y:=by
  rw[BitVec.toNat_or]
  have h1:(BitVec.ofInt IntKind.u64.bits (x:Int)).toNat=x:=by
   show (BitVec.ofInt 64 (x:Int)).toNat=x
   simp only[BitVec.toNat_ofInt];omega
  have h2:(BitVec.ofInt IntKind.u64.bits (y:Int)).toNat=y:=by
   show (BitVec.ofInt 64 (y:Int)).toNat=y
   simp only[BitVec.toNat_ofInt];omega
  rw[h1,h2]
 rw[e];have:x |||y<2 ^ 64:=Nat.or_lt_two_pow hx hy;exact mX ⟨by omega,by omega⟩
theorem I4 (b:Nat):IntKind.u64.wrap (1*2 ^ min ((b%64:Nat):Int).toNat IntKind.u64.bits)=((2 ^ (b%64):Nat):Int):=by
 have hb:b%64<64:=Nat.mod_lt _ (by decide);have h1:min ((b%64:Nat):Int).toNat IntKind.u64.bits=b%64:=by show min _ 64=_;simp;omega
 rw[h1,Int.one_mul];have h2:2 ^ (b%64)<2 ^ 64:=Nat.pow_lt_pow_right (by decide) hb;have h3:((2:Int) ^ (b%64))=((2 ^ (b%64):Nat):Int):=by push_cast;rfl
 rw[h3];generalize 2 ^ (b%64)=p at *;exact mX ⟨by omega,by omega⟩
theorem K9 {x:Nat}(hx:x<18446744073709551616):IntKind.u64.wrap ((BitVec.ofInt IntKind.u64.bits (x:Int) &&& BitVec.ofInt IntKind.u64.bits 1).toNat:Int)=((x%2:Nat):Int):=by
 have e:(BitVec.ofInt IntKind.u64.bits (x:Int) &&& BitVec.ofInt IntKind.u64.bits 1).toNat=x%2:=by
  rw[BitVec.toNat_and]
  have h1:(BitVec.ofInt IntKind.u64.bits (x:Int)).toNat=x:=by
   show (BitVec.ofInt 64 (x:Int)).toNat=x
   simp only[BitVec.toNat_ofInt];omega
  rw[h1]
  show x &&& 1=_
  exact Nat.and_one_is_mod x
 rw[e];exact mX ⟨by omega,by omega⟩
theorem I3 (x:Nat) (b:Nat) (hb:b<64):((x:Int)).fdiv (2 ^ min ((b:Nat):Int).toNat IntKind.u64.bits)=((x >>> b:Nat):Int):=by
 have h1:min ((b:Nat):Int).toNat IntKind.u64.bits=b:=by show min _ 64=_;simp;omega
 rw[h1,Nat.shiftRight_eq_div_pow];have h3:((2:Int) ^ b)=((2 ^ b:Nat):Int):=by push_cast;rfl
 rw[h3,Int.fdiv_eq_ediv_of_nonneg _ (Int.natCast_nonneg _)]
 push_cast;rfl
theorem F7 (s b:Nat):(AB s (b / 64) >>> (b%64))%2=(s.testBit b).toNat:=by
 have h:=kJ s (b / 64) (b%64);rw[show 64*(b / 64)+b%64=b from Nat.div_add_mod b 64] at h;have hb:b%64<64:=Nat.mod_lt _ (by decide);simp only[hb,decide_true,Bool.true_and] at h;rw[Nat.shiftRight_eq_div_pow,<-Nat.toNat_testBit,h]
def dV (k s:Nat) (v:Value):List Value:=[.int .i64 k,eK s 0,eK s 1,eK s 2,eK s 3,v]
inductive b6 (h:ay) (O:Nat->Prop):List Value->Nd->Prop
 |mk (k s:Nat) (kids:List Nd) (oa:Option Addr) (n c:Nat) (css:Nat->List Value) (hl:kids.length=n) (hc:n<=c) (hm:c<=maxLen)
  (hr:∀i x,kids[i]? =some x->∃b o,oa=some ⟨b,o,none⟩/\¬O b/\Lw.rowAt h b (o+i*6) (css i)) (hk:∀i x,kids[i]? =some x->b6 h O (css i) x):b6 h O (dV k s (.slice oa n c)) (.mk k s kids)
theorem b6.len (k:b6 h O cs x):cs.length=6:=by cases k;rfl
theorem b6.one (k:b6 h O cs x):∀v∈cs,v.oneCell'=true:=by
 cases k;intro v hv;simp[dV,eK] at hv
 rcases hv with rfl|rfl|rfl|rfl|rfl|rfl<;>rfl
theorem b6.mv {h':ay}{O':Nat->Prop}(k:b6 h O cs x) (m:Mv O O' h h'):b6 h' O' cs x:=by
 induction k with
 |mk k s kids oa n c css hl hc hm hr hk ih =>
  refine .mk k s kids oa n c css hl hc hm (fun i x hx=>?_) ih;obtain⟨b,o,ha,ho,hrow⟩:=hr i x hx;have hne:css i≠[]:=by intro e;have:=(hk i x hx).len;rw[e] at this;cases this
  exact⟨b,o,ha,(m.block b (iz hrow hne) ho).2,m.rowAt ho hrow⟩
def rF:iM Nd:=⟨6,by decide,b6,b6.len,b6.one,b6.mv⟩
theorem b6.ax {h h':ay}{O:Nat->Prop}{cs:List Value}{x:Nd}(k:b6 h O cs x) (e:aD h h'):b6 h' O cs x:=k.mv (Mv.ax e)
theorem b6.of {v:Value}{kids:List Nd}(k s:Nat) (hv:cn rF h O v kids):b6 h O (dV k s v) (.mk k s kids):=by
 obtain⟨oa,n,c,rfl,hl,hc,hm,hg⟩:=hv
 have hx:∀i,i<n->∃cs:List Value,∃x,kids[i]? =some x/\(∃b o,oa=some ⟨b,o,none⟩/\¬O b/\Lw.rowAt h b (o+i*6) cs)/\b6 h O cs x:=by
  intro i hi;obtain⟨b,o,cs,h1,h2,h3,h4⟩:=hg i kids[i] (List.getElem?_eq_getElem (by omega));exact⟨cs,kids[i],List.getElem?_eq_getElem (by omega),⟨b,o,h1,h2,h3⟩,h4⟩
 refine .mk k s kids oa n c (fun i=>if hi:i<n then Classical.choose (hx i hi) else []) hl hc hm (fun i x hxi=>?_) (fun i x hxi=>?_)
 · have hi:i<n:=by rw[<-hl];exact(List.getElem?_eq_some_iff.1 hxi).1
   simp only[dif_pos hi];obtain⟨y,_,h2,_⟩:=Classical.choose_spec (hx i hi);exact h2
 · have hi:i<n:=by rw[<-hl];exact(List.getElem?_eq_some_iff.1 hxi).1
   simp only[dif_pos hi];obtain⟨y,h1,_,h3⟩:=Classical.choose_spec (hx i hi);rw[h1] at hxi;cases hxi;exact h3
theorem b6.open (k:b6 h O cs x):∃v,cs=dV x.kind x.set v/\cn rF h O v x.kids:=by
 cases k with
 |mk k s kids oa n c css hl hc hm hr hk =>
  exact⟨_,rfl,oa,n,c,rfl,hl,hc,hm,fun i x hx=>by
   obtain⟨b,o,h1,h2,h3⟩:=hr i x hx;exact⟨b,o,css i,h1,h2,h3,hk i x hx⟩⟩
def bs (l:List UInt8):ByteArray:=⟨l.toArray⟩
theorem ir (l:List UInt8):(bs l).data.toList=l:=by simp[bs]
theorem aZ (l:List UInt8):(bs l).size=l.length:=by simp[bs,ByteArray.size]
theorem dA (l m:List UInt8):bs l++bs m=bs (l++m):=by
 apply ByteArray.ext
 simp[bs]
theorem gE {l m:List UInt8}(h:bs l=bs m):l=m:=by have:=congrArg (fun x=>x.data.toList) h;simpa [bs] using this
theorem rP {l:List UInt8}{i:Nat}{c:UInt8}(h:l[i]? =some c):(bs l).data[i]? =some c:=by simpa [bs] using h
theorem jH (l:List UInt8) (i:Nat):(bs l).extract i (bs l).size=bs (l.drop i):=by
 apply ByteArray.ext
 apply Array.ext'
 rw[ByteArray.data_extract,Array.toList_extract,List.extract_eq_take_drop];rw[aZ];simp only[bs];exact List.take_of_length_le (by simp)
theorem fO (l:List UInt8) (i j:Nat) (_h:i<=j):(bs l).extract i j=bs ((l.take j).drop i):=by
 apply ByteArray.ext
 apply Array.ext'
 rw[ByteArray.data_extract,Array.toList_extract,List.extract_eq_take_drop];simp only[bs];rw[List.drop_take]
theorem IZ (c d:UInt8):decide (((c.toNat:Nat):Int)≠((d.toNat:Nat):Int))=decide (c≠d):=by
 rw[decide_eq_decide];exact⟨fun h e=>h (by rw[e]),fun h e=>h (UInt8.toNat_inj.1 (by omega))⟩
theorem de {c:UInt8}{k:Nat}{d:UInt8}(hd:d.toNat=k):(((c.toNat:Nat):Int)=(k:Int))↔c=d:=by
 subst hd;exact⟨fun e=>UInt8.toNat_inj.1 (by omega),fun e=>by rw[e]⟩
end
end Go.Proofs.YtiigijehmmcfgaaGreatDoor

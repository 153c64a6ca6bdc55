/- What the proof of the statement leans on (part 26). -/
import Derived.Lib.ParseIntB
import Derived.Lib.Bytealg
import Derived.Test.YtoickfdopobmgaaGreatDoorQy

namespace Go.Proofs.YtoickfdopobmgaaGreatDoor
open Go Go.Lw
section
variable {h:ai}{O:Nat->Prop}{k n:Int}{s f:By}{b:Nat}{v:Value}
inductive Vl where
  |mk (k n:Int) (s self:By) (body:Tr) (env:List (By×Vl))
def Vl.kind:Vl->Int|.mk k _ _ _ _ _=>k
def Vl.num:Vl->Int|.mk _ n _ _ _ _=>n
def Vl.fE:Vl->By|.mk _ _ s _ _ _=>s
def Vl.self:Vl->By|.mk _ _ _ f _ _=>f
def Vl.body:Vl->Tr|.mk _ _ _ _ b _=>b
def Vl.env:Vl->List (By×Vl)|.mk _ _ _ _ _ e=>e
abbrev Bd:=By×Vl
def bJ:Tr:=.mk 0 [] []
def iV:Vl:=.mk 0 0 [] [] bJ []
def mN (n:Int):Vl:=.mk 1 n [] [] bJ []
def lI (b:Bool):Vl:=.mk 2 (if b then 1 else 0) [] [] bJ []
def Mw (s:By):Vl:=.mk 3 0 s [] bJ []
def gR (t:By):List Bd->Vl×Int
  | []=>(iV,4)
  |b::r=>if (gR t r).2=0 then gR t r else if b.1=t then (b.2,0) else (iV,4)
def jQ (v:Vl) (name:By):Vl:=if v.kind=4/\v.self=[] then .mk v.kind v.num v.fE name v.body v.env else v
def jb (op:By) (way:Int):Vl×Int :=
  if op=[61,61] then (lI (decide (way=0)),0) else if op=[33,61] then (lI (decide (¬way=0)),0)
  else if op=[60] then (lI (decide (way<0)),0) else if op=[60,61] then (lI (decide (way<=0)),0)
  else if op=[62] then (lI (decide (0<way)),0) else if op=[62,61] then (lI (decide (0<=way)),0) else (iV,2)
def wrap64 (n:Int):Int:=IntKind.i64.wrap n
def dw (op:By) (a b:Int):Vl×Int :=
  if op=[43] then (let c:=wrap64 (a+b);if decide (c>a)=decide (b>0) then (mN c,0) else (iV,2))
  else if op=[45] then (let c:=wrap64 (a-b);if decide (c<a)=decide (b>0) then (mN c,0) else (iV,2))
  else if op=[42] then (let c:=wrap64 (a*b);if a=0\/wrap64 (c.tdiv a)=b/\(a≠ -1\/b≠ -9223372036854775808) then (mN c,0) else (iV,2))
  else if op=[47]\/op=[37] then (if b=0\/a= -9223372036854775808/\b= -1 then (iV,2) else (mN (if op=[37] then a.tmod b else wrap64 (a.tdiv b)),0))
  else jb op (if a<b then -1 else if a=b then 0 else 1)
def Ga (op:By) (v:Vl):Vl×Int :=
  if op=kY/\v.kind=2 then (lI (decide (v.num=0)),0) else if op=[45]/\v.kind=1/\v.num≠ -9223372036854775808 then (mN (wrap64 (0-v.num)),0) else (iV,2)
def Bk (op:By) (a b:Vl):Vl×Int :=
  if a.kind≠b.kind\/a.kind=4 then (iV,2)
  else if a.kind=1 then dw op a.num b.num
  else if a.kind=3/\op=[43] then (if 1000<a.fE.length+b.fE.length then (iV,3) else (Mw (a.fE++b.fE),0))
  else if a.kind=3 then jb op (Lib.compareBytes a.fE b.fE)
  else if op=[61,61] then (lI (decide (a.num=b.num)),0)
  else if op=[33,61] then (lI (decide (¬a.num=b.num)),0)
  else (iV,2)
abbrev Out:=Vl×Int×Nat
abbrev Ev:=Nat->List Bd->Tr->Out
def gU (ev:Ev):Nat->List Bd->List Tr->Vl->Out
  |m,_,[],v=>(v,0,m)
  |m,env,n::r,_=>match ev m env n with
    |(v,e,m')=>if e≠0 then (iV,e,m') else
      if n.kind=7/\n.kids.length=1 then gU ev m' (env++[(n.text,jQ v n.text)]) r (jQ v n.text) else gU ev m' env r v
def GU (ev:Ev) (m:Nat) (env:List Bd) (t:By) (l:List Tr):Out:=match ev m env (l.getD 0 bJ) with
  |(v,e,m')=>if e≠0\/l.length=1 then (v,e,m') else ev m' (env++[(t,jQ v t)]) (l.getD 1 bJ)
def NK (ev:Ev) (m:Nat) (env:List Bd) (l:List Tr):Out:=match ev m env (l.getD 0 bJ) with
  |(v,e,m')=>if e≠0 then (iV,e,m') else if v.kind≠2 then (iV,2,m') else if v.num≠0 then ev m' env (l.getD 1 bJ) else ev m' env (l.getD 2 bJ)
def zM (ev:Ev) (m:Nat) (env:List Bd) (l:List Tr):Out:=match ev m env (l.getD 0 bJ) with
  |(f,e,m1)=>if e≠0 then (iV,e,m1) else match ev m1 env (l.getD 1 bJ) with
    |(x,e,m2)=>if e≠0 then (iV,e,m2) else if f.kind≠4 then (iV,2,m2) else if cA bz f.body=false then (iV,10,m2) else
      ev m2 ((if f.self≠[] then f.env++[(f.self,f)] else f.env)++[(f.fE,x)]) f.body
def HO (ev:Ev) (m:Nat) (env:List Bd) (t:By) (l:List Tr):Out:=match ev m env (l.getD 0 bJ) with
  |(v,e,m')=>if e≠0 then (iV,e,m') else ((Ga t v).1,(Ga t v).2,m')
def Gc (ev:Ev) (m:Nat) (env:List Bd) (t:By) (l:List Tr):Out:=match ev m env (l.getD 0 bJ) with
  |(a,e,m1)=>if e≠0 then (iV,e,m1) else
    if t=s7\/t=lK then (if a.kind≠2 then (iV,2,m1) else if decide (a.num≠0)=decide (t=s7) then (a,0,m1) else match ev m1 env (l.getD 1 bJ) with
      |(b,e,m2)=>if e=0/\b.kind≠2 then (iV,2,m2) else (b,e,m2))
    else match ev m1 env (l.getD 1 bJ) with
      |(b,e,m2)=>if e≠0 then (iV,e,m2) else ((Bk t a b).1,(Bk t a b).2,m2)
def aU:Nat->Ev
  | 0,m,_,_=>(iV,60,m)
  |d+1,m,env,.mk k t l=>match m with
    | 0=>(iV,60,0)
    |m+1 =>
      if k=0 then (match Lib.parseIntB 64 t with|.ok v=>(mN v,0,m)|_=>(iV,2,m))
      else if k=1 then (if 1000<t.length then (iV,3,m) else (Mw t,0,m))
      else if k=2 then (lI (decide (t=kI)),0,m)
      else if k=3 then ((gR t env).1,(gR t env).2,m)
      else if k=8 then (.mk 4 0 t [] (l.getD 0 bJ) env,0,m)
      else if k=10 then gU (aU d) m env l iV
      else if k=7 then GU (aU d) m env t l
      else if k=6 then NK (aU d) m env l
      else if k=9 then zM (aU d) m env l
      else if k=4 then HO (aU d) m env t l
      else Gc (aU d) m env t l
def yd:Nat->ai->(Nat->Prop)->List Value->Vl->Prop
  | 0,_,_,_,_=>False
  |d+1,h,O,cs,v=>∃nk nt nv oa n c,cs=[.int .i64 v.kind,.int .i64 v.num,.string (bs v.fE),.string (bs v.self),nk,nt,nv,.slice oa n c]/\eN.R h O [nk,nt,nv] v.body/\v.env.length=n/\n<=c/\c<=maxLen /\
      ∀i y,v.env[i]? =some y->∃b o cs',oa=some ⟨b,o,none⟩/\¬O b/\Lw.rowAt h b (o+i*9) (.string (bs y.1)::cs')/\yd d h O cs' y.2
theorem HJ:∀{d:Nat}{h:ai}{O:Nat->Prop}{cs:List Value}{x:Vl},yd d h O cs x->cs.length=8
  | 0,_,_,_,_,k=>k.elim
  |_+1,_,_,_,_,⟨_,_,_,_,_,_,hc,_⟩=>by rw[hc];rfl
theorem HI:∀{d:Nat}{h:ai}{O:Nat->Prop}{cs:List Value}{x:Vl},yd d h O cs x->∀v∈cs,v.oneCell'=true
  | 0,_,_,_,_,k=>k.elim
  |_+1,_,_,_,_,⟨nk,nt,nv,_,_,_,hc,hn,_⟩=>by
    have h3:=eN.one hn;intro v hv;rw[hc] at hv;simp only[List.mem_cons,List.not_mem_nil,or_false] at hv
    rcases hv with rfl|rfl|rfl|rfl|rfl|rfl|rfl|rfl<;>first|rfl|exact h3 _ (by simp)
theorem E6:∀{d:Nat}{h h':ai}{O O':Nat->Prop}{cs:List Value}{x:Vl},yd d h O cs x->Mv O O' h h'->yd d h' O' cs x
  | 0,_,_,_,_,_,_,k,_=>k.elim
  |d+1,h,h',O,O',cs,x,⟨nk,nt,nv,oa,n,c,hc,hb,hl,hn,hm,hk⟩,m=>by
    refine⟨nk,nt,nv,oa,n,c,hc,eN.mv hb m,hl,hn,hm,fun i y hy=>?_⟩;obtain⟨b,o,cs',h1,h2,h3,h4⟩:=hk i y hy;exact⟨b,o,cs',h1,(m.block b (dL h3 (by simp)) h2).2,m.rowAt h2 h3,E6 h4 m⟩
theorem Ag:∀{d d':Nat}{h:ai}{O:Nat->Prop}{cs:List Value}{x:Vl},yd d h O cs x->d<=d'->yd d' h O cs x
  | 0,_,_,_,_,_,k,_=>k.elim
  |d+1,0,_,_,_,_,_,hd=>by omega
  |d+1,d'+1,h,O,cs,x,⟨nk,nt,nv,oa,n,c,hc,hb,hl,hn,hm,hk⟩,hd=>by
    refine⟨nk,nt,nv,oa,n,c,hc,hb,hl,hn,hm,fun i y hy=>?_⟩;obtain⟨b,o,cs',h1,h2,h3,h4⟩:=hk i y hy;exact⟨b,o,cs',h1,h2,h3,Ag h4 (by omega)⟩
def eV:fQ Vl where
  sz:=8
  pos:=by decide
  R:=fun h O cs x=>∃d,yd d h O cs x
  len:=fun⟨_,k⟩=>HJ k
  one:=fun⟨_,k⟩=>HI k
  mv:=fun⟨d,k⟩ m=>⟨d,E6 k m⟩
def eB:fQ Bd where
  sz:=9
  pos:=by decide
  R:=fun h O cs y=>∃cs',cs= .string (bs y.1)::cs'/\eV.R h O cs' y.2
  len:=fun⟨_,h,k⟩=>by rw[h,List.length_cons,eV.len k];rfl
  one:=fun⟨_,h,k⟩ v hv=>by
    rw[h] at hv
    rcases List.mem_cons.1 hv with rfl|hv
    · rfl
    · exact eV.one k v hv
  mv:=fun⟨c,h,k⟩ m=>⟨c,h,eV.mv k m⟩
theorem FL {cs:List Value}{x:Vl}(q:eV.R h O cs x) :
    ∃nk nt nv v,cs=[.int .i64 x.kind,.int .i64 x.num,.string (bs x.fE),.string (bs x.self),nk,nt,nv,v]/\eN.R h O [nk,nt,nv] x.body/\aT eB h O v x.env:=by
  obtain⟨d,q⟩:=q;cases d with
  |zero=>exact q.elim
  |succ d =>
    obtain⟨nk,nt,nv,oa,n,c,hc,hb,hl,hn,hm,hk⟩:=q;refine⟨nk,nt,nv,_,hc,hb,oa,n,c,rfl,hl,hn,hm,fun i y hy=>?_⟩;obtain⟨b,o,cs',h1,h2,h3,h4⟩:=hk i y hy;exact⟨b,o,_,h1,h2,h3,cs',rfl,d,h4⟩
theorem A7 {b:Tr}{e:List Bd}{nk nt nv:Value}(hb:eN.R h O [nk,nt,nv] b) (q:aT eB h O v e) :
    eV.R h O [.int .i64 k,.int .i64 n,.string (bs s),.string (bs f),nk,nt,nv,v] (.mk k n s f b e):=by
  obtain⟨oa,m,c,rfl,hl,hn,hm,hk⟩:=q
  have:∃d,∀i y,e[i]? =some y->∃b o cs,oa=some ⟨b,o,none⟩/\¬O b/\Lw.rowAt h b (o+i*9) (.string (bs y.1)::cs)/\yd d h O cs y.2:=by
    have key:∀j:Nat,∃d,∀i y,i<j->e[i]? =some y->∃b o cs,oa=some ⟨b,o,none⟩/\¬O b/\Lw.rowAt h b (o+i*9) (.string (bs y.1)::cs)/\yd d h O cs y.2:=by
      intro j
      induction j with
      |zero=>exact⟨0,fun i y hi=>by omega⟩
      |succ j ih =>
        obtain⟨d,hd⟩:=ih;cases hj:e[j]? with
        |none =>
          refine⟨d,fun i y hi hy=>hd i y ?_ hy⟩
          rcases Nat.lt_or_ge i j with q|q
          · exact q
          · have:i=j:=by omega
            subst this;rw[hj] at hy;cases hy
        |some z =>
          obtain⟨b,o,_,h1,h2,h3,cs,rfl,d2,h4⟩:=hk j z hj;refine⟨max d d2,fun i y hi hy=>?_⟩
          rcases Nat.lt_or_ge i j with q|q
          · obtain⟨b',o',cs',g1,g2,g3,g4⟩:=hd i y q hy;exact⟨b',o',cs',g1,g2,g3,Ag g4 (by omega)⟩
          · have:i=j:=by omega
            subst this;rw[hj] at hy;cases hy;exact⟨b,o,cs,h1,h2,h3,Ag h4 (by omega)⟩
    obtain⟨d,hd⟩:=key e.length;exact⟨d,fun i y hy=>hd i y (List.getElem?_eq_some_iff.1 hy).1 hy⟩
  obtain⟨d,hd⟩:=this;exact⟨d+1,nk,nt,nv,oa,m,c,rfl,hb,hl,hn,hm,hd⟩
def cW (h:ai) (O:Nat->Prop) (v:Value) (x:Vl):Prop:=∃cs,v= .agg cs.toArray/\eV.R h O cs x
theorem cW.get {x:Vl}(q:cW h O v x) :
    ∃nk nt a n c ea en ec,v= .agg #[.int .i64 x.kind,.int .i64 x.num,.string (bs x.fE),.string (bs x.self),.int .i64 nk,.string (bs nt),.slice a n c,.slice ea en ec]/\eN.R h O [.int .i64 nk,.string (bs nt),.slice a n c] x.body /\
      eV.R h O [.int .i64 x.kind,.int .i64 x.num,.string (bs x.fE),.string (bs x.self),.int .i64 nk,.string (bs nt),.slice a n c,.slice ea en ec] x/\aT eB h O (.slice ea en ec) x.env:=by
  obtain⟨cs,rfl,q⟩:=q;obtain⟨nk,nt,nv,v,rfl,hb,he⟩:=FL q;obtain⟨k,t,l,hx⟩:∃k t l,x.body= .mk k t l:=by cases x.body with|mk k t l=>exact⟨k,t,l,rfl⟩
  have hb':=hb;rw[hx] at hb';obtain⟨w,hw,hl⟩:=kO hb';simp only[List.cons.injEq,and_true] at hw;obtain⟨rfl,rfl,rfl⟩:=hw;obtain⟨a,n,c,rfl,_⟩:=hl.open;obtain⟨ea,en,ec,rfl,_⟩:=he.open;exact⟨k,t,a,n,c,ea,en,ec,rfl,hb,q,he⟩
theorem cW.of {cs:List Value}{x:Vl}(q:eV.R h O cs x):cW h O (.agg cs.toArray) x:=⟨cs,rfl,q⟩
theorem MS (h:ai) (O:Nat->Prop):eN.R h O [.int .i64 0,.string (bs []),.slice none 0 0] bJ:=rB (aT.nil _ _ _)
theorem JC (h:ai) (O:Nat->Prop) (k n:Int) (s f:By):eV.R h O [.int .i64 k,.int .i64 n,.string (bs s),.string (bs f),.int .i64 0,.string (bs []),.slice none 0 0,.slice none 0 0] (.mk k n s f bJ []):=A7 (MS h O) (aT.nil _ _ _)
theorem IJ {b:Tr}{e:List Bd}{nk nt nv:Value}(q:eV.R h O [.int .i64 k,.int .i64 n,.string (bs s),.string (bs f),nk,nt,nv,v] (.mk k n s f b e)) (g:By) :
    eV.R h O [.int .i64 k,.int .i64 n,.string (bs s),.string (bs g),nk,nt,nv,v] (.mk k n s g b e):=by
  obtain⟨nk',nt',nv',v',hc,hb,he⟩:=FL q;simp only[List.cons.injEq,and_true] at hc;obtain⟨_,_,_,_,rfl,rfl,rfl,rfl⟩:=hc;exact A7 hb he
def Kr:Nat->Nat->Vl->Prop
  | 0,_,_=>True
  |d+1,b,x=>x.fE.length<=1000000/\x.body.wt<=1000000/\x.env.length<=b/\∀p∈x.env,Kr d b p.2
def okV (b:Nat) (x:Vl):Prop:=∀d,Kr d b x
def vE (b:Nat) (l:List Bd):Prop:=l.length<=b/\∀p∈l,okV b p.2
theorem IP {b b':Nat}(hb:b<=b'):∀{d:Nat}{x:Vl},Kr d b x->Kr d b' x
  | 0,_,_=>trivial
  |d+1,_,⟨h1,h2,h3,h4⟩=>⟨h1,h2,Nat.le_trans h3 hb,fun p hp=>IP hb (h4 p hp)⟩
theorem okV.le {b':Nat}{x:Vl}(h:okV b x) (hb:b<=b'):okV b' x:=fun d=>IP hb (h d)
theorem vE.le {b b':Nat}{l:List Bd}(h:vE b l) (hb:b<=b'):vE b' l:=⟨Nat.le_trans h.1 hb,fun p hp=>(h.2 p hp).le hb⟩
theorem Eb {t:Tr}{e:List Bd}(hs:s.length<=1000000) (ht:t.wt<=1000000) (he:vE b e):okV b (.mk k n s f t e)
  | 0=>trivial
  |d+1=>⟨hs,ht,he.1,fun p hp=>he.2 p hp d⟩
theorem okV.get {x:Vl}(h:okV b x):x.fE.length<=1000000/\x.body.wt<=1000000/\vE b x.env :=
  ⟨(h 1).1,(h 1).2.1,(h 1).2.2.1,fun p hp d=>(h (d+1)).2.2.2 p hp⟩
theorem vE.nil (b:Nat):vE b []:=⟨Nat.zero_le _,fun _ h=>by cases h⟩
theorem nO (b:Nat) (k n:Int) (f:By) (hs:s.length<=1000000):okV b (.mk k n s f bJ []):=Eb hs (by decide) (vE.nil b)
theorem mM {x:Vl}(h:okV b x) (t:By):okV b (jQ x t):=by
  obtain⟨h1,h2,h3⟩:=h.get;unfold jQ;split
  · exact Eb h1 h2 h3
  · exact h
end
end Go.Proofs.YtoickfdopobmgaaGreatDoor
namespace Go.Proofs.YtoickfdopobmgaaGreatDoor
open Go.Proofs.Tryz
open Go Go.Lw
set_option maxRecDepth 20000 set_option maxHeartbeats 4000000
section
variable {n c i:Nat}{s:By}{a e:Int}{h:ai}{v w:Value}{O:Nat->Prop}{u:Un}{α:Type}{ts:List Tok}{t:Tok}
abbrev NM (k n:Int) (s:By):Value:=.agg #[.int .i64 k,.int .i64 n,.string (bs s),.string (bs []),.int .i64 0,.string (bs []),.slice none 0 0,.slice none 0 0]
theorem FG (h:ai) (O:Nat->Prop) (k n:Int) (s:By):cW h O (NM k n s) (.mk k n s [] bJ []):=cW.of (JC h O k n s [])
abbrev lG (k n:Int) (s f:By) (nk:Int) (nt:By) (a:Option Addr) (m c:Nat) (ea:Option Addr) (en ec:Nat):List Value:=[.int .i64 k,.int .i64 n,.string (bs s),.string (bs f),.int .i64 nk,.string (bs nt),.slice a m c,.slice ea en ec]
theorem gI {k n:Int}{f:By}{nk:Int}{nt:By}{a:Option Addr}{m:Nat}{ea:Option Addr}{en ec:Nat}:∀v∈lG k n s f nk nt a m c ea en ec,v.oneCell'=true:=by
 intro v hv;simp only[List.mem_cons,List.not_mem_nil,or_false] at hv
 rcases hv with rfl|rfl|rfl|rfl|rfl|rfl|rfl|rfl<;>rfl
theorem dh (b:Bool):aq Tryz.prog 78 #[.bool b] h (bw fun r h'=>r=NM 2 (if b then 1 else 0) []/\aj h h'):=by
 refine bL ?_;refine af ?_;refine xo rfl (cO) ?_;rintro _ h1 ⟨rfl,k1,e1,z1⟩;refine af ?_;refine iM (fun hb=>?_) (fun hb=>?_)
 · refine af ?_;refine xp rfl (av (H.iS _ _) rfl) ?_;refine aM rfl (aY rfl rfl k1) ?_;rintro _ h2 ⟨rfl,k2,x2,z2⟩;refine af ?_;refine ct (cj rfl k2.row cq) ?_;exact⟨_,rfl,by rw[hb];rfl,aj.only e1 x2 (Nat.le_refl _)⟩
 · refine af ?_;refine xp rfl (av (H.Nn _) rfl) ?_;refine aM rfl (aY rfl rfl k1) ?_;rintro _ h2 ⟨rfl,k2,x2,z2⟩;refine af ?_;refine ct (cj rfl k2.row cq) ?_;exact⟨_,rfl,by rw[hb];rfl,aj.only e1 x2 (Nat.le_refl _)⟩
theorem pn (h:ai) (O:Nat->Prop) (b:Bool):cW h O (NM 2 (if b then 1 else 0) []) (lI b):=FG h O _ _ _
theorem gN (h:ai) (O:Nat->Prop):cW h O (NM 0 0 []) iV:=FG h O _ _ _
theorem vF (h:ai) (O:Nat->Prop) (n:Int):cW h O (NM 1 n []) (mN n):=FG h O _ _ _
theorem LV (h:ai) (O:Nat->Prop) (s:By):cW h O (NM 3 0 s) (Mw s):=FG h O _ _ _
theorem gS {xs:List Bd}(hv:aT eB h O v xs) (hx:xs.length<=100000000) :
 aq Tryz.prog 18 #[v] h (bw fun r h'=>cH eB O h' h.size 52 r xs/\aj h h'):=by
 obtain⟨va,vn,vc,rfl,hvs⟩:=hv.open;have hl:xs.length=vn:=hvs.len;subst hl;refine bL ?_;refine aX ?_;refine cD ?_;refine aW ?_;refine cX ?_
 iterate 2 refine aX ?_
 refine cD ?_;refine aW ?_;refine xp rfl (ay.La underlying40 rfl rfl) ?_;refine af ?_;refine iM (fun hn=>?_) (fun hn=>?_)
 · refine af ?_;refine bp ?_
   have hx0:xs=[]:=by
    have hva:va=none:=by simpa using hn
    rcases xs with _|⟨x,xs⟩
    · rfl
    · obtain⟨b,o,cs,ha,_⟩:=hvs.get 0 x rfl;rw[hva] at ha;cases ha
   subst hx0;exact⟨_,rfl,cH.nil _ _ _ _ _,Ext.refl _ _⟩
 · refine af ?_;refine xo rfl (RF) ?_;rintro _ h1 ⟨rfl,hh1⟩;have e1:aj h h1:=by rw[hh1];exact Ext.push _ _ _
   have z1:h1.size=h.size+1:=by rw[hh1];simp
   have ho1:aB h1 h.size 52 9 (.slice (some ⟨h.size,0,none⟩) 0 0) 0 []:=by rw[hh1];exact aB.empty h _ 9 h.size (Nat.le_refl _)
   obtain⟨css,hc1,hc2,hc3,hc4,hc5⟩:=hvs.Qt;have hrow:xs.length=0\/∃b o,va=some ⟨b,o,none⟩/\Lw.rowAt h1 b o css.flatten:=hc5.imp id fun⟨b,o,q1,q2⟩=>⟨b,o,q1,e1.rowAt (fun k=>k) q2⟩
   refine af ?_;refine xo rfl (aQ.append underlying40 H.M9 rfl rfl ho1 hc3 hrow hc4 (by simp only[maxLen];omega) (by omega) (by omega)) ?_;rintro v2 h2 ⟨ho2,hx2,_,hv2⟩;refine af ?_;refine bp ?_;have e2:=Ext.own e1 ho1 (Nat.le_refl _) hx2;have ho2:aB h2 h.size 52 9 v2 (0+xs.length) ([]++css.flatten):=ho2;rw[Nat.zero_add,List.nil_append] at ho2;exact⟨_,rfl,EX hc1 hc2 rfl ho2 e2 (fun b q=>(ho2.lt q).1),e2⟩
theorem Ac (ih:∀m,m<=n->BD m):Ct 156 [] .block (n+1):=by
 intro c h s t s' hp hm;have hpl:=hp.lt;obtain⟨o1,o2⟩:=hp.old;rw[pM] at hm;refine bL ?_;refine af ?_;refine xo rfl (cO) ?_;rintro _ h1 ⟨rfl,k1,e1,z1⟩;refine af ?_;refine xo rfl (aE rfl (gD (hp.ah e1) 7 [123])) ?_;rintro _ h2 ⟨hp2,x2⟩;have z2:=x2.size;refine af ?_;refine xp rfl (av (H.No _) rfl) ?_;refine xo rfl (cO) ?_;rintro _ h3 ⟨rfl,k3,e3,z3⟩;refine aM rfl (aY rfl rfl k3) ?_;rintro _ h4 ⟨rfl,k4,x4,z4⟩;have hs4:=hp2.short
 have hsl:(cC c.e 7 [123] s).cm=false->(cC c.e 7 [123] s).len+1<=c.us.length:=fun q=>by
  have:=hp.short;unfold cC at q ⊢
  rcases hq:bW 7 [[123]] s with ⟨o,s1⟩
  rw[hq] at q;cases o with
  |none=>rw[fA] at q;cases q
  |some x=>have:=cZ hq;simp only;omega
 have hK4:F2 c h h4 h2.size 10 [] (.slice none 0 0) (cC c.e 7 [123] s):=⟨(hp2.ah e3).ext x4 (fun b hb q=>by omega),((e1.of.trans x2).trans e3.of).bH x4 (fun i hi q=>by omega),((k1.ext x2 (show ¬h.size=c.pb by omega)).ah e3).ext x4 (show ¬h.size=h2.size by omega),by omega,k4,cH.nil _ _ _ _ _,fun b q=>(by cases q),⟨_,_,_,rfl⟩⟩
 refine af ?_;refine gY (σ:=Nat×List Tr×Value×PS) (fun _=>[]) (fun w g=>F2 c h g h2.size 10 w.2.1 w.2.2.1 w.2.2.2/\(w.2.2.2.cm=true->w.2.2.2=s')/\(w.2.2.2.cm=false->w.1<=n/\pM c.e w.1 (.blockL w.2.1) w.2.2.2=some (t,s')/\w.2.1.length+w.2.2.2.len+1<=c.us.length)) (fun w=>w.1) ((n,[],.slice none 0 0,cC c.e 7 [123] s)) ⟨hK4,fun q=>by obtain⟨k,hk⟩:∃k,cC c.e 7 [123] s= .bad k:=by { cases hq:cC c.e 7 [123] s with|ok r=>rw[hq] at q;cases q|bad k=>exact⟨k,rfl⟩ };rw[hk] at hm ⊢;exact(IG hm).symm,fun q=>⟨Nat.le_refl _,hm,by have:=hsl q;simp only[List.length_nil];omega⟩⟩ rfl ?_;rintro⟨m,l,kv,sI⟩ g ⟨hI,hbad,hok⟩ ihL
 try dsimp only
 obtain⟨pi,pbb,pm,pk,_,_,ps,_⟩:=id hI.st;refine af ?_;refine xp rfl (aA rfl (pk.cell (i:=3) rfl)) ?_;refine af ?_
 rcases sI with r|q
 · obtain⟨rfl,_⟩:=ps;obtain⟨hmn,hm,hlen⟩:=hok rfl;obtain⟨m,rfl⟩:∃m',m=m'+1:=by cases m with|zero=>cases hm|succ m=>exact⟨m,rfl⟩
   rw[pM] at hm;obtain⟨v,s2,hv,hm⟩:=az hm;have hsh:=hI.st.short;refine fF rfl (by simp) ?_;obtain⟨i1,i2,i3,i4,i5,i6,i7,_⟩:=id hI;have i5l:=i5.lt;have i2z:=i2.size
   have hM:¬(h2.size=c.pb\/cv (kv).ownBlock h2.size\/Array.size g<=h2.size):=fun q=>by
    rcases q with q|q|q
    · omega
    · have:=i7 _ q.symm;omega
    · omega
   refine af ?_;refine me 8 (fun b=>b=c.pb\/cv (kv).ownBlock b\/Array.size g<=b) (fun i=>Nat.blt i 7) ?_;refine aI 0 ?_;refine bI 1 rfl (fun h' e=>aA rfl (e.cell hM (i5.cell (i:=2) rfl))) ?_;refine aI 2 ?_;refine dH 3 rfl (aE rfl ((ih m (by omega)).stmt _ _ _ _ _ i1 hv)) ?_;rintro r6 h6 ⟨y6,hp6,t6,hn6,ht6⟩;refine⟨fun _=>y6.mono (fun _ _ q=>.inl q),?_⟩;have z6:=y6.size;obtain⟨mk,mt,ma,mn,mc,rfl,hr6⟩:=hn6.get;have ho6:=i6.qD y6 (fun b q q2=>by have:=i7 b q;omega) (fun b hb q=>by omega) (fun _ _ q=>q);obtain⟨css,hc1,hc2,hc3⟩:=id ho6;refine dH 4 rfl (ue) ?_;rintro _ _ ⟨rfl,rfl⟩;refine⟨fun _=>by first|exact Ext.push _ _ _|assumption,?_⟩;refine dH 5 rfl (uH rfl rfl hc2 rfl rfl) ?_;rintro v7 h7 ⟨ho7,hx7,hx7',hv7⟩;refine⟨fun _=>hx7'.mono (fun b _ q=>.inr (.inl q)),?_⟩;have z7:=hx7.size;obtain⟨va,vm,vc,rfl⟩:=uy ho7;refine aI 6 ?_;refine kX 7 rfl (mj rfl rfl (((i5.ext y6 (show ¬h2.size=c.pb by omega)).ext hx7 (fun q=>by have:=i7 _ q.symm;omega)))) ?_;rintro _ h8 ⟨rfl,k8,x8,z8⟩;refine⟨nofun,?_⟩
   have hr6':eN.R h6 (fun b=>cv (kv).ownBlock b\/(b<=h.size\/b=h2.size)) [.int .i64 mk,.string (bs mt),.slice ma mn mc] t6:=bK hr6 (Ext.refl (fun _=>False) _) (fun b hb q=>⟨fun k=>k,fun q2=>by
    rcases q2 with q2|q2
    · have:=i7 _ q2.symm;omega
    · omega⟩)
   have ho7x:cH eN (fun b=>b<=h.size\/b=h2.size) h7 (h.size+1) 39 (.slice va vm vc) (l++[t6]):=cH.gq hc1 hc3 ho7 hx7 hv7 hr6'
   have hown7:∀b,(Value.slice va vm vc).ownBlock=some b->h.size<b/\b≠h2.size/\b<h7.size:=fun b q=>by
    have hl:=(ho7.lt q).2
    rcases hv7 b q with q2|q2
    · have:=i7 b q2;omega
    · omega
   have hK:F2 c h h8 h2.size 10 (l++[t6]) (.slice va vm vc) s2:=F2.mk ((hp6.ext hx7 (fun b hb q=>by have:=i7 _ q.symm;omega)).ext x8 (fun b hb q=>by omega)) (((i2.trans y6).bH hx7 (fun i hi q=>by have:=i7 _ q.symm;omega)).bH x8 (fun i hi q=>by omega)) (((i3.ext y6 (show ¬h.size=c.pb by omega)).ext hx7 (fun q=>by have:=i7 _ q.symm;omega)).ext x8 (show ¬h.size=h2.size by omega)) i4 k8 (ho7x.qD x8 (fun b q q2=>by have:=hown7 b q;omega) (fun b hb q=>.inr q) (fun _ _ q=>q)) (fun b q=>by have:=hown7 b q;omega) ⟨_,_,_,rfl⟩;have hvl:=vB hv;refine iT ?_;refine af ?_;refine xo rfl (iL [_]) ?_;rintro _ w9 ⟨rfl,hw9⟩;have y9:aj h8 w9:=by rw[hw9];exact Ext.push _ _ _
   have ts9:aT oe w9 (fun _=>False) (.slice (some ⟨Array.size h8,0,none⟩) 1 1) [[59]]:=by rw[hw9];exact bB _ [[59]] _ rfl (by simp[maxLen]) rfl
   refine xo rfl (aE rfl (bA (hK.st.ah y9) 6 ts9)) ?_;rintro _ h9 ⟨rfl,hp9,x9⟩;have x9:=y9.of.trans x9
   rcases hq9:bW 6 [[59]] s2 with ⟨o9,s9⟩
   rw[hq9] at hp9 hm;have hK9:=hK.mv hpl x9 hp9;simp only at hm;refine af ?_;refine xo rfl (iL [_]) ?_;rintro _ w10 ⟨rfl,hw10⟩;have y10:aj h9 w10:=by rw[hw10];exact Ext.push _ _ _
   have ts10:aT oe w10 (fun _=>False) (.slice (some ⟨Array.size h9,0,none⟩) 1 1) [[125]]:=by rw[hw10];exact bB _ [[125]] _ rfl (by simp[maxLen]) rfl
   refine xo rfl (aE rfl (bA (hK9.st.ah y10) 8 ts10)) ?_;rintro _ h10 ⟨rfl,hp10,x10⟩;have x10:=y10.of.trans x10
   rcases hq10:bW 8 [[125]] s9 with ⟨o10,s10⟩
   rw[hq10] at hp10 hm;have hK10:=hK9.mv hpl x10 hp10
   rcases o10 with _|v10
   · simp only at hm;have e10:=aJ hq10;refine af ?_;refine fe rfl (by simp) ?_
     rcases o9 with _|v9
     · simp only[Option.isSome_none,Bool.false_and,Bool.false_eq_true,if_false] at hm;refine af ?_;refine fF rfl (by simp) ?_;refine af ?_;refine xo rfl (aE rfl (eu hK10.st)) ?_;rintro _ h11 ⟨rfl,hp11,x11⟩;have hK11:=hK10.mv hpl x11 hp11;have hs':cI c.e s10=s':=by cases hm;rfl
       refine af ?_;exact ihL (m,l++[t6],_,_) ⟨hK11,fun _=>hs',fun q=>by have q:(cI c.e s10).cm=false:=q;rw[fA] at q;cases q⟩
     · obtain⟨u0,r0,hs2,hs9,_⟩:=lW hq9;subst hs9;subst e10;simp only[Option.isSome_some,PS.cm,Bool.not_false,Bool.and_true,if_true] at hm;refine af ?_;refine fe rfl (by simp) ?_;refine af ?_;exact ihL (m,l++[t6],_,_) ⟨hK10,fun q=>(by cases q),fun _=>⟨by show m<=n;omega,by rw[ht6 (by rw[hs2];rfl)];exact hm,by have:=cZ hq9;simp only[List.length_append,List.length_singleton,PS.len] at this hvl hlen ⊢;omega⟩⟩
   · simp only at hm;obtain⟨rfl,rfl⟩:Tr.mk 10 [] (l++[v])=t/\s10=s':=by cases hm;exact⟨rfl,rfl⟩
     refine af ?_;refine fF rfl (by simp) ?_;refine af ?_;refine xp rfl (bY rfl hK10.nd.row) ?_;refine aM rfl (aY rfl rfl hK10.res lq) ?_;rintro _ hz ⟨rfl,kz,xz,zz⟩;refine af ?_;refine ct (cj rfl kz.row cq) ?_;exact⟨_,rfl,bD hp hK10.ext hK10.st hK10.tell (fun q=>by rw[ht6 (bf hq9 (bf hq10 q))]) xz⟩
 · obtain⟨rfl,_⟩:=ps;obtain rfl:=hbad rfl;obtain⟨ka,km,kd,rfl⟩:=hI.sl;refine fe rfl (by simp) ?_;refine af ?_;refine xp rfl (bY rfl hI.nd.row) ?_;refine aM rfl (aY rfl rfl hI.res lq) ?_;rintro _ hz ⟨rfl,kz,xz,zz⟩;refine af ?_;refine ct (cj rfl kz.row cq) ?_;exact⟨_,rfl,bD hp hI.ext hI.st hI.tell (fun q=>by cases q) xz⟩
theorem xZ (ih:∀m,m<=n->BD m):Ct 121 [] .choice (n+1):=by
 intro c h s t s' hp hm;have hpl:=hp.lt;obtain⟨o1,o2⟩:=hp.old;rw[pM] at hm;obtain⟨va0,s1,hva,hm⟩:=az hm;obtain⟨vb0,s2,hvb,hm⟩:=az hm;refine bL ?_;refine af ?_;refine xo rfl (cO) ?_;rintro _ h1 ⟨rfl,k1,e1,z1⟩;refine af ?_;refine xo rfl (aE rfl ((ih n (Nat.le_refl _)).expr _ _ _ _ _ (hp.ah e1) hva)) ?_;rintro r2 h2 ⟨y2,hp2,t2,hn2,ht2⟩;obtain⟨ak,at_,aa,an,ac,rfl,hr2⟩:=hn2.get;have z2:=y2.size;refine af ?_;refine xo rfl (aE rfl ((ih n (Nat.le_refl _)).block _ _ _ _ _ hp2 hvb)) ?_;rintro r3 h3 ⟨y3,hp3,t3,hn3,ht3⟩;obtain⟨bk,bt,ba,bn,bc,rfl,hr3⟩:=hn3.get;have z3:=y3.size;refine xo rfl (aQ.sC underlying37 H.Lc ([[.int .i64 ak,.string (bs at_),.slice aa an ac],[.int .i64 bk,.string (bs bt),.slice ba bn bc]]) rfl rfl (by decide) (by simp<;>repeat' (first|rfl|constructor))) ?_;rintro _ h4 ⟨rfl,hh4⟩;have e4:aj h3 h4:=by rw[hh4];exact Ext.push _ _ _
 have z4:h4.size=h3.size+1:=by rw[hh4];simp
 have hs4:cH eN (fun b=>b<=h.size\/h3.size<=b) h4 (h.size+1) 39 (.slice (some ⟨h3.size,0,none⟩) 2 2) [t2,t3]:=by
  rw[hh4];exact vL (bK hr2 y3 (fun b hb q=>⟨fun q2=>q (by omega),fun q2=>q (by omega)⟩)) (bK hr3 (Ext.refl (fun _=>False) _) (fun b hb q=>⟨fun q2=>q2,fun q2=>q (by omega)⟩)) (by omega)
 refine xp rfl (av (H.Dc _ _ _ _) rfl) ?_;refine xo rfl (cO) ?_;rintro _ h5 ⟨rfl,k5,e5,z5⟩;refine aM rfl (aY rfl rfl k5) ?_;rintro _ h6 ⟨rfl,k6,x6,z6⟩;have x26:Ext (fun b=>b=h4.size) h4 h6:=e5.of.trans x6;have x06:Ext (fun b=>b=c.pb) h h6:=(((e1.of.trans y2).trans y3).trans e4.of).bH x26 (fun i hi q=>by omega);have hK6:F2 c h h6 h4.size 6 [t2,t3] (.slice (some ⟨h3.size,0,none⟩) 2 2) s2:=⟨(hp3.ah e4).ext x26 (fun b hb q=>by omega),x06,(((k1.ext y2 (show ¬h.size=c.pb by omega)).ext y3 (show ¬h.size=c.pb by omega)).ah e4).ext x26 (show ¬h.size=h4.size by omega),by omega,k6,hs4.qD x26 (fun b q q2=>by have:=jP q;omega) (fun b hb q=>by omega) (fun b hb q=>by omega),fun b q=>(by have:=jP q;omega),⟨_,_,_,rfl⟩⟩
 refine af ?_;refine xo rfl (aE rfl (gD hK6.st 4 lJ)) ?_;rintro _ h7 ⟨hp7,x7⟩;have hK7:=hK6.mv hpl x7 hp7;refine af ?_;refine xo rfl (iL [_]) ?_;rintro _ w9 ⟨rfl,hw9⟩;have y9:aj h7 w9:=by rw[hw9];exact Ext.push _ _ _
 have ts9:aT oe w9 (fun _=>False) (.slice (some ⟨Array.size h7,0,none⟩) 1 1) [Ai]:=by rw[hw9];exact bB _ [Ai] _ rfl (by simp[maxLen]) rfl
 refine xo rfl (aE rfl (bA (hK7.st.ah y9) 4 ts9)) ?_;rintro _ h9 ⟨rfl,hp9,x9⟩;have x9:=y9.of.trans x9
 rcases hq9:bW 4 [Ai] (cC c.e 4 lJ s2) with ⟨o9,s9⟩
 rw[hq9] at hp9 hm;have hK9:=hK7.mv hpl x9 hp9
 have hgood:s9.cm=false->t2=va0/\t3=vb0:=fun q=>by
  have q2:=fq (bf hq9 q);exact⟨ht2 (bZ hvb q2),ht3 q2⟩
 rcases o9 with _|v9
 · simp only at hm;obtain⟨vc0,s3,hvc,hm⟩:=az hm;obtain⟨rfl,rfl⟩:Tr.mk 6 [] [va0,vb0,vc0]=t/\s3=s':=by cases hm;exact⟨rfl,rfl⟩
   refine af ?_;refine fe rfl (by simp) ?_;obtain⟨i1,i2,i3,i4,i5,i6,i7,_⟩:=id hK9;have i5l:=i5.lt;have i2z:=i2.size
   have hM:¬(h4.size=c.pb\/cv ((Value.slice (some ⟨h3.size,0,none⟩) 2 2)).ownBlock h4.size\/Array.size h9<=h4.size):=fun q=>by
    rcases q with q|q|q
    · omega
    · have:=i7 _ q.symm;omega
    · omega
   refine me 8 (fun b=>b=c.pb\/cv ((Value.slice (some ⟨h3.size,0,none⟩) 2 2)).ownBlock b\/Array.size h9<=b) (fun i=>Nat.blt i 7) ?_;refine aI 0 ?_;refine bI 1 rfl (fun h' e=>aA rfl (e.cell hM (i5.cell (i:=2) rfl))) ?_;refine aI 2 ?_;refine dH 3 rfl (aE rfl ((ih n (Nat.le_refl _)).block _ _ _ _ _ i1 hvc)) ?_;rintro r6 h6 ⟨y6,hp6,t6,hn6,ht6⟩;refine⟨fun _=>y6.mono (fun _ _ q=>.inl q),?_⟩;have z6:=y6.size;obtain⟨mk,mt,ma,mn,mc,rfl,hr6⟩:=hn6.get;have ho6:=i6.qD y6 (fun b q q2=>by have:=i7 b q;omega) (fun b hb q=>by omega) (fun _ _ q=>q);obtain⟨css,hc1,hc2,hc3⟩:=id ho6;refine dH 4 rfl (ue) ?_;rintro _ _ ⟨rfl,rfl⟩;refine⟨fun _=>by first|exact Ext.push _ _ _|assumption,?_⟩;refine dH 5 rfl (uH rfl rfl hc2 rfl rfl (by simp) (by omega)) ?_;rintro v7 h7 ⟨ho7,hx7,hx7',hv7⟩;refine⟨fun _=>hx7'.mono (fun b _ q=>.inr (.inl q)),?_⟩;have z7:=hx7.size;obtain⟨va,vm,vc,rfl⟩:=uy ho7;refine aI 6 ?_;refine kX 7 rfl (mj rfl rfl (((i5.ext y6 (show ¬h4.size=c.pb by omega)).ext hx7 (fun q=>by have:=i7 _ q.symm;omega)))) ?_;rintro _ h8 ⟨rfl,k8,x8,z8⟩;refine⟨nofun,?_⟩
   have hr6':eN.R h6 (fun b=>cv ((Value.slice (some ⟨h3.size,0,none⟩) 2 2)).ownBlock b\/(b<=h.size\/b=h4.size)) [.int .i64 mk,.string (bs mt),.slice ma mn mc] t6:=bK hr6 (Ext.refl (fun _=>False) _) (fun b hb q=>⟨fun k=>k,fun q2=>by
    rcases q2 with q2|q2
    · have:=i7 _ q2.symm;omega
    · omega⟩)
   have ho7x:cH eN (fun b=>b<=h.size\/b=h4.size) h7 (h.size+1) 39 (.slice va vm vc) ([t2,t3]++[t6]):=cH.gq hc1 hc3 ho7 hx7 hv7 hr6'
   have hown7:∀b,(Value.slice va vm vc).ownBlock=some b->h.size<b/\b≠h4.size/\b<h7.size:=fun b q=>by
    have hl:=(ho7.lt q).2
    rcases hv7 b q with q2|q2
    · have:=i7 b q2;omega
    · omega
   have hK:F2 c h h8 h4.size 6 ([t2,t3]++[t6]) (.slice va vm vc) s3:=F2.mk ((hp6.ext hx7 (fun b hb q=>by have:=i7 _ q.symm;omega)).ext x8 (fun b hb q=>by omega)) (((i2.trans y6).bH hx7 (fun i hi q=>by have:=i7 _ q.symm;omega)).bH x8 (fun i hi q=>by omega)) (((i3.ext y6 (show ¬h.size=c.pb by omega)).ext hx7 (fun q=>by have:=i7 _ q.symm;omega)).ext x8 (show ¬h.size=h4.size by omega)) i4 k8 (ho7x.qD x8 (fun b q q2=>by have:=hown7 b q;omega) (fun b hb q=>.inr q) (fun _ _ q=>q)) (fun b q=>by have:=hown7 b q;omega) ⟨_,_,_,rfl⟩;refine iT ?_;refine af ?_;refine xp rfl (bY rfl hK.nd.row) ?_;refine aM rfl (aY rfl rfl hK.res lq) ?_;rintro _ hz ⟨rfl,kz,xz,zz⟩;refine af ?_;refine ct (cj rfl kz.row cq) ?_;exact⟨_,rfl,bD hp hK.ext hK.st hK.tell (fun q=>by rw[ht6 q,(hgood (bZ hvc q)).1,(hgood (bZ hvc q)).2];rfl) xz⟩
 · simp only at hm;obtain⟨vc0,s3,hvc,hm⟩:=az hm;obtain⟨rfl,rfl⟩:Tr.mk 6 [] [va0,vb0,vc0]=t/\s3=s':=by cases hm;exact⟨rfl,rfl⟩
   refine af ?_;refine fF rfl (by simp) ?_;obtain⟨i1,i2,i3,i4,i5,i6,i7,_⟩:=id hK9;have i5l:=i5.lt;have i2z:=i2.size
   have hM:¬(h4.size=c.pb\/cv ((Value.slice (some ⟨h3.size,0,none⟩) 2 2)).ownBlock h4.size\/Array.size h9<=h4.size):=fun q=>by
    rcases q with q|q|q
    · omega
    · have:=i7 _ q.symm;omega
    · omega
   refine me 8 (fun b=>b=c.pb\/cv ((Value.slice (some ⟨h3.size,0,none⟩) 2 2)).ownBlock b\/Array.size h9<=b) (fun i=>Nat.blt i 7) ?_;refine aI 0 ?_;refine bI 1 rfl (fun h' e=>aA rfl (e.cell hM (i5.cell (i:=2) rfl))) ?_;refine aI 2 ?_;refine dH 3 rfl (aE rfl ((ih n (Nat.le_refl _)).choice _ _ _ _ _ i1 hvc)) ?_;rintro r6 h6 ⟨y6,hp6,t6,hn6,ht6⟩;refine⟨fun _=>y6.mono (fun _ _ q=>.inl q),?_⟩;have z6:=y6.size;obtain⟨mk,mt,ma,mn,mc,rfl,hr6⟩:=hn6.get;have ho6:=i6.qD y6 (fun b q q2=>by have:=i7 b q;omega) (fun b hb q=>by omega) (fun _ _ q=>q);obtain⟨css,hc1,hc2,hc3⟩:=id ho6;refine dH 4 rfl (ue) ?_;rintro _ _ ⟨rfl,rfl⟩;refine⟨fun _=>by first|exact Ext.push _ _ _|assumption,?_⟩;refine dH 5 rfl (uH rfl rfl hc2 rfl rfl (by simp) (by omega)) ?_;rintro v7 h7 ⟨ho7,hx7,hx7',hv7⟩;refine⟨fun _=>hx7'.mono (fun b _ q=>.inr (.inl q)),?_⟩;have z7:=hx7.size;obtain⟨va,vm,vc,rfl⟩:=uy ho7;refine aI 6 ?_;refine kX 7 rfl (mj rfl rfl (((i5.ext y6 (show ¬h4.size=c.pb by omega)).ext hx7 (fun q=>by have:=i7 _ q.symm;omega)))) ?_;rintro _ h8 ⟨rfl,k8,x8,z8⟩;refine⟨nofun,?_⟩
   have hr6':eN.R h6 (fun b=>cv ((Value.slice (some ⟨h3.size,0,none⟩) 2 2)).ownBlock b\/(b<=h.size\/b=h4.size)) [.int .i64 mk,.string (bs mt),.slice ma mn mc] t6:=bK hr6 (Ext.refl (fun _=>False) _) (fun b hb q=>⟨fun k=>k,fun q2=>by
    rcases q2 with q2|q2
    · have:=i7 _ q2.symm;omega
    · omega⟩)
   have ho7x:cH eN (fun b=>b<=h.size\/b=h4.size) h7 (h.size+1) 39 (.slice va vm vc) ([t2,t3]++[t6]):=cH.gq hc1 hc3 ho7 hx7 hv7 hr6'
   have hown7:∀b,(Value.slice va vm vc).ownBlock=some b->h.size<b/\b≠h4.size/\b<h7.size:=fun b q=>by
    have hl:=(ho7.lt q).2
    rcases hv7 b q with q2|q2
    · have:=i7 b q2;omega
    · omega
   have hK:F2 c h h8 h4.size 6 ([t2,t3]++[t6]) (.slice va vm vc) s3:=F2.mk ((hp6.ext hx7 (fun b hb q=>by have:=i7 _ q.symm;omega)).ext x8 (fun b hb q=>by omega)) (((i2.trans y6).bH hx7 (fun i hi q=>by have:=i7 _ q.symm;omega)).bH x8 (fun i hi q=>by omega)) (((i3.ext y6 (show ¬h.size=c.pb by omega)).ext hx7 (fun q=>by have:=i7 _ q.symm;omega)).ext x8 (show ¬h.size=h4.size by omega)) i4 k8 (ho7x.qD x8 (fun b q q2=>by have:=hown7 b q;omega) (fun b hb q=>.inr q) (fun _ _ q=>q)) (fun b q=>by have:=hown7 b q;omega) ⟨_,_,_,rfl⟩;refine iT ?_;refine af ?_;refine xp rfl (bY rfl hK.nd.row) ?_;refine aM rfl (aY rfl rfl hK.res lq) ?_;rintro _ hz ⟨rfl,kz,xz,zz⟩;refine af ?_;refine ct (cj rfl kz.row cq) ?_;exact⟨_,rfl,bD hp hK.ext hK.st hK.tell (fun q=>by rw[ht6 q,(hgood (bZ hvc q)).1,(hgood (bZ hvc q)).2];rfl) xz⟩
theorem vM (h:ai) (O:Nat->Prop):eF h O Rj HA:=eF.shut (aT.nil _ _ _)
theorem Lo (h:u.1=5):lZ u=some (.mk 0 u.2.1 []):=by unfold lZ;rw[if_pos h]
theorem Ln (h:u.1=9):lZ u=some (.mk 1 u.2.1 []):=by unfold lZ;rw[if_neg (by omega),if_pos h]
theorem Lq (h:u.1=3):lZ u=some (.mk 3 u.2.1 []):=by unfold lZ;rw[if_neg (by omega),if_neg (by omega),if_pos h]
theorem Lp (h:u.1=4) (h2:u.2.1=kI\/u.2.1=nC):lZ u=some (.mk 2 u.2.1 []):=by unfold lZ;rw[if_neg (by omega),if_neg (by omega),if_neg (by omega),if_pos ⟨h,h2⟩]
theorem Ka (h5:¬u.1=5) (h9:¬u.1=9) (h3:¬u.1=3) (h4:¬(u.1=4/\(u.2.1=kI\/u.2.1=nC))):lZ u=none:=by unfold lZ;rw[if_neg h5,if_neg h9,if_neg h3,if_neg h4]
theorem BI (ih:∀m,m<=n->BD m):Ct 218 [] .atom (n+1):=by
 intro c h s t s' hp hm;have hpl:=hp.lt;obtain⟨pb,lv,n0,us,e⟩:=c;obtain⟨i,b,m,hk,hl,hi,hs,hpn,hn0⟩:=id hp;dsimp only at hk hl hi hs hpn hn0 hpl hm ⊢;obtain⟨la,ln,lc,rfl,hls⟩:=hl.open;have hln:us.length=ln:=hls.len;subst hln;have hlm:=hls.cap;have hlc:=hls.le;simp only[maxLen] at hlm;cases s with
 |bad q =>
  obtain⟨rfl,rfl⟩:=hs;have hm:some (HA,PS.bad m)=some (t,s'):=hm;refine bL ?_;refine af ?_;refine xo rfl (cO) ?_;rintro _ h1 ⟨rfl,k1,e1,z1⟩;have hf:=eu (hp.ah e1);dsimp only at hf;refine cX ?_
  iterate 2 refine aX ?_
  refine F4 ?_
  iterate 3 refine ud ?_
  refine cG rfl (aA rfl ((hk.ah e1).cell (i:=3) rfl)) ?_;refine ud ?_;refine RQ.cV (d:=9) (b':=true) rfl (rfl) ?_;refine af ?_;refine fF rfl (by simp) ?_;refine af ?_;refine xo rfl (aE rfl hf) ?_;rintro _ h2 ⟨rfl,hp2,x2⟩;refine aM rfl (aY rfl rfl ((k1.ext x2 (show ¬h.size=pb by omega)))) ?_;rintro _ h3 ⟨rfl,k3,x3,z3⟩;refine af ?_;refine ct (cj rfl k3.row cq) ?_;obtain⟨rfl,rfl⟩:HA=t/\PS.bad m=s':=by cases hm;exact⟨rfl,rfl⟩
  exact⟨_,rfl,bD hp (e1.of.trans x2) hp2 (vM _ _) (fun _=>rfl) x3⟩
  |ok r =>
  obtain⟨rfl,hr⟩:=hs;cases r with
  |nil =>
   have hie:=DJ hr hi;have hm:some (HA,cI e (.ok []))=some (t,s'):=hm;refine bL ?_;refine af ?_;refine xo rfl (cO) ?_;rintro _ h1 ⟨rfl,k1,e1,z1⟩;have hf:=eu (hp.ah e1);dsimp only at hf;have hk1:=hk.ah e1;refine cX ?_
   iterate 2 refine aX ?_
   refine F4 ?_
   iterate 3 refine ud ?_
   refine cG rfl (aA rfl (hk1.cell (i:=3) rfl)) ?_;refine af ?_;refine RQ.cV (d:=9) (b':=false) rfl (rfl) ?_;refine af ?_;refine cG rfl (aA rfl (hk1.cell (i:=1) rfl)) ?_;refine af ?_;refine cG rfl (aA rfl (hk1.cell (i:=0) rfl)) ?_;refine af ?_;refine fF rfl (by simp;omega) ?_;refine af ?_;refine xo rfl (aE rfl hf) ?_;rintro _ h2 ⟨rfl,hp2,x2⟩;refine aM rfl (aY rfl rfl ((k1.ext x2 (show ¬h.size=pb by omega)))) ?_;rintro _ h3 ⟨rfl,k3,x3,z3⟩;refine af ?_;refine ct (cj rfl k3.row cq) ?_;obtain⟨rfl,rfl⟩:HA=t/\cI e (.ok [])=s':=by cases hm;exact⟨rfl,rfl⟩
   exact⟨_,rfl,bD hp (e1.of.trans x2) hp2 (vM _ _) (fun _=>rfl) x3⟩
   |cons u r =>
   obtain⟨hu,hil,hr'⟩:=HP hls hr;rw[pM] at hm;refine bL ?_;refine af ?_;refine xo rfl (cO) ?_;rintro _ h1 ⟨rfl,k1,e1,z1⟩;have hk1:=hk.ah e1;have hls1:=hls.mv (Mv.ah e1);obtain⟨b1,o1,u',hua,hub,hu',hrow⟩:=hls1.uj hil;rw[hu] at hu';cases hu';refine cX ?_
   iterate 2 refine aX ?_
   refine F4 ?_
   iterate 3 refine ud ?_
   refine cG rfl (aA rfl (hk1.cell (i:=3) rfl)) ?_;refine af ?_;refine RQ.cV (d:=9) (b':=false) rfl (rfl) ?_;refine af ?_;refine cG rfl (aA rfl (hk1.cell (i:=1) rfl)) ?_;refine af ?_;refine cG rfl (aA rfl (hk1.cell (i:=0) rfl)) ?_;refine af ?_;refine fe rfl (by simp;omega) ?_;refine af ?_;refine LR 12 11 ?_;refine aI 0 ?_;refine aI 1 ?_;refine aI 2 ?_;refine bI 3 rfl (fun h' e=>aA rfl (e.old (hk1.cell (i:=0) rfl))) ?_;refine aI 4 ?_;refine aI 5 ?_;refine aI 6 ?_;refine bI 7 rfl (fun h' e=>aA rfl (e.old (hk1.cell (i:=1) rfl))) ?_;refine bI 8 rfl (fun h' e=>cz rfl rfl i rfl hua) ?_;refine bI 9 rfl (fun h' e=>bY rfl (e.vD hrow)) ?_;refine dH 10 rfl (cO) ?_;rintro _ h2 ⟨rfl,k2,e2,z2⟩;refine⟨fun _=>e2.of,?_⟩;refine kX 11 rfl (aY rfl rfl k2 (by simpa using Ah u)) ?_;rintro _ h4 ⟨rfl,hku,x4,z4⟩;refine⟨nofun,?_⟩;have x14:Ext (fun b=>b=h1.size) h1 h4:=e2.of.trans x4;have x04:Ext (fun b=>b=pb) h h4:=e1.of.bH x14 (fun i hi q=>by omega);have hku:aD h4 h1.size 163 (sx u):=hku;have hk4:=hk1.ext x14 (show ¬pb=h1.size by omega);have hkr:=k1.ext x14 (show ¬h.size=h1.size by omega);have hls4:=hls1.mv (Mv.cx x14 fun b hb ho=>⟨fun q=>ho (by omega),ho⟩);have hp4:rO ⟨pb,_,n0,us,e⟩ h4 (.ok (u::r)):=⟨i,false,m,hk4,hls4.shut,hi,⟨rfl,hr⟩,hpn,by have:=x04.size;dsimp only;omega⟩
   refine iT ?_;refine af ?_;refine xp rfl (aA rfl (hku.cell (i:=0) rfl)) ?_;refine af ?_;refine aR (fun c5=>?_) (fun c5=>?_)
   · refine af ?_;refine xp rfl (aA rfl (hk4.cell (i:=1) rfl)) ?_;refine af ?_;refine aM rfl (mj rfl rfl hk4) ?_;rintro _ h5 ⟨rfl,k5,x5,z5⟩;have hu5:=hku.ext x5 (show ¬h1.size=pb by omega);refine af ?_;refine xp rfl (aA rfl (hu5.cell (i:=1) rfl)) ?_;refine xp rfl (av (H.ko _ _) rfl) ?_;refine aM rfl (aY rfl rfl ((hkr.ext x5 (show ¬h.size=pb by omega))) lq) ?_;rintro _ h6 ⟨rfl,k6,x6,z6⟩;refine af ?_;refine ct (cj rfl k6.row cq) ?_;rw[Lo c5] at hm;obtain⟨rfl,rfl⟩:Tr.mk 0 u.2.1 []=t/\PS.ok r=s':=by cases hm;exact⟨rfl,rfl⟩
     have hp5:rO ⟨pb,_,n0,us,e⟩ h5 (.ok r):=⟨i+1,false,m,k5,(hls4.mv (Mv.cx x5 fun b _ ho=>⟨fun q=>ho (.inl q),ho⟩)).shut,hil,⟨rfl,hr'⟩,hpn,by have:=x5.size;dsimp only;omega⟩
     exact⟨_,rfl,bD hp (x04.trans x5) hp5 (eF.shut (aT.nil _ _ _)) (fun _=>rfl) x6⟩
   · refine af ?_;refine xp rfl (aA rfl (hku.cell (i:=0) rfl)) ?_;refine af ?_;refine aR (fun c9=>?_) (fun c9=>?_)
     · refine af ?_;refine xp rfl (aA rfl (hk4.cell (i:=1) rfl)) ?_;refine af ?_;refine aM rfl (mj rfl rfl hk4) ?_;rintro _ h5 ⟨rfl,k5,x5,z5⟩;have hu5:=hku.ext x5 (show ¬h1.size=pb by omega);refine af ?_;refine xp rfl (aA rfl (hu5.cell (i:=1) rfl)) ?_;refine xp rfl (av (H.ko _ _) rfl) ?_;refine aM rfl (aY rfl rfl ((hkr.ext x5 (show ¬h.size=pb by omega))) lq) ?_;rintro _ h6 ⟨rfl,k6,x6,z6⟩;refine af ?_;refine ct (cj rfl k6.row cq) ?_;rw[Ln c9] at hm;obtain⟨rfl,rfl⟩:Tr.mk 1 u.2.1 []=t/\PS.ok r=s':=by cases hm;exact⟨rfl,rfl⟩
       have hp5:rO ⟨pb,_,n0,us,e⟩ h5 (.ok r):=⟨i+1,false,m,k5,(hls4.mv (Mv.cx x5 fun b _ ho=>⟨fun q=>ho (.inl q),ho⟩)).shut,hil,⟨rfl,hr'⟩,hpn,by have:=x5.size;dsimp only;omega⟩
       exact⟨_,rfl,bD hp (x04.trans x5) hp5 (eF.shut (aT.nil _ _ _)) (fun _=>rfl) x6⟩
     · refine af ?_;refine xp rfl (aA rfl (hku.cell (i:=0) rfl)) ?_;refine af ?_;refine aR (fun c3=>?_) (fun c3=>?_)
       · refine af ?_;refine xp rfl (aA rfl (hk4.cell (i:=1) rfl)) ?_;refine af ?_;refine aM rfl (mj rfl rfl hk4) ?_;rintro _ h5 ⟨rfl,k5,x5,z5⟩;have hu5:=hku.ext x5 (show ¬h1.size=pb by omega);refine af ?_;refine xp rfl (aA rfl (hu5.cell (i:=1) rfl)) ?_;refine xp rfl (av (H.ko _ _) rfl) ?_;refine aM rfl (aY rfl rfl ((hkr.ext x5 (show ¬h.size=pb by omega))) lq) ?_;rintro _ h6 ⟨rfl,k6,x6,z6⟩;refine af ?_;refine ct (cj rfl k6.row cq) ?_;rw[Lq c3] at hm;obtain⟨rfl,rfl⟩:Tr.mk 3 u.2.1 []=t/\PS.ok r=s':=by cases hm;exact⟨rfl,rfl⟩
         have hp5:rO ⟨pb,_,n0,us,e⟩ h5 (.ok r):=⟨i+1,false,m,k5,(hls4.mv (Mv.cx x5 fun b _ ho=>⟨fun q=>ho (.inl q),ho⟩)).shut,hil,⟨rfl,hr'⟩,hpn,by have:=x5.size;dsimp only;omega⟩
         exact⟨_,rfl,bD hp (x04.trans x5) hp5 (eF.shut (aT.nil _ _ _)) (fun _=>rfl) x6⟩
       · refine aX ?_;refine fL [(75,.bool (decide (u.1=4/\(u.2.1=kI\/u.2.1=nC))))] rfl ?_ ?_
         · refine af ?_;refine xp rfl (aA rfl (hku.cell (i:=0) rfl)) ?_;refine af ?_;refine dG 79 (fun g4=>?_) (fun g4=>?_)
           · have g4:=of_decide_eq_true g4;refine af ?_;refine xp rfl (aA rfl (hku.cell (i:=1) rfl)) ?_;refine af ?_;refine dG 83 (fun gt=>?_) (fun gt=>?_)
             · have gt:u.2.1=kI:=bl (of_decide_eq_true gt);refine af ?_;exact aF rfl ⟨au rfl (by rw[decide_eq_true ⟨g4,.inl gt⟩]),sb rfl⟩
             · have gt:¬u.2.1=kI:=fun q=>of_decide_eq_false gt (congrArg bs q)
               refine af ?_;refine xp rfl (aA rfl (hku.cell (i:=1) rfl)) ?_;refine af ?_;exact aF rfl ⟨au rfl (by rw[Bool.eq_iff_iff,decide_eq_true_iff,decide_eq_true_iff];exact⟨fun q=>⟨g4,.inr (bl q)⟩,fun q=>congrArg bs (q.2.resolve_left gt)⟩),sb rfl⟩
           · have g4:=of_decide_eq_false g4;refine af ?_;exact aF rfl ⟨au rfl (by rw[decide_eq_false (fun q=>g4 q.1)]),sb rfl⟩
         · refine aR (fun c4=>?_) (fun c4=>?_)
           · refine af ?_;refine xp rfl (aA rfl (hk4.cell (i:=1) rfl)) ?_;refine af ?_;refine aM rfl (mj rfl rfl hk4) ?_;rintro _ h5 ⟨rfl,k5,x5,z5⟩;have hu5:=hku.ext x5 (show ¬h1.size=pb by omega);refine af ?_;refine xp rfl (aA rfl (hu5.cell (i:=1) rfl)) ?_;refine xp rfl (av (H.ko _ _) rfl) ?_;refine aM rfl (aY rfl rfl ((hkr.ext x5 (show ¬h.size=pb by omega))) lq) ?_;rintro _ h6 ⟨rfl,k6,x6,z6⟩;refine af ?_;refine ct (cj rfl k6.row cq) ?_;rw[Lp c4.1 c4.2] at hm;obtain⟨rfl,rfl⟩:Tr.mk 2 u.2.1 []=t/\PS.ok r=s':=by cases hm;exact⟨rfl,rfl⟩
             have hp5:rO ⟨pb,_,n0,us,e⟩ h5 (.ok r):=⟨i+1,false,m,k5,(hls4.mv (Mv.cx x5 fun b _ ho=>⟨fun q=>ho (.inl q),ho⟩)).shut,hil,⟨rfl,hr'⟩,hpn,by have:=x5.size;dsimp only;omega⟩
             exact⟨_,rfl,bD hp (x04.trans x5) hp5 (eF.shut (aT.nil _ _ _)) (fun _=>rfl) x6⟩
           · have hno:=Ka c5 c9 c3 c4;rw[hno] at hm;simp only at hm;refine aX ?_;refine fL [(99,.bool (decide (u.1=7/\u.2.1=[123])))] rfl ?_ ?_
             · refine af ?_;refine xp rfl (aA rfl (hku.cell (i:=0) rfl)) ?_;refine af ?_;refine dG 103 (fun g4=>?_) (fun g4=>?_)
               · have g4:=of_decide_eq_true g4;refine af ?_;refine xp rfl (aA rfl (hku.cell (i:=1) rfl)) ?_;refine af ?_;exact aF rfl ⟨au rfl (by rw[Bool.eq_iff_iff,decide_eq_true_iff,decide_eq_true_iff];exact⟨fun q=>⟨g4,bl q⟩,fun q=>congrArg bs q.2⟩),sb rfl⟩
               · have g4:=of_decide_eq_false g4;refine af ?_;exact aF rfl ⟨au rfl (by rw[decide_eq_false (fun q=>g4 q.1)]),sb rfl⟩
             · refine aR (fun cb=>?_) (fun cb=>?_)
               · rw[if_pos cb] at hm;have hcall:=(ih n (Nat.le_refl _)).block ⟨pb,_,n0,us,e⟩ _ _ _ _ hp4 hm;refine af ?_;refine xo rfl (aE rfl hcall) ?_;rintro r9 g9 ⟨y9,hp9,t9,hn9,ht9⟩;have k9:=hkr.ext y9 (show ¬h.size=pb by omega);obtain⟨nk,nt,na,nn,nc,rfl,_⟩:=hn9.get;refine aM rfl (aY rfl rfl k9) ?_;rintro _ g10 ⟨rfl,k10,x10,z10⟩;refine af ?_;refine ct (cj rfl k10.row cq) ?_;exact⟨_,rfl,dW.ret ⟨y9,hp9,t9,hn9,ht9⟩ hp x04 x10 (Nat.le_refl _) hkr.lt⟩
               · rw[if_neg cb] at hm;refine aX ?_;refine fL [(110,.bool (decide (u.1=7/\u.2.1=[40])))] rfl ?_ ?_
                 · refine af ?_;refine xp rfl (aA rfl (hku.cell (i:=0) rfl)) ?_;refine af ?_;refine dG 114 (fun g4=>?_) (fun g4=>?_)
                   · have g4:=of_decide_eq_true g4;refine af ?_;refine xp rfl (aA rfl (hku.cell (i:=1) rfl)) ?_;refine af ?_;exact aF rfl ⟨au rfl (by rw[Bool.eq_iff_iff,decide_eq_true_iff,decide_eq_true_iff];exact⟨fun q=>⟨g4,bl q⟩,fun q=>congrArg bs q.2⟩),sb rfl⟩
                   · have g4:=of_decide_eq_false g4;refine af ?_;exact aF rfl ⟨au rfl (by rw[decide_eq_false (fun q=>g4 q.1)]),sb rfl⟩
                 · refine aR (fun cp=>?_) (fun cp=>?_)
                   · rw[if_pos cp] at hm;obtain⟨v,s1,hv,hm⟩:=az hm;obtain⟨rfl,rfl⟩:v=t/\cC e 8 [41] s1=s':=by cases hm;exact⟨rfl,rfl⟩
                     refine af ?_;refine xp rfl (aA rfl (hk4.cell (i:=1) rfl)) ?_;refine af ?_;refine aM rfl (mj rfl rfl hk4) ?_;rintro _ h5 ⟨rfl,k5,x5,z5⟩;have hp5:rO ⟨pb,_,n0,us,e⟩ h5 (.ok r):=⟨i+1,false,m,k5,(hls4.mv (Mv.cx x5 fun b _ ho=>⟨fun q=>ho (.inl q),ho⟩)).shut,hil,⟨rfl,hr'⟩,hpn,by have:=x5.size;dsimp only;omega⟩
                     have hcall:=(ih n (Nat.le_refl _)).expr ⟨pb,_,n0,us,e⟩ _ _ _ _ hp5 hv;refine af ?_;refine xo rfl (aE rfl hcall) ?_;rintro r6 h6 ⟨y6,hp6,t6,hn6,ht6⟩;obtain⟨nk,nt,na,nn,nc,rfl,hr6⟩:=hn6.get;have z6:=y6.size;have z4':=x04.size;refine xo rfl (cO) ?_;rintro _ h7 ⟨rfl,k7,e7,z7⟩;refine aM rfl (aY rfl rfl k7 lq) ?_;rintro _ h8 ⟨rfl,k8,x8,z8⟩;have x68:Ext (fun b=>b=h6.size) h6 h8:=e7.of.trans x8;have hp8:=hp6.ext x68 (fun b (hb:b<n0) q=>by omega);have hmust:=gD hp8 8 [41];dsimp only at hmust;refine af ?_;refine xo rfl (aE rfl hmust) ?_;rintro _ h9 ⟨hp9,x9⟩;have y6':Ext (fun b=>b=pb) h5 h6:=y6;refine af ?_;refine xp rfl (bY rfl (k8.ext x9 (show ¬h6.size=pb by omega)).row) ?_;refine aM rfl (aY rfl rfl (((((hkr.ext x5 (show ¬h.size=pb by omega)).ext y6' (show ¬h.size=pb by omega)).ext x68 (show ¬h.size=h6.size by omega)).ext x9 (show ¬h.size=pb by omega))) lq) ?_;rintro _ hz ⟨rfl,kz,xz,zz⟩;refine af ?_;refine ct (cj rfl kz.row cq) ?_;have x09:Ext (fun b=>b=pb) h h9:=(((x04.trans x5).trans y6').bH x68 (fun i hi q=>by omega)).trans x9;exact⟨_,rfl,bD hp x09 hp9 (eF.of (bK (bK (O':=fun b=>b<=h.size) hr6 x68 (fun b hb q=>⟨fun q2=>by omega,fun q2=>q (by omega)⟩)) x9 (fun b hb q=>⟨fun q2=>q (by omega),q⟩))) (fun q=>by rw[ht6 (fq q)]) xz⟩
                   · rw[if_neg cp] at hm;obtain⟨rfl,rfl⟩:HA=t/\cI e (.ok (u::r))=s':=by cases hm;exact⟨rfl,rfl⟩
                     have hf:=eu hp4;dsimp only at hf;refine af ?_;refine xo rfl (aE rfl hf) ?_;rintro _ h5 ⟨rfl,hp5,x5⟩;refine aM rfl (aY rfl rfl ((hkr.ext x5 (show ¬h.size=pb by omega)))) ?_;rintro _ h6 ⟨rfl,k6,x6,z6⟩;refine af ?_;refine ct (cj rfl k6.row cq) ?_;exact⟨_,rfl,bD hp (x04.trans x5) hp5 (vM _ _) (fun _=>rfl) x6⟩
theorem IE:BD 0:=by
 have z:∀f ex j,Ct f ex j 0:=fun f ex j c h s t s' hp hm=>by cases hm
 exact⟨z _ _ _,z _ _ _,fun _=>z _ _ _,z _ _ _,z _ _ _,z _ _ _,z _ _ _,z _ _ _,z _ _ _,z _ _ _,z _ _ _,z _ _ _,z _ _ _,z _ _ _,z _ _ _⟩
theorem KH:∀n,BD n:=by
 intro n
 induction n using Nat.strongRecOn with
 |_ n ih =>
  cases n with
  |zero=>exact IE
  |succ n =>
   have ih:∀m,m<=n->BD m:=fun m hm=>ih m (Nat.lt_succ_of_le hm)
   exact⟨BF ih,BG ih,DC ih,xZ ih,DD ih,Ac ih,F6 ih,DE ih,DB ih,uI ih,Dz ih,BE ih,zY ih,BH ih,BI ih⟩
def lX (p:UInt8×UInt8):List Value:=[.int .u8 p.1.toNat,.int .u8 p.2.toNat]
def M4:List Value:=iX.flatMap lX
def oF (h:ai):Prop:=Lw.rowAt h 1 0 M4
theorem oF.ah {h':ai}(k:oF h) (e:aj h h'):oF h':=e.rowAt (fun k=>k) k
theorem M3 (i:Nat) (hi:i<6):M4.toArray.extract (i*2) (i*2+2)=(lX (iX.getD i (0,0))).toArray:=by
 match i,hi with
 | 0,_=>rfl
 | 1,_=>rfl
 | 2,_=>rfl
 | 3,_=>rfl
 | 4,_=>rfl
 | 5,_=>rfl
theorem II (p:UInt8×UInt8):∀v∈lX p,v.oneCell'=true:=fun v hv=>by simp[lX] at hv;rcases hv with rfl|rfl<;>rfl
theorem Mt (a b:UInt8):((a.toNat:Int)=(b.toNat:Int))↔a=b:=⟨fun h=>UInt8.toNat_inj.1 (Int.ofNat.inj h),fun h=>by rw[h]⟩
theorem nY {p:α->Bool}{l:List α}(h:∀a∈l.take i,p a=false) (hi:i=l.length):l.find? p=none:=by
 subst hi;rw[List.take_length] at h;rw[List.find?_eq_none];intro a ha;rw[h a ha];simp
theorem FH {p:α->Bool}{l:List α}{a:α}(h:∀a∈l.take i,p a=false) (ha:l[i]? =some a) (hp:p a=true):l.find? p=some a:=by
 induction l generalizing i with
 |nil=>simp at ha
 |cons b l ih =>
  cases i with
  |zero=>simp at ha;subst ha;rw[List.find?_cons_of_pos hp]
  |succ i =>
   rw[List.find?_cons_of_neg (by rw[h b (by simp)];simp)];exact ih (i:=i) (fun a ha=>h a (by simp[ha])) (by simpa using ha)
theorem xY (hg:oF h) (s:By):aq Tryz.prog 71 #[.string (bs s)] h (bw fun r h'=>r= .int .u8 (rA s).toNat/\aj h h'):=by
 have hbs:=aG s;refine bL ?_;refine af ?_;refine aR (fun hlt=>?_) (fun hlt=>?_)
 · refine af ?_;refine bp ?_;have h1:s[1]? =none:=List.getElem?_eq_none (by omega);exact⟨_,rfl,by unfold rA;rw[h1];rfl,Ext.refl _ _⟩
 · obtain⟨c,hc⟩:∃c,s[1]? =some c:=⟨_,List.getElem?_eq_getElem (show 1<s.length by omega)⟩
   have hE:rA s=K7 c:=by unfold rA;rw[hc]
   rw[hE];refine af ?_;refine xp rfl (bY rfl hg) ?_;refine af ?_;refine gY (σ:=Nat) (fun i=>[(9,.int .i64 (i:Nat))]) (fun i h'=>aj h h'/\i<=6/\∀p∈iX.take i,(p.1 ==c)=false) (fun i=>6-i) (0) ⟨Ext.refl _ _,by omega,by simp⟩ rfl ?_;rintro i g ⟨eg,hi,hin⟩ ih;refine af ?_;refine aR (fun hi6=>?_) (fun hi6=>?_)
   · have hil:i<6:=by omega
     obtain⟨p,hp⟩:∃p,iX[i]? =some p:=⟨_,List.getElem?_eq_getElem (show i<iX.length from hil)⟩
     have hpd:iX.getD i (0,0)=p:=by rw[List.getD_eq_getElem?_getD,hp];rfl
     have hcut:=M3 i hil;rw[hpd] at hcut;refine af ?_;refine xp rfl (ay.G3 underlying210 H.Ia H.Me rfl rfl i rfl hil hcut) ?_;refine xo rfl (cO) ?_;rintro _ g1 ⟨rfl,k1,e1,z1⟩;refine aM rfl (aY rfl rfl k1 (II p)) ?_;rintro _ g2 ⟨rfl,k2,x2,z2⟩;have k2:aD g2 g.size 209 (lX p):=k2;have e02:aj h g2:=aj.only (eg.trans e1) x2 (by have:=eg.size;omega);refine cX ?_;refine aX ?_;refine sS (fun b=>Array.size g2<=b) (fun i=>Nat.blt i 5) (sz:=5) (listed:= #[false,false,false,false,false]) func71 H.mixed rfl rfl rfl ?_;refine aI 0 ?_;refine bI 1 rfl (fun h' e=>aA rfl (e.old (k2.cell (i:=0) rfl))) ?_;refine aI 2 ?_;refine bI 3 rfl (fun h' e=>BA rfl rfl 1 rfl (ia hc)) ?_;refine aI 4 ?_;refine iT ?_;refine aR (fun he=>?_) (fun he=>?_)
     · have he:p.1=c:=(Mt _ _).1 (by omega);refine af ?_;refine xp rfl (aA rfl (k2.cell (i:=1) rfl)) ?_;refine af ?_;refine bp ?_;refine⟨_,rfl,?_,e02⟩;unfold K7;rw[FH hin hp (by rw[he];simp)];rfl
     · have he:¬p.1=c:=fun q=>he (by rw[q])
       refine af ?_;exact ih (i+1) ⟨e02,by omega,fun q hq=>by rw[List.take_add_one,hp,List.mem_append] at hq;rcases hq with hq|hq;exact hin q hq;simp at hq;subst hq;simpa using he⟩
   · obtain rfl:i=6:=by omega
     refine af ?_;refine xp rfl (BA rfl rfl 1 rfl (ia hc)) ?_;refine af ?_;refine bp ?_;refine⟨_,rfl,?_,eg⟩;unfold K7;rw[nY hin rfl];rfl
theorem yb {tb:Nat}(hb:aD h tb 9 [.string (bs s)]) (t:Tok):aq Tryz.prog 118 #[.agg (fB t).toArray,ptr tb] h (bw fun r h'=>r= .bool (!yp s t)/\aj h h'):=by
 have hbs:=aG s;refine bL ?_;refine af ?_;refine xo rfl (jj) ?_;rintro _ h1 ⟨rfl,k1,e1,z1⟩;have k1:aD h1 h.size 87 (fB t):=k1;have hb1:=hb.ah e1;refine aW ?_;refine cX ?_;refine aX ?_;refine fL [(3,.bool (!yp s t))] rfl ?_ ?_
 · refine af ?_;refine xp rfl (aA rfl (k1.cell (i:=1) rfl)) ?_;refine af ?_;refine dG 7 (fun g=>?_) (fun g=>?_)
   · have g:=of_decide_eq_true g;refine af ?_;exact aF rfl ⟨au rfl (by unfold yp;rw[decide_eq_false (by omega)];rfl),sb rfl⟩
   · have g:=of_decide_eq_false g;refine af ?_;refine xp rfl (aA rfl (k1.cell (i:=2) rfl)) ?_;refine xp rfl (aA rfl (hb1.cell (i:=0) rfl)) ?_;refine af ?_;refine dG 14 (fun g2=>?_) (fun g2=>?_)
     · have g2:=of_decide_eq_true g2;refine af ?_;exact aF rfl ⟨au rfl (by unfold yp;rw[decide_eq_true (show 0<=t.2.1 by omega),decide_eq_false (by omega)];rfl),sb rfl⟩
     · have g2:=of_decide_eq_false g2;refine af ?_;refine xp rfl (aA rfl (k1.cell (i:=1) rfl)) ?_;refine af ?_;refine xp rfl (aA rfl (k1.cell (i:=2) rfl)) ?_;refine af ?_;exact aF rfl ⟨au rfl (by unfold yp;rw[decide_eq_true (show 0<=t.2.1 by omega),decide_eq_true (show t.2.2<=s.length by omega),Bool.true_and,Bool.true_and,<-decide_not,decide_eq_decide];omega),sb rfl⟩
 · refine bp ?_;exact⟨_,rfl,rfl,e1⟩
theorem AZ {gf:FuncId}{caps:List Value}(hf:LN Tryz.prog gf) (hv:aT Ld h (fun _=>False) v ts) (p:Tok->Bool)
 (hp:∀t g,aj h g->aq Tryz.prog gf ([Value.agg (fB t).toArray]++caps).toArray g (bw fun r h'=>r= .bool (p t)/\aj g h')) :
 aq Tryz.prog 155 #[v,.func (.func gf) #[] caps.toArray] h (bw fun r h'=>(∃i:Int,r= .int .i64 i/\decide (0<=i)=ts.any p)/\aj h h'):=by
 obtain⟨va,vn,vc,rfl,hvs⟩:=hv.open;have hvl:ts.length=vn:=hvs.len;subst hvl;have hvm:=hvs.cap;have hvc:=hvs.le;simp only[maxLen] at hvm;refine bL ?_;refine af ?_;refine gY (σ:=Nat) (fun i=>[(8,.int .i64 (i:Nat))]) (fun i h'=>aj h h'/\i<=ts.length/\(ts.take i).any p=false) (fun i=>ts.length-i) (0) ⟨Ext.refl _ _,Nat.zero_le _,by simp⟩ rfl ?_;rintro i g ⟨eg,hi,hin⟩ ih;refine af ?_;refine aR (fun hlt=>?_) (fun hlt=>?_)
 · have hil:i<ts.length:=by omega
   have hvg:=hvs.mv (Mv.ah eg);obtain⟨b,o,t,ha,_,ht,hrow⟩:=hvg.uj hil;have hpt:=hp t g eg
   iterate 4 refine aX ?_
   refine cD ?_
   iterate 2 refine aW ?_
   refine cX ?_;refine aX ?_;refine cD ?_
   iterate 3 refine aW ?_
   refine xp rfl (cz rfl rfl i rfl ha) ?_;refine xp rfl (bY rfl hrow) ?_;refine xo rfl (aQ.FR (vs:=[_]) rfl hf rfl (aq.HV (hpt))) ?_;rintro _ g1 ⟨rfl,e1⟩;refine af ?_;refine iM (fun hb=>?_) (fun hb=>?_)
   · have hb:p t=true:=hb;refine af ?_;refine bp ?_;refine⟨_,rfl,⟨i,rfl,?_⟩,eg.trans e1⟩;rw[decide_eq_true (by omega)];exact(List.any_eq_true.2 ⟨t,List.mem_of_getElem? ht,hb⟩).symm
   · have hb:p t=false:=hb;refine af ?_;exact ih (i+1) ⟨eg.trans e1,by omega,by rw[List.take_add_one,ht,List.any_append,hin];simp[hb]⟩
 · obtain rfl:i=ts.length:=by omega
   rw[List.take_length] at hin;refine af ?_;refine bp ?_;exact⟨_,rfl,⟨-1,rfl,by rw[hin];rfl⟩,eg⟩
theorem uo {h1:ai}(hv:aT Ld h1 (fun _=>False) v ts) (k1:aD h1 h.size 9 [.string (bs s)]):aq Tryz.prog 117 #[v,.func (.func 118) #[] #[ptr h.size]] h1 (bw fun r h'=>r= .bool (ts.any fun t=> !yp s t)/\aj h1 h'):=by
 have hi:=AZ (h:=h1) (gf:=118) (caps:=[ptr h.size]) ⟨_,func118,rfl,by kernel_rfl⟩ hv (fun t=> !yp s t) (fun t g eg=>yb (k1.ah eg) t);refine bL ?_;refine af ?_;refine xo rfl (aE rfl hi) ?_;rintro _ h2 ⟨⟨i,rfl,hi2⟩,e2⟩;refine af ?_;refine bp ?_;exact⟨_,rfl,by rw[<-hi2];rfl,e2⟩
theorem xW (hv:aT Ld h (fun _=>False) v ts) (s:By):aq Tryz.prog 70 #[.string (bs s),v] h (bw fun r h'=>r= .bool (ts.all (yp s))/\aj h h'):=by
 refine bL ?_;refine af ?_;refine xo rfl (jj) ?_;rintro _ h1 ⟨rfl,k1,e1,z1⟩;have hc:=uo (hv.ah e1) (show aD h1 h.size 9 [.string (bs s)] from k1);refine af ?_;refine xp rfl (ay.makeFunc (vs:=[_]) rfl) ?_;refine xo rfl (aE rfl hc) ?_;rintro _ h2 ⟨rfl,e2⟩;refine af ?_;refine bp ?_;refine⟨_,rfl,?_,e1.trans e2⟩;rw[List.all_eq_not_any_not];rfl
theorem Jt (h:yp s t=true):∃f q:Nat,t.2.1=f/\t.2.2=q/\f<=q/\q<=s.length/\cB s t=(s.take q).drop f:=by
 unfold yp at h;simp only[Bool.and_eq_true,decide_eq_true_eq] at h;obtain⟨⟨h1,h2⟩,h3⟩:=h;refine⟨t.2.1.toNat,t.2.2.toNat,by omega,by omega,by omega,by omega,?_⟩;unfold cB;rw[List.drop_take]
theorem Gd (s:By) (t:Tok):(cB s t).length<=s.length:=by
 unfold cB;rw[List.length_take,List.length_drop];omega
theorem DI (h:ts[i]? =some t) (out:List Un) (op:Bool) :
 dX s (ts.drop i) out op=match fR s out op t with|.er a e=>.er a e|.go out op=>dX s (ts.drop (i+1)) out op:=by
 obtain⟨hi,rfl⟩:=List.getElem?_eq_some_iff.1 h;rw[List.drop_eq_getElem_cons hi];rfl
theorem Iq (pre:List α) (u y:α):(pre++[u]).set pre.length y=pre++[y]:=by
 rw[List.set_append_right _ _ (Nat.le_refl _),Nat.sub_self];rfl
theorem lY {T:TypeId}(c:UInt8):aT .byte (h.push (.cells #[.int .u8 c.toNat] T)) (fun _=>False) (.slice (some ⟨h.size,0,none⟩) 1 1) [c] :=
 Dv.read (ku sy h T [c] 1 rfl (by decide) 0 (Nat.zero_le _) rfl) (fun _ _ k=>k)
def Sp (h':ai) (r:Value):(Int×Int) ⊕ List Un->Prop
 |.inl p=>r=packed [.slice none 0 0,.int .i64 p.1,.int .i64 p.2]
 |.inr us=>us.length<=500/\∃uv,r=packed [uv,.int .i64 0,.int .i64 0]/\aT Rm h' (fun _=>False) uv us
theorem zX (hg:oF h) (hv:aT Ld h (fun _=>False) v ts) (s:By) (st:uF) (hb:ts.length*(s.length+2)<=1000000000000) (hsl:s.length<=1000000000000) :
 aq Tryz.prog 36 #[.string (bs s),v,.agg (bU st).toArray] h (bw fun r h'=>aj h h'/\Sp h' r (eR s ts st.1)):=by
 obtain⟨va,vn,vc,rfl,hvs⟩:=id hv.open;have hvl:ts.length=vn:=hvs.len;subst hvl;have hvm:=hvs.cap;have hvc:=hvs.le;simp only[maxLen] at hvm;refine bL ?_;refine af ?_;refine xo rfl (jj) ?_;rintro _ h1 ⟨rfl,k1,e1,z1⟩;refine af ?_;refine xo rfl (aE rfl (xW (hv.ah e1) s)) ?_;rintro _ h2 ⟨rfl,e2⟩;have k1:aD h2 h.size 57 (bU st):=k1.ah e2;have e02:=e1.trans e2;refine af ?_;refine iM (fun hw=>?_) (fun hw=>?_)
 · have hw:ts.all (yp s)=false:=by simpa using hw
   refine af ?_;refine bp ?_;refine⟨_,rfl,e02,?_⟩;unfold eR;rw[if_neg (by rw[hw];simp)];rfl
 · have hw:ts.all (yp s)=true:=by simpa using hw
   have hU:eR s ts st.1=match dX s ts [] false with|.er a e=>.inl (a,e)|.go out op=>if op=true\/st.1≠0 then .inl (s.length,10) else .inr out:=by
    unfold eR;rw[if_pos hw];rfl
   rw[hU];generalize htg0:dX s ts [] false=tgt;refine af ?_;refine gY (σ:=Nat×List Un×Bool×Value) (fun w=>[(6,w.2.2.2),(9,.bool w.2.2.1),(19,.int .i64 (w.1:Nat))]) (fun w g=>w.1<=ts.length/\aj h2 g/\h2.size<=g.size/\mh 3 sx g h2.size 163 w.2.2.2 w.2.1/\dX s (ts.drop w.1) w.2.1 w.2.2.1=tgt/\w.2.1.length<=500/\(w.2.2.1=true->w.2.1≠[])/\(∀u∈w.2.1,u.2.1.length<=w.1*(s.length+2))) (fun w=>ts.length-w.1) ((0,[],false,.slice none 0 0)) ⟨Nat.zero_le _,Ext.refl _ _,Nat.le_refl _,mh.nil _ _ _ _ _,htg0,by simp,(fun k=>by cases k),by simp⟩ rfl ?_;rintro⟨i,out,op,ov⟩ g ⟨hi,eg,hz,how,htg,hol,hop,hut⟩ ih
   try dsimp only
   dsimp only at hi how htg hol hop hut;have hho:aB g h2.size 163 3 ov out.length (out.flatMap sx):=how;obtain⟨oa,oc,rfl,_⟩:=hho.open;refine af ?_;refine aR (fun hlt=>?_) (fun hlt=>?_)
   · have hil:i<ts.length:=by omega
     have hmul:(i+1)*(s.length+2)<=ts.length*(s.length+2):=Nat.mul_le_mul_right _ hil;have hsuc:(i+1)*(s.length+2)=i*(s.length+2)+(s.length+2):=Nat.succ_mul _ _;have hbig:∀n,n<=i*(s.length+2)->n<=(i+1)*(s.length+2):=fun n hn=>by omega
     have hvg:=hvs.mv (Mv.ah (e02.trans eg));obtain⟨b,o,t,ha,_,ht,hrow⟩:=hvg.uj hil;have hint:yp s t=true:=List.all_eq_true.1 hw t (List.mem_of_getElem? ht);obtain⟨f,q,hf,hq,hfq,hqs,htx⟩:=Jt hint;have htl:=Gd s t;have hstep:=DI (s:=s) ht out op;have hbz:=aG s
     iterate 4 refine aX ?_
     refine cD ?_;refine xp rfl (cz rfl rfl i rfl ha) ?_;refine xp rfl (bY rfl hrow) ?_;refine xo rfl (cO) ?_;rintro _ g1 ⟨rfl,k2,e3,z3⟩;refine aM rfl (aY rfl rfl k2 (pS t)) ?_;rintro _ g2 ⟨rfl,kt,x2,z2⟩;have kt:aD g2 g.size 87 (fB t):=kt;have eg2:aj g g2:=aj.only e3 x2 (Nat.le_refl _);have how2:=how.ah eg2;have hho2:aB g2 h2.size 163 3 (.slice oa out.length oc) out.length (out.flatMap sx):=how2;have egg:=eg.trans eg2;refine af ?_;refine xp rfl (aA rfl (kt.cell (i:=1) rfl)) ?_;refine af ?_;refine xp rfl (aA rfl (kt.cell (i:=2) rfl)) ?_;refine xp rfl (ay.B0 underlying9 rfl rfl f hf rfl q hq hfq (by omega)) ?_;rw[Bg _ _ _ hfq,<-htx];refine af ?_;refine xp rfl (aA rfl (kt.cell (i:=0) rfl)) ?_;refine af ?_;refine aR (fun h0=>?_) (fun h0=>?_)
     · have hu:fR s out op t= .er t.2.1 10:=by unfold fR;rw[if_pos h0]
       rw[hstep,hu] at htg;refine af ?_;refine cG rfl (aA rfl (kt.cell (i:=1) rfl)) ?_;refine af ?_;refine bp ?_;exact⟨_,rfl,e02.trans egg,by rw[<-htg];rfl⟩
     · rcases op with _|_
       · refine aX ?_;refine fL [(35,.bool false)] rfl ?_ ?_
         · refine af ?_;refine RW.cV (d:=37) (b':=false) rfl (rfl) ?_;refine af ?_;exact aF rfl ⟨au rfl (rfl),sb rfl⟩
         · refine fe rfl (by simp) ?_;refine aX ?_;refine fL [(46,.bool false)] rfl ?_ ?_
           · refine af ?_;refine RW.cV (d:=48) (b':=false) rfl (rfl) ?_;refine af ?_;exact aF rfl ⟨au rfl (rfl),sb rfl⟩
           · refine fe rfl (by simp) ?_;refine af ?_;refine fe rfl (by simp) ?_
             have hu0:fR s out false t=(if t.1=1\/t.1=2\/t.1=11 then .go out false else if out.length=500 then .er t.2.1 3 else .go (out++[(t.1,if t.1=9 then [] else cB s t,t.2.1)]) (decide (t.1=9))):=by
              unfold fR;rw[if_neg h0];rfl
             refine af ?_;refine xp rfl (aA rfl (kt.cell (i:=0) rfl)) ?_;refine af ?_;refine aR (fun c1=>?_) (fun c1=>?_)
             · refine af ?_;refine fF rfl (by simp[c1]) ?_;refine af ?_;exact ih (i+1,out,false,(.slice oa out.length oc)) ⟨by show i+1<=ts.length;omega,egg,by have:=(egg).size;omega,how2,by rw[hstep,(hu0.trans (if_pos (.inl c1)))] at htg;exact htg,hol,(fun k=>by cases k),(fun u hu=>hbig _ (hut u hu))⟩
             · refine af ?_;refine xp rfl (aA rfl (kt.cell (i:=0) rfl)) ?_;refine af ?_;refine aR (fun c2=>?_) (fun c2=>?_)
               · refine af ?_;refine fF rfl (by simp[c2]) ?_;refine af ?_;exact ih (i+1,out,false,(.slice oa out.length oc)) ⟨by show i+1<=ts.length;omega,egg,by have:=(egg).size;omega,how2,by rw[hstep,(hu0.trans (if_pos (.inr (.inl c2))))] at htg;exact htg,hol,(fun k=>by cases k),(fun u hu=>hbig _ (hut u hu))⟩
               · refine af ?_;refine xp rfl (aA rfl (kt.cell (i:=0) rfl)) ?_;refine af ?_;refine aR (fun c3=>?_) (fun c3=>?_)
                 · refine af ?_;exact ih (i+1,out,false,(.slice oa out.length oc)) ⟨by show i+1<=ts.length;omega,egg,by have:=(egg).size;omega,how2,by rw[hstep,(hu0.trans (if_pos (.inr (.inr c3))))] at htg;exact htg,hol,(fun k=>by cases k),(fun u hu=>hbig _ (hut u hu))⟩
                 · rw[if_neg (fun q=>by omega)] at hu0;refine af ?_;refine xp rfl (aA rfl (kt.cell (i:=0) rfl)) ?_;refine af ?_;refine aR (fun c9=>?_) (fun c9=>?_)
                   · refine af ?_;refine aR (fun c500=>?_) (fun c500=>?_)
                     · have c500:out.length=500:=by omega
                       rw[if_pos c500] at hu0;rw[hstep,hu0] at htg;refine af ?_;refine cG rfl (aA rfl (kt.cell (i:=1) rfl)) ?_;refine af ?_;refine bp ?_;exact⟨_,rfl,e02.trans egg,by rw[<-htg];rfl⟩
                     · have c500:¬out.length=500:=by omega
                       rw[if_neg c500] at hu0;refine af ?_;refine xp rfl (aA rfl (kt.cell (i:=0) rfl)) ?_;refine af ?_;refine xp rfl (aA rfl (kt.cell (i:=1) rfl)) ?_;refine xp rfl (av (H.tV _ _ _) rfl) ?_;refine xo rfl (ue) ?_;rintro _ _ ⟨rfl,rfl⟩;refine xo rfl (aQ.gG underlying90 H.JP rfl rfl (hho2) rfl rfl (Ah (t.1,([]:By),t.2.1)) (by omega) (by decide) (by omega)) ?_;rintro v2 g4 ⟨ho4,hx4,hx4',hv4⟩;have ho5:mh 3 sx g4 h2.size 163 v2 (out++[(t.1,([]:By),t.2.1)]):=mh.of ho4 rfl rfl;have e24:aj h2 g4:=Ext.own egg hho2 (Nat.le_refl _) hx4;have hu1:fR s out false t= .go (out++[(t.1,([]:By),t.2.1)]) true:=hu0.trans (by simp[c9]);refine af ?_;exact ih (i+1,(out++[(t.1,([]:By),t.2.1)]),true,v2) ⟨by show i+1<=ts.length;omega,e24,by have:=(e24).size;omega,ho5,by rw[hstep,hu1] at htg;exact htg,(by rw[List.length_append];simp only[List.length_singleton];omega),(fun _=>by simp),(fun u hu=>(List.mem_append.1 hu).elim (fun hu=>hbig _ (hut u hu)) (fun hu=>by simp only[List.mem_singleton] at hu;subst hu;show List.length (([]:By))<=(i+1)*(s.length+2);have hz0:List.length ([]:By)=0:=rfl;omega))⟩
                   · refine af ?_;refine aR (fun c500=>?_) (fun c500=>?_)
                     · have c500:out.length=500:=by omega
                       rw[if_pos c500] at hu0;rw[hstep,hu0] at htg;refine af ?_;refine cG rfl (aA rfl (kt.cell (i:=1) rfl)) ?_;refine af ?_;refine bp ?_;exact⟨_,rfl,e02.trans egg,by rw[<-htg];rfl⟩
                     · have c500:¬out.length=500:=by omega
                       rw[if_neg c500] at hu0;refine af ?_;refine xp rfl (aA rfl (kt.cell (i:=0) rfl)) ?_;refine af ?_;refine xp rfl (aA rfl (kt.cell (i:=1) rfl)) ?_;refine xp rfl (av (H.tV _ _ _) rfl) ?_;refine xo rfl (ue) ?_;rintro _ _ ⟨rfl,rfl⟩;refine xo rfl (aQ.gG underlying90 H.JP rfl rfl (hho2) rfl rfl (Ah (t.1,(cB s t),t.2.1)) (by omega) (by decide) (by omega)) ?_;rintro v2 g4 ⟨ho4,hx4,hx4',hv4⟩;have ho5:mh 3 sx g4 h2.size 163 v2 (out++[(t.1,(cB s t),t.2.1)]):=mh.of ho4 rfl rfl;have e24:aj h2 g4:=Ext.own egg hho2 (Nat.le_refl _) hx4;have hu1:fR s out false t= .go (out++[(t.1,(cB s t),t.2.1)]) false:=hu0.trans (by simp[c9]);refine af ?_;exact ih (i+1,(out++[(t.1,(cB s t),t.2.1)]),false,v2) ⟨by show i+1<=ts.length;omega,e24,by have:=(e24).size;omega,ho5,by rw[hstep,hu1] at htg;exact htg,(by rw[List.length_append];simp only[List.length_singleton];omega),(fun _=>by simp),(fun u hu=>(List.mem_append.1 hu).elim (fun hu=>hbig _ (hut u hu)) (fun hu=>by simp only[List.mem_singleton] at hu;subst hu;show List.length ((cB s t))<=(i+1)*(s.length+2);have hz0:List.length ([]:By)=0:=rfl;omega))⟩
       · have hne:=hop rfl
         obtain⟨pre,u,hpre⟩:∃pre u,out=pre++[u]:=by
          rcases List.eq_nil_or_concat out with q|⟨p,u,q⟩
          · exact absurd q hne
          · exact⟨p,u,by simpa using q⟩
         have hlen:out.length=pre.length+1:=by rw[hpre];simp
         have hgu:out[pre.length]? =some u:=by rw[hpre];simp
         have hul:=hut u (by rw[hpre];simp);obtain⟨gb,gc,hgv,hgb,hgl,hgr,hgf,hgs⟩:=mh.put (enc:=sx) (fun _=>rfl) how2 hgu;have hga:oa=some ⟨gb,0,none⟩:=by cases hgv;rfl
         have hu0:fR s out true t=(if t.1=9/\cB s t=[34] then .go out false else if t.1=10 then .go (iB [rA (cB s t)] out) true else .go (iB (cB s t) out) true):=by
          unfold fR;rw[if_neg h0];rfl
         have hadd:∀x,iB x out=pre++[(u.1,u.2.1++x,u.2.2)]:=fun x=>by rw[hpre];exact zR x pre u
         have hset:∀x,out.set pre.length (u.1,u.2.1++x,u.2.2)=iB x out:=fun x=>by rw[hadd,hpre];exact Iq _ _ _
         have hadl:∀x,x.length<=s.length+1->∀u∈iB x out,u.2.1.length<=(i+1)*(s.length+2):=fun x hx u' hu'=>by
          rw[hadd,List.mem_append] at hu'
          rcases hu' with hu'|hu'
          · exact hbig _ (hut u' (by rw[hpre];simp[hu']))
          · simp only[List.mem_singleton] at hu';subst hu';simp only[List.length_append];omega
         have hown:∀x g',g'=dV g2 ⟨gb,0+pre.length*3+1,none⟩ x->aj h2 g':=fun x g' hg'=>by rw[hg'];exact aj.set egg hgb x
         refine aX ?_;refine fL [(35,.bool (decide (t.1=9/\cB s t=[34])))] rfl ?_ ?_
         · refine af ?_;refine RW.cV (d:=37) (b':=true) rfl (rfl) ?_;refine af ?_;refine xp rfl (aA rfl (kt.cell (i:=0) rfl)) ?_;refine af ?_;refine dG 42 (fun g9=>?_) (fun g9=>?_)
           · have g9:=of_decide_eq_true g9;refine af ?_;exact aF rfl ⟨au rfl (by rw[Bool.eq_iff_iff,decide_eq_true_iff,decide_eq_true_iff];exact⟨fun q=>⟨g9,bl q⟩,fun q=>congrArg bs q.2⟩),sb rfl⟩
           · have g9:=of_decide_eq_false g9;refine af ?_;exact aF rfl ⟨au rfl (by rw[decide_eq_false (fun q=>g9 q.1)]),sb rfl⟩
         · refine aR (fun c9=>?_) (fun c9=>?_)
           · rw[if_pos c9] at hu0;refine af ?_;exact ih (i+1,out,false,(.slice oa out.length oc)) ⟨by show i+1<=ts.length;omega,egg,by have:=(egg).size;omega,how2,by rw[hstep,hu0] at htg;exact htg,hol,(fun k=>by cases k),(fun u hu=>hbig _ (hut u hu))⟩
           · rw[if_neg c9] at hu0;refine aX ?_;refine fL [(46,.bool (decide (t.1=10)))] rfl ?_ ?_
             · refine af ?_;refine RW.cV (d:=48) (b':=true) rfl (rfl) ?_;refine af ?_;refine xp rfl (aA rfl (kt.cell (i:=0) rfl)) ?_;refine af ?_;exact aF rfl ⟨au rfl (rfl),sb rfl⟩
             · refine aR (fun c10=>?_) (fun c10=>?_)
               · rw[if_pos c10] at hu0;refine af ?_;refine me 15 (fun _=>False) (fun i=>Nat.blt i 14) ?_;refine aI 0 ?_;refine aI 1 ?_;refine aI 2 ?_;refine aI 3 ?_;refine bI 4 rfl (fun h' e=>cz rfl rfl pre.length (by omega) hga) ?_;refine aI 5 ?_;refine bI 6 rfl (fun h' e=>aA rfl (e.cell (fun k=>k) (hgr 1 _ rfl))) ?_;refine aI 7 ?_;refine dH 8 rfl (aE rfl (xY (hg.ah (e02.trans egg)) (cB s t))) ?_;rintro _ g3 ⟨rfl,e3'⟩;refine⟨fun _=>e3',?_⟩;refine dH 9 rfl (iL [_]) ?_;rintro _ g4 ⟨rfl,hg4⟩;refine⟨fun _=>(by rw[hg4];exact Ext.push _ _ _),?_⟩;have e34:aj g3 g4:=by rw[hg4];exact Ext.push _ _ _
                 have e24:aj g2 g4:=e3'.trans e34;have hby:aT .byte g4 (fun _=>False) (.slice (some ⟨g3.size,0,none⟩) 1 1) [rA (cB s t)]:=by rw[hg4];exact lY _
                 obtain⟨gb',gc',hgv',hgb',hgl',hgr',hgf',hgs'⟩:=mh.put (enc:=sx) (fun _=>rfl) (how2.ah e24) hgu;obtain rfl:gb=gb':=by rw[hga] at hgv';cases hgv';rfl
                 have hbu:=aG u.2.1;refine bI 10 rfl (fun h' e=>Mo rfl (hby.ah e)) ?_;refine bI 11 rfl (fun h' e=>ay.aH rfl rfl (by show (bs u.2.1).size+1<=_;omega)) ?_;refine PJ 12 rfl (cz rfl rfl pre.length (by omega) hga) ?_;refine aI 13 ?_;refine kX 14 rfl (bX H.Ds rfl rfl rfl (hgr' 1 _ rfl) (hgf' _)) ?_;rintro _ g5 ⟨rfl,hg5⟩;refine⟨nofun,?_⟩
                 have hfin:mh 3 sx g5 h2.size 163 (.slice oa out.length oc) (iB [rA (cB s t)] out):=by
                  rw[hg5,<-hset];exact hgs' 1 _ _ (by decide) (by show [Value.int .i64 u.1,Value.string (bs u.2.1++⟨[rA (cB s t)].toArray⟩),Value.int .i64 u.2.2]=_;rw[show (⟨[rA (cB s t)].toArray⟩:ByteArray)=bs [rA (cB s t)] from rfl,br];rfl)
                 have e25:aj h2 g5:=by rw[hg5];exact aj.set (egg.trans e24) hgb _
                 have hlena:(iB [rA (cB s t)] out).length=out.length:=kq _ _;refine iT ?_;refine af ?_;exact ih (i+1,iB [rA (cB s t)] out,true,.slice oa out.length oc) ⟨by show i+1<=ts.length;omega,e25,by have:=e25.size;omega,hfin,by rw[hstep,hu0] at htg;exact htg,by show (iB _ out).length<=500;omega,fun _ q=>hne (List.eq_nil_of_length_eq_zero (hlena.symm.trans (congrArg List.length q))),hadl _ (by simp)⟩
               · rw[if_neg c10] at hu0;refine af ?_;refine fF rfl (by simp) ?_;have hbu:=aG u.2.1;have hbt:=aG (cB s t);refine aX ?_;refine cD ?_
                 iterate 4 refine aW ?_
                 refine xp rfl (cz rfl rfl pre.length (by omega) hga) ?_;refine af ?_;refine xp rfl (aA rfl (hgr 1 _ rfl)) ?_
                 iterate 2 refine aW ?_
                 refine xp rfl (cz rfl rfl pre.length (by omega) hga) ?_;refine af ?_;refine aM rfl (bX H.Ds rfl rfl rfl (hgr 1 _ rfl) (hgf _)) ?_;rintro _ g5 ⟨rfl,hg5⟩
                 have hfin:mh 3 sx g5 h2.size 163 (.slice oa out.length oc) (iB (cB s t) out):=by
                  rw[hg5,<-hset];exact hgs 1 _ _ (by decide) (by show [Value.int .i64 u.1,Value.string (bs u.2.1++bs (cB s t)),Value.int .i64 u.2.2]=_;rw[br];rfl)
                 have e25:aj h2 g5:=hown _ _ hg5;have hlena:(iB (cB s t) out).length=out.length:=kq _ _;refine af ?_;exact ih (i+1,iB (cB s t) out,true,.slice oa out.length oc) ⟨by show i+1<=ts.length;omega,e25,by have:=e25.size;omega,hfin,by rw[hstep,hu0] at htg;exact htg,by show (iB _ out).length<=500;omega,fun _ q=>hne (List.eq_nil_of_length_eq_zero (hlena.symm.trans (congrArg List.length q))),hadl (cB s t) (by omega)⟩
   · obtain rfl:i=ts.length:=by omega
     rw[List.drop_length] at htg;have htg:UR.go out op=tgt:=htg;rw[<-htg];dsimp only
     iterate 3 refine aX ?_
     refine fL [(114,.bool (decide (op=true\/st.1≠0)))] rfl ?_ ?_
     · rcases op with _|_
       · refine af ?_;refine RW.cV (d:=110) (b':=false) rfl (rfl) ?_;refine af ?_;refine xp rfl (aA rfl ((k1.ah eg).cell (i:=0) rfl)) ?_;refine af ?_;exact aF rfl ⟨au rfl (by simp),sb rfl⟩
       · refine af ?_;refine RW.cV (d:=110) (b':=true) rfl (rfl) ?_;refine af ?_;exact aF rfl ⟨au rfl (by simp),sb rfl⟩
     · refine aR (fun co=>?_) (fun co=>?_)
       · rw[if_pos co];refine af ?_;refine bp ?_;have hbz:=aG s;exact⟨_,rfl,e02.trans eg,by rw[<-hbz];rfl⟩
       · rw[if_neg co];refine af ?_;refine bp ?_;exact⟨_,rfl,e02.trans eg,hol,_,rfl,mh.read how (fun _ _ k=>k)⟩
theorem HL {out:List Un}{op:Bool}(h:fR s out op t= .er a e):e≠0:=by
 unfold fR at h;split at h
 · cases h;decide
 · split at h
   · split at h
     · cases h
     · split at h<;>cases h
   · split at h
     · cases h
     · split at h
       · cases h;decide
       · cases h
theorem BO {s:By}{a e:Int}:∀(l:List Tok) (out:List Un) (op:Bool),dX s l out op= .er a e->e≠0
 | [],_,_,h=>by cases h
 |t::l,out,op,h=>by
  rw[dX] at h;split at h
  · rename_i q;cases h;exact HL q
  · exact BO l _ _ h
theorem F8 {l:List Tok}{m:Int}(h:eR s l m= .inl (a,e)):e≠0:=by
 unfold eR at h;split at h
 · split at h
   · rename_i q;cases h;exact BO _ _ _ q
   · split at h
     · cases h;decide
     · cases h
 · cases h;decide
theorem IA {us:List Un}{b:Bool}{m:Int}{s:PS}(h:Rq us i b m s):(b=false->s.len=us.length-i)/\(b=true->s= .bad m)/\s.cm=b:=by
 cases s with
 |ok r=>obtain⟨rfl,rfl⟩:=h;exact⟨fun _=>by simp[PS.len],fun k=>(by cases k),rfl⟩
 |bad k=>obtain⟨rfl,rfl⟩:=h;exact⟨fun k=>(by cases k),fun _=>rfl,rfl⟩
theorem Bp {s:PS}(h:s.cm=true):s.len=0/\∀e,cI e s=s:=by cases s with|ok r=>cases h|bad m=>exact⟨rfl,fun _=>rfl⟩
theorem tu {l:List Tr}{s:PS} {y} (h:cg e n l s=some y) (h0:s.len=0):y=(l,s):=by
 cases n with
 |zero=>cases h
 |succ n=>rw[cg,if_pos h0] at h;exact(Option.some.inj h).symm
def Rp (c:PC) (hb g:ai) (kv:Value) (l:List Tr) (s:PS):Prop :=
 rO c g s/\Ext (fun b=>b=c.pb) hb g/\cH eN (fun b=>b<hb.size) g hb.size 39 kv l
theorem cH.lower {α:Type}{e:fQ α}{O:Nat->Prop}{h:ai}{base base':Nat}{t:TypeId}{v:Value}{xs:List α}(k:cH e O h base t v xs) (hb:base'<=base):cH e O h base' t v xs:=by
 obtain⟨css,h1,h2,h3⟩:=k;exact⟨css,h1,h2.lower hb,h3⟩
theorem DA (hg:oF h) (hv:aT Ld h (fun _=>False) v ts) (s:By) (st:uF) (hb:ts.length*(s.length+2)<=1000000000000) (hsl:s.length<=1000000000000)
 {k:List Tr}(hP:cy s ts st.1 k a e) :
 aq Tryz.prog 20 #[.string (bs s),v,.agg (bU st).toArray] h (bw fun r h'=>aj h h'/\∃lv,r=packed [lv,.int .i64 a,.int .i64 e]/\cH eN (fun b=>b<h.size) h' h.size 39 lv k):=by
 have hbz:=aG s;refine bL ?_;refine af ?_;refine xo rfl (jj) ?_;rintro _ h1 ⟨rfl,k1,e1,z1⟩;have k1:aD h1 h.size 57 (bU st):=k1;have hun:=zX (hg.ah e1) (hv.ah e1) s st hb hsl
 rcases hU:eR s ts st.1 with ⟨a1,c1⟩|us
 · rw[hU] at hun;have hce:=F8 hU
   obtain⟨rfl,rfl,rfl⟩:k=[]/\a=a1/\e=c1:=by
    cases hP with
    |units h=>rw[hU] at h;cases h;exact⟨rfl,rfl,rfl⟩
    |bad h _=>rw[hU] at h;cases h
    |ok h _=>rw[hU] at h;cases h
   refine af ?_;refine xp rfl (bY rfl k1.row) ?_;refine xo rfl (aE rfl hun) ?_;rintro _ h2 ⟨e2,rfl⟩;refine af ?_;refine fF rfl (by simpa using hce) ?_;refine af ?_;refine bp ?_;exact⟨_,rfl,e1.trans e2,_,rfl,cH.nil _ _ _ _ _⟩
 · rw[hU] at hun
   obtain⟨n,K,F,hm,hend⟩:∃n K F,cg s.length n [] (.ok us)=some (K,F)/\(∀m,F= .bad m->k=[]/\a=m/\e=10)/\(F.cm=false->k=K/\a=0/\e=0):=by
    cases hP with
    |units h=>rw[hU] at h;cases h
    |bad h h2=>rw[hU] at h;cases h;exact⟨_,_,_,h2,fun m q=>by cases q;exact⟨rfl,rfl,rfl⟩,fun q=>by cases q⟩
    |ok h h2=>rw[hU] at h;cases h;exact⟨_,_,_,h2,fun m q=>(by cases q),fun _=>⟨rfl,rfl,rfl⟩⟩
   refine af ?_;refine xp rfl (bY rfl k1.row) ?_;refine xo rfl (aE rfl hun) ?_;rintro _ h2 ⟨e2,hu500,uv,rfl,huv⟩;refine af ?_;refine fe rfl (by simp) ?_;obtain⟨ua,un,uc,rfl,huvs⟩:=huv.open;refine af ?_;refine xp rfl (av (H.J3 _ _ _ _) rfl) ?_;refine xo rfl (jj) ?_;rintro _ h3 ⟨rfl,kp,e3,z3⟩;have kp:aD h3 h2.size 95 [.slice ua un uc,.int .i64 (0:Nat),.int .i64 (s.length:Nat),.bool false,.int .i64 0]:=by rw[hbz] at kp;exact kp
   have e13:aj h h3:=(e1.trans e2).trans e3;obtain⟨c,hc⟩:∃c:PC,c=⟨h2.size,.slice ua un uc,h3.size,us,s.length⟩:=⟨_,rfl⟩
   have hz13:=e13.size;have hz2:=e2.size;have hz1:=e1.size;have hpb:c.pb=h2.size:=by rw[hc]
   have hce:c.e=s.length:=by rw[hc]
   have hcu:c.us=us:=by rw[hc]
   have hst3:rO c h3 (.ok us):=by
    rw[hc];exact⟨0,false,0,kp,huv.mv (Mv.cx e3 fun b hb _=>⟨fun k=>k,fun q=>by have:=e3.size;dsimp only at q;omega⟩),Nat.zero_le _,⟨rfl,rfl⟩,by show h2.size<h3.size;omega,Nat.le_refl _,by show us.length<=1000;omega⟩
   rw[<-hce] at hm;have hI3:Rp c h3 h3 (.slice none 0 0) [] (.ok us):=⟨hst3,Ext.refl _ _,cH.nil _ _ _ _ _⟩
   rw[<-hpb];refine af ?_;refine gY (σ:=Nat×List Tr×Value×PS) (fun w=>[(6,w.2.2.1)]) (fun w g=>Rp c h3 g w.2.2.1 w.2.1 w.2.2.2/\(w.2.2.2.cm=true->w.2.2.2=F)/\(w.2.2.2.cm=false->cg c.e w.1 w.2.1 w.2.2.2=some (K,F)/\w.2.1.length+w.2.2.2.len<=us.length)) (fun w=>w.1) ((n,[],.slice none 0 0,.ok us)) ⟨hI3,fun q=>(by cases q),fun _=>⟨hm,by simp[PS.len]⟩⟩ rfl ?_;rintro⟨m,l,kv,sI⟩ g ⟨⟨hst,xg,how⟩,hbad,hok⟩ ih
   try dsimp only
   dsimp only at hst how hbad hok;obtain⟨pi,pbb,pm,pk,psl,pil,ps,_⟩:=id hst;obtain⟨PV,PU,Qx⟩:=IA ps;rw[hcu] at PV;have hpil:pi<=us.length:=by rw[<-hcu];exact pil
   have hlv:c.lv= .slice ua us.length uc:=by rw[hc];have:=huvs.len;subst this;rfl
   rw[hlv] at pk;have hsize:c.pb<h3.size:=by rw[hpb];omega
   have how0:aB g h3.size 39 3 kv l.length _:=(how.own).choose_spec;obtain⟨ka,kc,rfl,_⟩:=how0.open;have kown:∀b,(Value.slice ka l.length kc).ownBlock=some b->h3.size<=b/\b<g.size:=fun b q=>how0.lt q
   iterate 2 refine aX ?_
   refine Mq 17 (fun b=>Array.size g<=b) (fun i=>Nat.blt i 17) [(46,.bool (decide (sI.len≠0)))] rfl ?_ ?_
   · refine aI 0 ?_;refine aI 1 ?_;refine aI 2 ?_;refine bI 3 rfl (fun h' e=>aA rfl (e.old (pk.cell (i:=1) rfl))) ?_;refine aI 4 ?_;refine aI 5 ?_;refine aI 6 ?_;refine bI 7 rfl (fun h' e=>aA rfl (e.old (pk.cell (i:=0) rfl))) ?_;refine aI 8 ?_;refine aI 9 ?_;refine aI 10 ?_;refine RJ 40 (fun g1=>?_) (fun g1=>?_)
     · have g1:=of_decide_eq_true g1;refine aI 11 ?_;refine aI 12 ?_;refine aI 13 ?_;refine bI 14 rfl (fun h' e=>aA rfl (e.old (pk.cell (i:=3) rfl))) ?_;refine aI 15 ?_;refine aI 16 ?_;exact Ku rfl ⟨au rfl (by cases pbb with|true=>rw[PU rfl];rfl|false=>rw[PV rfl,decide_eq_true (by omega)];rfl),sb rfl⟩
     · have g1:=of_decide_eq_false g1;refine Dy 11 ?_;refine Dy 12 ?_;refine Dy 13 ?_;refine Dy 14 ?_;refine Dy 15 ?_;refine aI 16 ?_;exact Ku rfl ⟨au rfl (by cases pbb with|true=>rw[PU rfl];rfl|false=>rw[PV rfl,decide_eq_false (by omega)]),sb rfl⟩
   · refine aR (fun hgo=>?_) (fun hgo=>?_)
     · obtain⟨r,hr⟩:∃r,sI= .ok r:=by cases sI with|ok r=>exact⟨r,rfl⟩|bad q=>exact absurd rfl hgo
       obtain⟨hm,hll⟩:=hok (by rw[hr];rfl);obtain⟨m,rfl⟩:∃m',m=m'+1:=by cases m with|zero=>cases hm|succ m=>exact⟨m,rfl⟩
       rw[cg,if_neg hgo] at hm
       rcases hv1:pM c.e m .stmt sI with _|⟨tv,s2⟩
       rw[hv1] at hm;cases hm;rw[hv1] at hm;simp only[Option.bind_some] at hm;have hvl:=vB hv1;refine af ?_;refine xo rfl (aE rfl ((KH m).stmt _ _ _ _ _ hst hv1)) ?_;rintro r6 h6 ⟨y6,hp6,t6,hn6,ht6⟩;have z6:=y6.size;obtain⟨mk,mt,ma,mn,mc,rfl,hr6⟩:=hn6.get;have ho6:=how.qD y6 (fun b q q2=>by have:=kown b q;omega) (fun b hb q=>by omega) (fun _ _ q=>q);obtain⟨css,hc1,hc2,hc3⟩:=id ho6;refine xo rfl (ue) ?_;rintro _ _ ⟨rfl,rfl⟩;refine xo rfl (uH rfl rfl hc2 rfl rfl) ?_;rintro v7 h7 ⟨ho7,hx7,hx7',hv7⟩;have z7:=hx7.size
       have hr6':eN.R h6 (fun b=>cv (Value.slice ka l.length kc).ownBlock b\/b<h3.size) [.int .i64 mk,.string (bs mt),.slice ma mn mc] t6:=bK hr6 (Ext.refl (fun _=>False) _) (fun b hb q=>⟨fun k=>k,fun q2=>by
        rcases q2 with q2|q2
        · have:=kown _ q2.symm;omega
        · have:=xg.size;omega⟩)
       have ho7x:cH eN (fun b=>b<h3.size) h7 h3.size 39 v7 (l++[t6]):=cH.gq hc1 hc3 ho7 hx7 hv7 hr6';have hst7:rO c h7 s2:=hp6.ext hx7 (fun b hb q=>by have:=kown _ q.symm;rw[hc] at hb;dsimp only at hb;omega);have x7:Ext (fun b=>b=c.pb) h3 h7:=(xg.trans y6).bH hx7 (fun i hi q=>by have:=kown _ q.symm;omega);refine af ?_;refine xo rfl (iL [_]) ?_;rintro _ w9 ⟨rfl,hw9⟩;have y9:aj h7 w9:=by rw[hw9];exact Ext.push _ _ _
       have ts9:aT oe w9 (fun _=>False) (.slice (some ⟨Array.size h7,0,none⟩) 1 1) [[59]]:=by rw[hw9];exact bB _ [[59]] _ rfl (by simp[maxLen]) rfl
       refine xo rfl (aE rfl (bA (hst7.ah y9) 6 ts9)) ?_;rintro _ h9 ⟨rfl,hp9,x9⟩;have x9:=y9.of.trans x9
       rcases hq9:bW 6 [[59]] s2 with ⟨o9,s9⟩
       rw[hq9] at hp9 hm;have hp9:rO c h9 s9:=hp9;have how9:=ho7x.qD x9 (fun b q q2=>by have:=ho7.lt q;omega) (fun b hb q=>by omega) (fun _ _ q=>q);have x39:=x7.trans x9;have hgood:∀sN:PS,(sN.cm=false->s9.cm=false)->sN.cm=false->t6=tv:=fun sN q1 q2=>ht6 (bf hq9 (q1 q2))
       have hfinB:∀sN:PS,cg c.e m (l++[tv]) sN=some (K,F)->sN.cm=true->sN=F:=fun sN q1 q2=>by have:=tu q1 (Bp q2).1;cases this;rfl
       rcases o9 with _|w9
       · simp only at hm;have e9:=aJ hq9;obtain⟨qi,qbb,qm,qk,qsl,qil,qs,_⟩:=(show rO c h9 s9 from hp9)
         obtain⟨ql1,ql2,ql3⟩:=IA qs;rw[hcu] at ql1;rw[hlv] at qk
         iterate 5 refine aW ?_
         refine cX ?_;refine aX ?_;refine Mq 14 (fun b=>Array.size h9<=b) (fun i=>Nat.blt i 14) [(71,.bool (decide (qi<us.length)))] rfl ?_ ?_
         · refine aI 0 ?_;refine aI 1 ?_;refine aI 2 ?_;refine RD.cV (d:=60) (b':=true) rfl (rfl) ?_;refine aI 3 ?_;refine aI 4 ?_;refine aI 5 ?_;refine bI 6 rfl (fun h' e=>aA rfl (e.old (qk.cell (i:=1) rfl))) ?_;refine aI 7 ?_;refine aI 8 ?_;refine aI 9 ?_;refine bI 10 rfl (fun h' e=>aA rfl (e.old (qk.cell (i:=0) rfl))) ?_;refine aI 11 ?_;refine aI 12 ?_;refine aI 13 ?_;exact Ku rfl ⟨au rfl (by rw[decide_eq_decide];omega),sb rfl⟩
         · refine aR (fun hgo2=>?_) (fun hgo2=>?_)
           · have hsN:(if s9.len=0 then s9 else cI c.e s9)=cI c.e s9:=by
              split
              · rename_i q;cases qbb with
                |true=>exact((Bp ql3).2 _).symm
                |false=>have:=ql1 rfl;omega
              · rfl
             rw[hsN] at hm;have hfb:(cI c.e s9).cm=true:=by obtain⟨q,hq⟩:=zH c.e s9;rw[hq];rfl
             refine af ?_;refine xo rfl (aE rfl (eu hp9)) ?_;rintro _ h10 ⟨rfl,hp10,x10⟩;have how10:=how9.qD x10 (fun b q q2=>by have:=ho7.lt q;omega) (fun b hb q=>by omega) (fun _ _ q=>q);refine af ?_;exact ih (m,l++[t6],v7,cI c.e s9) ⟨⟨hp10,x39.trans x10,how10⟩,fun q=>hfinB _ hm q,fun q=>(by have q:(cI c.e s9).cm=false:=q;rw[hfb] at q;cases q)⟩ (Nat.lt_succ_self _)
           · have hs0:s9.len=0:=by
              cases qbb with
              |true=>exact(Bp ql3).1
              |false=>have:=ql1 rfl;omega
             rw[if_pos hs0] at hm;refine af ?_;exact ih (m,l++[t6],v7,s9) ⟨⟨hp9,x39,how9⟩,fun q=>hfinB _ hm q,fun q=>⟨by dsimp only;rw[hgood s9 id q];exact hm,by dsimp only;rw[List.length_append,List.length_singleton,hs0];omega⟩⟩ (Nat.lt_succ_self _)
       · simp only at hm;have hl9:=cZ hq9
         iterate 5 refine aW ?_
         refine cX ?_;refine aX ?_;refine Mq 14 (fun b=>Array.size h9<=b) (fun i=>Nat.blt i 14) [(71,.bool false)] rfl ?_ ?_
         · refine aI 0 ?_;refine aI 1 ?_;refine aI 2 ?_;refine RD.cV (d:=60) (b':=false) rfl (rfl) ?_;refine Dy 3 ?_;refine Dy 4 ?_;refine Dy 5 ?_;refine Dy 6 ?_;refine Dy 7 ?_;refine Dy 8 ?_;refine Dy 9 ?_;refine Dy 10 ?_;refine Dy 11 ?_;refine Dy 12 ?_;refine aI 13 ?_;exact Ku rfl ⟨au rfl (rfl),sb rfl⟩
         · refine fe rfl (by simp) ?_;refine af ?_;exact ih (m,l++[t6],v7,s9) ⟨⟨hp9,x39,how9⟩,fun q=>hfinB _ hm q,fun q=>⟨by dsimp only;rw[hgood s9 id q];exact hm,by dsimp only;rw[List.length_append,List.length_singleton];omega⟩⟩ (Nat.lt_succ_self _)
     · have h0:sI.len=0:=by simpa using hgo
       refine af ?_;refine xp rfl (aA rfl (pk.cell (i:=3) rfl)) ?_;refine af ?_
       rcases pbb with _|_
       · refine fe rfl (by simp) ?_;obtain⟨r,hr⟩:∃r,sI= .ok r:=by cases sI with|ok r=>exact⟨r,rfl⟩|bad q=>cases Qx
         obtain⟨hm,hll⟩:=hok (by rw[hr];rfl);have hz:=tu hm h0;obtain⟨rfl,rfl,rfl⟩:=hend.2 (by cases hz;rw[hr];rfl);have hKl:k=l:=by cases hz;rfl
         refine af ?_;refine bp ?_;exact⟨_,rfl,aj.only e13 xg (by omega),_,rfl,by rw[hKl];exact(cH.lower how (by omega)).qD (Ext.refl (fun _=>False) _) (fun _ _ q=>q) (fun _ _ q=>q.elim) (fun b hb q=>by omega)⟩
       · have hF:F= .bad pm:=by rw[<-hbad Qx];exact PU rfl
         obtain⟨rfl,rfl,rfl⟩:=hend.1 pm hF;refine fF rfl (by simp) ?_;refine af ?_;refine cG rfl (aA rfl (pk.cell (i:=4) rfl)) ?_;refine af ?_;refine bp ?_;exact⟨_,rfl,aj.only e13 xg (by omega),_,rfl,cH.nil _ _ _ _ _⟩
theorem zZ (hg:oF h) (hv:aT Ld h (fun _=>False) v ts) (s:By) (st:uF) (hb:ts.length*(s.length+2)<=1000000000000) (hsl:s.length<=1000000000000)
 {k:List Tr}(hP:cy s ts st.1 k a e) :
 aq Tryz.prog 20 #[.string (bs s),v,.agg (bU st).toArray] h (bw fun r h'=>aj h h'/\∃lv,r=packed [lv,.int .i64 a,.int .i64 e]/\aT eN h' (fun b=>b<h.size) lv k) :=
 (DA hg hv s st hb hsl hP).ret fun _ _ ⟨e1,lv,h1,h2⟩=>⟨e1,lv,h1,h2.read (fun _ hb q=>Nat.not_lt.2 hb q) (fun _ _ q=>q)⟩
theorem CY {h':ai}{O2:Nat->Prop}{cs:List Value}{x:Vl}(q:eV.R h O cs x) (e:aj h h') (hO:∀b,b<h.size->O2 b->O b):eV.R h' O2 cs x :=
 eV.mv q ⟨e.size,fun b hb hn=>⟨e.block b hb (fun k=>k),fun k=>hn (hO b hb k)⟩⟩
theorem jD {xs:List Bd}(hv:aT eB h O v xs) (hx:xs.length<=100000000) (t:By){x:Vl}(hw:cW h O w x) :
 aq Tryz.prog 131 #[v,.string (bs t),w] h (bw fun r h'=>cH eB O h' h.size 52 r (xs++[(t,x)])/\aj h h'):=by
 obtain⟨nk,nt,a,n,c,ea,en,ec,rfl,hb,hR,he⟩:=cW.get hw;refine bL ?_;refine af ?_;refine xo rfl (jj) ?_;rintro _ h1 ⟨rfl,k1,e1,z1⟩;have k1:aD h1 h.size 42 (lG x.kind x.num x.fE x.self nk nt a n c ea en ec):=k1;have hcl:=gS (hv.ah e1) hx;refine af ?_;refine LR 8 8 ?_;refine aI 0 ?_;refine aI 2 ?_;refine bI 3 rfl (fun h' e=>bY rfl (e.vD k1.row)) ?_;refine bI 4 rfl (fun h' e=>av (H.xw _ _ _ _ _ _ _ _ _) rfl) ?_;refine Qc 1 5 rfl rfl (aE rfl hcl) (ue) ?_ ?_
 · rintro v2 h2 ⟨ho2,e2⟩;refine⟨fun _=>e2.of,?_⟩;obtain⟨css,hc1,hc2,hc3⟩:=id ho2;have hz2:=e2.size;refine dH 5 rfl (ue) ?_;rintro _ _ ⟨rfl,rfl⟩;refine⟨fun _=>by first|exact Ext.push _ _ _|assumption,?_⟩;refine dH 6 rfl (uH rfl rfl hc2 rfl rfl (by omega) (by have:=e2.size;omega)) ?_;rintro v3 h3 ⟨ho3,hx3,hx3',hv3⟩;refine⟨fun _=>hx3'.mono (fun b _ q=>(hc2.lt q.symm).1),?_⟩;refine aI 7 ?_;refine iT ?_;refine bp ?_;have e12:=e1.trans e2;have hy:eB.R h2 (fun b=>cv v2.ownBlock b\/O b) (.string (bs t)::lG x.kind x.num x.fE x.self nk nt a n c ea en ec) (t,x):=⟨_,rfl,CY hR e12 (fun b hb q=>q.elim (fun q=>by have:=(hc2.lt q.symm).1;omega) id)⟩
   have hP:=cH.gq hc1 hc3 ho3 hx3 hv3 hy;exact⟨_,rfl,cH.lower hP (by omega),⟨by have:=hx3.size;have:=e12.size;omega,fun b hb _=>(hx3.block b (by have:=e12.size;omega) (fun q=>by have:=(hc2.lt q.symm).1;omega)).trans (e12.block b hb (fun k=>k))⟩⟩
 · rintro _ h2 ⟨rfl,hh2⟩;refine⟨fun _=>(by rw[hh2];exact Ext.push _ _ _),?_⟩;have e2:aj h1 h2:=by rw[hh2];exact Ext.push _ _ _
   have z2:h2.size=h1.size+1:=by rw[hh2];simp
   have hrow:Lw.rowAt h2 h1.size 0 (.string (bs t)::lG x.kind x.num x.fE x.self nk nt a n c ea en ec):=by rw[hh2];exact nK _ _ _
   have e12:=e1.trans e2;refine dH 1 rfl (aE rfl (gS (hv.ah e12) hx)) ?_;rintro v3 h3 ⟨ho3,e3⟩;refine⟨fun _=>e3.of,?_⟩;obtain⟨css,hc1,hc2,hc3⟩:=id ho3;have e13:=e12.trans e3;refine dH 6 rfl (aQ.append underlying40 H.M9 rfl rfl hc2 rfl (.inr ⟨_,_,rfl,e3.rowAt (fun k=>k) hrow⟩) (by simp[Value.oneCell']) (by simp only[maxLen];omega) (by omega) e3.size) ?_;rintro v4 h4 ⟨ho4,hx4,_,hv4⟩;refine⟨fun _=>hx4.mono (fun b _ q=>by have:=(hc2.lt q.symm).1;omega),?_⟩;refine aI 7 ?_;refine iT ?_;refine bp ?_;have hy:eB.R h3 (fun b=>cv v3.ownBlock b\/O b) (.string (bs t)::lG x.kind x.num x.fE x.self nk nt a n c ea en ec) (t,x):=⟨_,rfl,CY hR e13 (fun b hb q=>q.elim (fun q=>by have:=(hc2.lt q.symm).1;omega) id)⟩
   have hP:=cH.gq hc1 hc3 ho4 hx4 hv4 hy;exact⟨_,rfl,cH.lower hP (by have:=e2.size;omega),⟨by have:=hx4.size;have:=e13.size;omega,fun b hb _=>(hx4.block b (by have:=e13.size;omega) (fun q=>by have:=(hc2.lt q.symm).1;omega)).trans (e13.block b hb (fun k=>k))⟩⟩
theorem yX {x:Vl}(hw:cW h O w x) (t:By) :
 aq Tryz.prog 130 #[w,.string (bs t)] h (bw fun r h'=>cW h' O r (jQ x t)/\aj h h'):=by
 obtain⟨nk,nt,a,n,c,ea,en,ec,rfl,hb,hR,he⟩:=cW.get hw;obtain⟨k,m,s,f,b,e⟩:=x;dsimp only[Vl.kind,Vl.num,Vl.fE,Vl.self,Vl.body,Vl.env] at hR ⊢;refine bL ?_;refine af ?_;refine xo rfl (jj) ?_;rintro _ h1 ⟨rfl,k1,e1,z1⟩;refine xo rfl (cO) ?_;rintro _ h2 ⟨rfl,k2,e2,z2⟩;have k1:aD h2 h.size 42 (lG k m s f nk nt a n c ea en ec):=k1.ah e2;have e12:=e1.trans e2;refine cX ?_
 iterate 2 refine aX ?_
 refine fL [(12,.bool (decide (k=4/\f=[])))] rfl ?_ ?_
 · refine af ?_;refine xp rfl (aA rfl (k1.cell (i:=0) rfl)) ?_;refine af ?_;refine dG 8 (fun p=>?_) (fun p=>?_)
   · have p:=of_decide_eq_true p;refine af ?_;refine xp rfl (aA rfl (k1.cell (i:=3) rfl)) ?_;refine af ?_;exact aF rfl ⟨au rfl (by rw[decide_eq_decide];exact⟨fun q=>⟨p,bl (m:=[]) q⟩,fun q=>by rw[q.2];rfl⟩),sb rfl⟩
   · have p:=of_decide_eq_false p;refine af ?_;exact aF rfl ⟨au rfl (by rw[decide_eq_false (fun q=>p q.1)]),sb rfl⟩
 · refine iM (fun hc=>?_) (fun hc=>?_)
   · have hc:=of_decide_eq_true hc;refine af ?_;refine aM rfl (mj rfl rfl k1) ?_;rintro _ h3 ⟨rfl,k3,x3,z3⟩;have k3:aD h3 h.size 42 (lG k m s t nk nt a n c ea en ec):=k3;have e3:aj h h3:=aj.only e12 x3 (Nat.le_refl _);refine af ?_;refine xp rfl (bY rfl k3.row) ?_;refine aM rfl (aY rfl rfl ((k2.ext x3 (by omega))) gI) ?_;rintro _ h4 ⟨rfl,k4,x4,z4⟩;refine af ?_;refine ct (cj rfl k4.row cq) ?_;have e4:aj h h4:=aj.only e3 x4 (by omega);refine⟨_,rfl,?_,e4⟩;have:jQ (.mk k m s f b e) t= .mk k m s t b e:=if_pos hc;rw[this];exact cW.of (IJ (CY hR e4 fun _ _ q=>q) t)
   · have hc:=of_decide_eq_false hc;refine af ?_;refine xp rfl (bY rfl k1.row) ?_;refine aM rfl (aY rfl rfl k2 gI) ?_;rintro _ h4 ⟨rfl,k4,x4,z4⟩;refine af ?_;refine ct (cj rfl k4.row cq) ?_;have e4:aj h h4:=aj.only e12 x4 (by omega);refine⟨_,rfl,?_,e4⟩;have:jQ (.mk k m s f b e) t= .mk k m s f b e:=if_neg hc;rw[this];exact cW.of (CY hR e4 fun _ _ q=>q)
theorem BP {x:Vl}(hw:cW h O w x) (op:By) :
 aq Tryz.prog 84 #[.string (bs op),w] h (bw fun r h'=>∃v,r=packed [v,.int .i64 (Ga op x).2]/\cW h' O v (Ga op x).1/\aj h h'):=by
 obtain⟨nk,nt,a,n,c,ea,en,ec,rfl,hb,hR,he⟩:=cW.get hw;refine bL ?_;refine af ?_;refine xo rfl (jj) ?_;rintro _ h1 ⟨rfl,k1,e1,z1⟩;refine xo rfl (cO) ?_;rintro _ h2 ⟨rfl,k2,e2,z2⟩;have k1:aD h2 h.size 42 (lG x.kind x.num x.fE x.self nk nt a n c ea en ec):=k1.ah e2;have e12:=e1.trans e2;refine aW ?_;refine cX ?_
 iterate 3 refine aX ?_
 refine fL [(6,.bool (decide (op=kY/\x.kind=2)))] rfl ?_ ?_
 · refine af ?_;refine dG 9 (fun p1=>?_) (fun p1=>?_)
   · have p1:op=kY:=bl (of_decide_eq_true p1);refine af ?_;refine xp rfl (aA rfl (k1.cell (i:=0) rfl)) ?_;refine af ?_;exact aF rfl ⟨au rfl (by rw[decide_eq_decide];exact⟨fun q=>⟨p1,q⟩,fun q=>q.2⟩),sb rfl⟩
   · have p1:¬op=kY:=fun q=>of_decide_eq_false p1 (by rw[q];rfl)
     refine af ?_;exact aF rfl ⟨au rfl (by rw[decide_eq_false (fun q=>p1 q.1)]),sb rfl⟩
 · refine iM (fun hc=>?_) (fun hc=>?_)
   · have hc:=of_decide_eq_true hc;refine af ?_;refine xp rfl (aA rfl (k1.cell (i:=1) rfl)) ?_;refine af ?_;refine xo rfl (aE rfl (dh _)) ?_;rintro _ h3 ⟨rfl,e3⟩;refine aM rfl (aY rfl rfl ((k2.ah e3)) gI) ?_;rintro _ h4 ⟨rfl,k4,x4,z4⟩;refine af ?_;refine ct (cj rfl k4.row (eo cq)) ?_;have hu:Ga op x=(lI (decide (x.num=0)),0):=if_pos hc;rw[hu];exact⟨_,rfl,_,rfl,pn _ _ _,aj.only (e12.trans e3) x4 (by omega)⟩
   · have hc:=of_decide_eq_false hc;refine aX ?_;refine fL [(18,.bool (decide (op=[45]/\x.kind=1/\x.num≠ -9223372036854775808)))] rfl ?_ ?_
     · refine af ?_;refine dG 21 (fun p1=>?_) (fun p1=>?_)
       · have p1:op=[45]:=bl (of_decide_eq_true p1);refine af ?_;refine xp rfl (aA rfl (k1.cell (i:=0) rfl)) ?_;refine af ?_;refine dG 26 (fun p2=>?_) (fun p2=>?_)
         · have p2:=of_decide_eq_true p2;refine af ?_;refine xp rfl (aA rfl (k1.cell (i:=1) rfl)) ?_;refine af ?_;exact aF rfl ⟨au rfl (by rw[decide_eq_decide];exact⟨fun q=>⟨p1,p2,q⟩,fun q=>q.2.2⟩),sb rfl⟩
         · have p2:=of_decide_eq_false p2;refine af ?_;exact aF rfl ⟨au rfl (by rw[decide_eq_false (fun q=>p2 q.2.1)]),sb rfl⟩
       · have p1:¬op=[45]:=fun q=>of_decide_eq_false p1 (by rw[q];rfl)
         refine af ?_;exact aF rfl ⟨au rfl (by rw[decide_eq_false (fun q=>p1 q.1)]),sb rfl⟩
     · refine iM (fun hd=>?_) (fun hd=>?_)
       · have hd:=of_decide_eq_true hd;refine af ?_;refine xp rfl (aA rfl (k1.cell (i:=1) rfl)) ?_;refine xp rfl (Lz rfl) ?_;refine xp rfl (av (H.iS _ _) rfl) ?_;refine aM rfl (aY rfl rfl k2 gI) ?_;rintro _ h4 ⟨rfl,k4,x4,z4⟩;refine af ?_;refine ct (cj rfl k4.row (eo cq)) ?_;have hu:Ga op x=(mN (wrap64 (0-x.num)),0):=(if_neg hc).trans (if_pos hd);rw[hu];exact⟨_,rfl,_,rfl,vF _ _ _,aj.only e12 x4 (by omega)⟩
       · have hd:=of_decide_eq_false hd;refine af ?_;refine xp rfl (av (H.dO ) rfl) ?_;refine aM rfl (aY rfl rfl k2) ?_;rintro _ h4 ⟨rfl,k4,x4,z4⟩;refine af ?_;refine ct (cj rfl k4.row (eo cq)) ?_;have hu:Ga op x=(iV,2):=(if_neg hc).trans (if_neg hd);rw[hu];exact⟨_,rfl,_,rfl,gN _ _,aj.only e12 x4 (by omega)⟩
theorem pQ (O:Nat->Prop) (op:By) (way:Int) :
 aq Tryz.prog 133 #[.string (bs op),.int .i64 way] h (bw fun r h'=>∃v,r=packed [v,.int .i64 (jb op way).2]/\cW h' O v (jb op way).1/\aj h h'):=by
 refine bL ?_;refine af ?_;refine xo rfl (cO) ?_;rintro _ h1 ⟨rfl,k1,e1,z1⟩;refine af ?_;refine aR (fun c1=>?_) (fun c1=>?_)
 · have c1:op=[61,61]:=bl c1;refine af ?_;refine xo rfl (aE rfl (dh _)) ?_;rintro _ h3 ⟨rfl,e3⟩;refine aM rfl (aY rfl rfl ((k1.ah e3)) gI) ?_;rintro _ h4 ⟨rfl,k4,x4,z4⟩;refine af ?_;refine ct (cj rfl k4.row (eo cq)) ?_;rw[show jb op way=(lI (decide (way=0)),0) by unfold jb;skip;rw[if_pos c1]];exact⟨_,rfl,_,rfl,pn _ _ _,aj.only (e1.trans e3) x4 (Nat.le_refl _)⟩
 · have c1:¬op=[61,61]:=fun q=>c1 (by rw[q];rfl)
   refine af ?_;refine aR (fun c2=>?_) (fun c2=>?_)
   · have c2:op=[33,61]:=bl c2;refine af ?_;refine xo rfl (aE rfl (dh _)) ?_;rintro _ h3 ⟨rfl,e3⟩;refine aM rfl (aY rfl rfl ((k1.ah e3)) gI) ?_;rintro _ h4 ⟨rfl,k4,x4,z4⟩;refine af ?_;refine ct (cj rfl k4.row (eo cq)) ?_;rw[show jb op way=(lI (decide (¬way=0)),0) by unfold jb;rw[if_neg c1];rw[if_pos c2]];exact⟨_,rfl,_,rfl,pn _ _ _,aj.only (e1.trans e3) x4 (Nat.le_refl _)⟩
   · have c2:¬op=[33,61]:=fun q=>c2 (by rw[q];rfl)
     refine af ?_;refine aR (fun c3=>?_) (fun c3=>?_)
     · have c3:op=[60]:=bl c3;refine af ?_;refine xo rfl (aE rfl (dh _)) ?_;rintro _ h3 ⟨rfl,e3⟩;refine aM rfl (aY rfl rfl ((k1.ah e3)) gI) ?_;rintro _ h4 ⟨rfl,k4,x4,z4⟩;refine af ?_;refine ct (cj rfl k4.row (eo cq)) ?_;rw[show jb op way=(lI (decide (way<0)),0) by unfold jb;rw[if_neg c1,if_neg c2];rw[if_pos c3]];exact⟨_,rfl,_,rfl,pn _ _ _,aj.only (e1.trans e3) x4 (Nat.le_refl _)⟩
     · have c3:¬op=[60]:=fun q=>c3 (by rw[q];rfl)
       refine af ?_;refine aR (fun c4=>?_) (fun c4=>?_)
       · have c4:op=[60,61]:=bl c4;refine af ?_;refine xo rfl (aE rfl (dh _)) ?_;rintro _ h3 ⟨rfl,e3⟩;refine aM rfl (aY rfl rfl ((k1.ah e3)) gI) ?_;rintro _ h4 ⟨rfl,k4,x4,z4⟩;refine af ?_;refine ct (cj rfl k4.row (eo cq)) ?_;rw[show jb op way=(lI (decide (way<=0)),0) by unfold jb;rw[if_neg c1,if_neg c2,if_neg c3];rw[if_pos c4]];exact⟨_,rfl,_,rfl,pn _ _ _,aj.only (e1.trans e3) x4 (Nat.le_refl _)⟩
       · have c4:¬op=[60,61]:=fun q=>c4 (by rw[q];rfl)
         refine af ?_;refine aR (fun c5=>?_) (fun c5=>?_)
         · have c5:op=[62]:=bl c5;refine af ?_;refine xo rfl (aE rfl (dh _)) ?_;rintro _ h3 ⟨rfl,e3⟩;refine aM rfl (aY rfl rfl ((k1.ah e3)) gI) ?_;rintro _ h4 ⟨rfl,k4,x4,z4⟩;refine af ?_;refine ct (cj rfl k4.row (eo cq)) ?_;rw[show jb op way=(lI (decide (0<way)),0) by unfold jb;rw[if_neg c1,if_neg c2,if_neg c3,if_neg c4];rw[if_pos c5]];exact⟨_,rfl,_,rfl,pn _ _ _,aj.only (e1.trans e3) x4 (Nat.le_refl _)⟩
         · have c5:¬op=[62]:=fun q=>c5 (by rw[q];rfl)
           refine af ?_;refine aR (fun c6=>?_) (fun c6=>?_)
           · have c6:op=[62,61]:=bl c6;refine af ?_;refine xo rfl (aE rfl (dh _)) ?_;rintro _ h3 ⟨rfl,e3⟩;refine aM rfl (aY rfl rfl ((k1.ah e3)) gI) ?_;rintro _ h4 ⟨rfl,k4,x4,z4⟩;refine af ?_;refine ct (cj rfl k4.row (eo cq)) ?_;rw[show jb op way=(lI (decide (0<=way)),0) by unfold jb;rw[if_neg c1,if_neg c2,if_neg c3,if_neg c4,if_neg c5];rw[if_pos c6]];exact⟨_,rfl,_,rfl,pn _ _ _,aj.only (e1.trans e3) x4 (Nat.le_refl _)⟩
           · have c6:¬op=[62,61]:=fun q=>c6 (by rw[q];rfl)
             refine af ?_;refine xp rfl (av (H.dO ) rfl) ?_;refine aM rfl (aY rfl rfl k1) ?_;rintro _ h4 ⟨rfl,k4,x4,z4⟩;refine af ?_;refine ct (cj rfl k4.row (eo cq)) ?_;rw[show jb op way=(iV,2) by unfold jb;rw[if_neg c1,if_neg c2,if_neg c3,if_neg c4,if_neg c5,if_neg c6]];exact⟨_,rfl,_,rfl,gN _ _,aj.only e1 x4 (Nat.le_refl _)⟩
theorem tG (a:Int):aq Tryz.prog 184 #[.int .i64 a] h (bw fun r h'=>r= .bool false/\h'=h):=by
 refine bL ?_;refine af ?_;refine bp ?_;exact⟨_,rfl,by simp[packed],rfl⟩
theorem C5 (a b:Int):aq Tryz.prog 168 #[.int .i64 a,.int .i64 b] h (bw fun r h'=>r= .int .i64 (if a<b then -1 else if a=b then 0 else 1)/\h'=h):=by
 refine bL ?_;refine af ?_;refine xo rfl (aE rfl (tG _)) ?_;rintro _ _ ⟨rfl,rfl⟩;refine af ?_;refine xo rfl (aE rfl (tG _)) ?_;rintro _ _ ⟨rfl,rfl⟩;refine af ?_;refine fe rfl (by simp) ?_;refine af ?_;refine fe rfl (by simp) ?_;refine af ?_;refine aR (fun h1=>?_) (fun h1=>?_)
 · refine af ?_;refine bp ?_;exact⟨_,rfl,by rw[if_pos h1];rfl,rfl⟩
 · refine af ?_;refine aR (fun h2=>?_) (fun h2=>?_)
   · refine af ?_;refine bp ?_;exact⟨_,rfl,by rw[if_neg h1,if_neg (by omega)];rfl,rfl⟩
   · refine af ?_;refine bp ?_;exact⟨_,rfl,by rw[if_neg h1,if_pos (by omega)];rfl,rfl⟩
theorem yj (O:Nat->Prop) (op:By) (a b:Int) :
 aq Tryz.prog 132 #[.string (bs op),.int .i64 a,.int .i64 b] h (bw fun r h'=>∃v,r=packed [v,.int .i64 (dw op a b).2]/\cW h' O v (dw op a b).1/\aj h h'):=by
 refine bL ?_;refine af ?_;refine xo rfl (cO) ?_;rintro _ h1 ⟨rfl,k1,e1,z1⟩;refine af ?_;refine aR (fun c1=>?_) (fun c1=>?_)
 · have c1:op=[43]:=bl c1;refine aX ?_;refine cD ?_
   iterate 2 refine aW ?_
   refine xp rfl (ay.add rfl rfl) ?_;refine af ?_;refine iM (fun hn=>?_) (fun hn=>?_)
   · have hn:decide (wrap64 (a+b)>a)=decide (b>0)->False:=by simpa [wrap64] using hn
     refine af ?_;refine xp rfl (av (H.dO ) rfl) ?_;refine aM rfl (aY rfl rfl k1) ?_;rintro _ h4 ⟨rfl,k4,x4,z4⟩;refine af ?_;refine ct (cj rfl k4.row (eo cq)) ?_;rw[show dw op a b=(iV,2) by unfold dw;rw[if_pos c1];exact if_neg hn];exact⟨_,rfl,_,rfl,gN _ _,aj.only e1 x4 (Nat.le_refl _)⟩
   · have hn:decide (wrap64 (a+b)>a)=decide (b>0):=by simpa [wrap64] using hn
     refine af ?_;refine xp rfl (av (H.iS _ _) rfl) ?_;refine aM rfl (aY rfl rfl k1 gI) ?_;rintro _ h4 ⟨rfl,k4,x4,z4⟩;refine af ?_;refine ct (cj rfl k4.row (eo cq)) ?_;rw[show dw op a b=(mN (wrap64 (a+b)),0) by unfold dw;rw[if_pos c1];exact if_pos hn];exact⟨_,rfl,_,rfl,vF _ _ _,aj.only e1 x4 (Nat.le_refl _)⟩
 · have c1:¬op=[43]:=fun q=>c1 (by rw[q];rfl)
   refine af ?_;refine aR (fun c2=>?_) (fun c2=>?_)
   · have c2:op=[45]:=bl c2;refine aX ?_;refine cD ?_
     iterate 2 refine aW ?_
     refine xp rfl (ay.sub rfl rfl) ?_;refine af ?_;refine iM (fun hn=>?_) (fun hn=>?_)
     · have hn:decide (wrap64 (a-b)<a)=decide (b>0)->False:=fun q=>by rw[decide_eq_decide] at q;simp at hn;exact hn q
       refine af ?_;refine xp rfl (av (H.dO ) rfl) ?_;refine aM rfl (aY rfl rfl k1) ?_;rintro _ h4 ⟨rfl,k4,x4,z4⟩;refine af ?_;refine ct (cj rfl k4.row (eo cq)) ?_;rw[show dw op a b=(iV,2) by unfold dw;rw[if_neg c1,if_pos c2];exact if_neg hn];exact⟨_,rfl,_,rfl,gN _ _,aj.only e1 x4 (Nat.le_refl _)⟩
     · have hn:decide (wrap64 (a-b)<a)=decide (b>0):=by rw[decide_eq_decide];simp at hn;exact hn
       refine af ?_;refine xp rfl (av (H.iS _ _) rfl) ?_;refine aM rfl (aY rfl rfl k1 gI) ?_;rintro _ h4 ⟨rfl,k4,x4,z4⟩;refine af ?_;refine ct (cj rfl k4.row (eo cq)) ?_;rw[show dw op a b=(mN (wrap64 (a-b)),0) by unfold dw;rw[if_neg c1,if_pos c2];exact if_pos hn];exact⟨_,rfl,_,rfl,vF _ _ _,aj.only e1 x4 (Nat.le_refl _)⟩
   · have c2:¬op=[45]:=fun q=>c2 (by rw[q];rfl)
     refine af ?_;refine aR (fun c3=>?_) (fun c3=>?_)
     · have c3:op=[42]:=bl c3;refine aX ?_;refine cD ?_
       iterate 2 refine aW ?_
       refine xp rfl (F1 rfl rfl) ?_;refine aW ?_;refine cX ?_;refine fL [(9,.bool (decide (a=0\/wrap64 ((wrap64 (a*b)).tdiv a)=b/\(a≠ -1\/b≠ -9223372036854775808))))] rfl ?_ ?_
       · refine af ?_;refine dG 48 (fun d1=>?_) (fun d1=>?_)
         · have d1:=of_decide_eq_true d1;refine af ?_;exact aF rfl ⟨au rfl (by rw[decide_eq_true (.inl d1)]),sb rfl⟩
         · have d1:=of_decide_eq_false d1
           iterate 2 refine aW ?_
           refine xp rfl (kU rfl rfl d1) ?_;refine af ?_;refine dG 54 (fun d2=>?_) (fun d2=>?_)
           · have d2:wrap64 ((wrap64 (a*b)).tdiv a)=b:=of_decide_eq_true d2;refine af ?_;refine dG 57 (fun d3=>?_) (fun d3=>?_)
             · have d3:=of_decide_eq_true d3;refine af ?_;exact aF rfl ⟨au rfl (by rw[decide_eq_true (.inr ⟨d2,.inl d3⟩)]),sb rfl⟩
             · have d3:=of_decide_eq_false d3;refine af ?_;exact aF rfl ⟨au rfl (by rw[decide_eq_decide];exact⟨fun q=>.inr ⟨d2,.inr q⟩,fun q=>(q.resolve_left d1).2.resolve_left d3⟩),sb rfl⟩
           · have d2:¬wrap64 ((wrap64 (a*b)).tdiv a)=b:=of_decide_eq_false d2;refine af ?_;exact aF rfl ⟨au rfl (by rw[decide_eq_false (fun q=>d2 (q.resolve_left d1).1)]),sb rfl⟩
       · refine af ?_;refine iM (fun hn=>?_) (fun hn=>?_)
         · have hn:¬(a=0\/wrap64 ((wrap64 (a*b)).tdiv a)=b/\(a≠ -1\/b≠ -9223372036854775808)):=fun q=>by rw[decide_eq_true q] at hn;exact absurd hn (by decide)
           refine af ?_;refine xp rfl (av (H.dO ) rfl) ?_;refine aM rfl (aY rfl rfl k1) ?_;rintro _ h4 ⟨rfl,k4,x4,z4⟩;refine af ?_;refine ct (cj rfl k4.row (eo cq)) ?_;rw[show dw op a b=(iV,2) by unfold dw;rw[if_neg c1,if_neg c2,if_pos c3];exact if_neg hn];exact⟨_,rfl,_,rfl,gN _ _,aj.only e1 x4 (Nat.le_refl _)⟩
         · have hn:a=0\/wrap64 ((wrap64 (a*b)).tdiv a)=b/\(a≠ -1\/b≠ -9223372036854775808):=Classical.byContradiction fun q=>by rw[decide_eq_false q] at hn;exact absurd hn (by decide)
           refine af ?_;refine xp rfl (av (H.iS _ _) rfl) ?_;refine aM rfl (aY rfl rfl k1 gI) ?_;rintro _ h4 ⟨rfl,k4,x4,z4⟩;refine af ?_;refine ct (cj rfl k4.row (eo cq)) ?_;rw[show dw op a b=(mN (wrap64 (a*b)),0) by unfold dw;rw[if_neg c1,if_neg c2,if_pos c3];exact if_pos hn];exact⟨_,rfl,_,rfl,vF _ _ _,aj.only e1 x4 (Nat.le_refl _)⟩
     · have c3:¬op=[42]:=fun q=>c3 (by rw[q];rfl)
       refine af ?_;refine aR (fun c4=>?_) (fun c4=>?_)
       · have c4:op=[47]:=bl c4;refine af ?_;refine fF rfl (by rw[c4];exact fun q=>absurd rfl (of_decide_eq_false q)) ?_
         iterate 2 refine aX ?_
         refine fL [(75,.bool (decide (b=0\/a= -9223372036854775808/\b= -1)))] rfl ?_ ?_
         · refine af ?_;refine dG 68 (fun d1=>?_) (fun d1=>?_)
           · have d1:=of_decide_eq_true d1;refine af ?_;exact aF rfl ⟨au rfl (by rw[decide_eq_true (.inl d1)]),sb rfl⟩
           · have d1:=of_decide_eq_false d1;refine af ?_;refine dG 71 (fun d2=>?_) (fun d2=>?_)
             · have d2:=of_decide_eq_true d2;refine af ?_;exact aF rfl ⟨au rfl (by rw[decide_eq_decide];exact⟨fun q=>.inr ⟨d2,q⟩,fun q=>(q.resolve_left d1).2⟩),sb rfl⟩
             · have d2:=of_decide_eq_false d2;refine af ?_;exact aF rfl ⟨au rfl (by rw[decide_eq_false (fun q=>d2 (q.resolve_left d1).1)]),sb rfl⟩
         · refine iM (fun hz=>?_) (fun hz=>?_)
           · have hz:=of_decide_eq_true hz;refine af ?_;refine xp rfl (av (H.dO ) rfl) ?_;refine aM rfl (aY rfl rfl k1) ?_;rintro _ h4 ⟨rfl,k4,x4,z4⟩;refine af ?_;refine ct (cj rfl k4.row (eo cq)) ?_;rw[show dw op a b=(iV,2) by unfold dw;rw[if_neg c1,if_neg c2,if_neg c3,if_pos (.inl c4)];exact if_pos hz];exact⟨_,rfl,_,rfl,gN _ _,aj.only e1 x4 (Nat.le_refl _)⟩
           · have hz:=of_decide_eq_false hz;have hb:b≠0:=fun q=>hz (.inl q)
             iterate 2 refine aX ?_
             refine cD ?_
             iterate 2 refine aW ?_
             refine xp rfl (kU rfl rfl hb) ?_;refine af ?_;refine aR (fun c5=>?_) (fun c5=>?_)
             · exact absurd (bl (m:=[37]) c5) (by rw[c4];decide)
             · refine af ?_;refine fe rfl (by simp) ?_;refine af ?_;refine xp rfl (av (H.iS _ _) rfl) ?_;refine aM rfl (aY rfl rfl k1 gI) ?_;rintro _ h4 ⟨rfl,k4,x4,z4⟩;refine af ?_;refine ct (cj rfl k4.row (eo cq)) ?_;rw[show dw op a b=(mN (wrap64 (a.tdiv b)),0) by unfold dw;rw[if_neg c1,if_neg c2,if_neg c3,if_pos (.inl c4)];exact(if_neg hz).trans (by rw[if_neg (by rw[c4];decide)])];exact⟨_,rfl,_,rfl,vF _ _ _,aj.only e1 x4 (Nat.le_refl _)⟩
       · have c4:¬op=[47]:=fun q=>c4 (by rw[q];rfl)
         refine af ?_;refine aR (fun c5=>?_) (fun c5=>?_)
         · have c5:op=[37]:=bl c5
           iterate 2 refine aX ?_
           refine fL [(75,.bool (decide (b=0\/a= -9223372036854775808/\b= -1)))] rfl ?_ ?_
           · refine af ?_;refine dG 68 (fun d1=>?_) (fun d1=>?_)
             · have d1:=of_decide_eq_true d1;refine af ?_;exact aF rfl ⟨au rfl (by rw[decide_eq_true (.inl d1)]),sb rfl⟩
             · have d1:=of_decide_eq_false d1;refine af ?_;refine dG 71 (fun d2=>?_) (fun d2=>?_)
               · have d2:=of_decide_eq_true d2;refine af ?_;exact aF rfl ⟨au rfl (by rw[decide_eq_decide];exact⟨fun q=>.inr ⟨d2,q⟩,fun q=>(q.resolve_left d1).2⟩),sb rfl⟩
               · have d2:=of_decide_eq_false d2;refine af ?_;exact aF rfl ⟨au rfl (by rw[decide_eq_false (fun q=>d2 (q.resolve_left d1).1)]),sb rfl⟩
           · refine iM (fun hz=>?_) (fun hz=>?_)
             · have hz:=of_decide_eq_true hz;refine af ?_;refine xp rfl (av (H.dO ) rfl) ?_;refine aM rfl (aY rfl rfl k1) ?_;rintro _ h4 ⟨rfl,k4,x4,z4⟩;refine af ?_;refine ct (cj rfl k4.row (eo cq)) ?_;rw[show dw op a b=(iV,2) by unfold dw;rw[if_neg c1,if_neg c2,if_neg c3,if_pos (.inr c5)];exact if_pos hz];exact⟨_,rfl,_,rfl,gN _ _,aj.only e1 x4 (Nat.le_refl _)⟩
             · have hz:=of_decide_eq_false hz;have hb:b≠0:=fun q=>hz (.inl q)
               iterate 2 refine aX ?_
               refine cD ?_
               iterate 2 refine aW ?_
               refine xp rfl (kU rfl rfl hb) ?_;refine af ?_;refine aR (fun c6=>?_) (fun c6=>?_)
               · refine cD ?_
                 iterate 2 refine aW ?_
                 refine xp rfl (kT rfl rfl hb) ?_;refine af ?_;refine fe rfl (by simp) ?_;refine af ?_;refine xp rfl (av (H.iS _ _) rfl) ?_;refine aM rfl (aY rfl rfl k1 gI) ?_;rintro _ h4 ⟨rfl,k4,x4,z4⟩;refine af ?_;refine ct (cj rfl k4.row (eo cq)) ?_;rw[show dw op a b=(mN (a.tmod b),0) by unfold dw;rw[if_neg c1,if_neg c2,if_neg c3,if_pos (.inr c5)];exact(if_neg hz).trans (by rw[if_pos c5])];exact⟨_,rfl,_,rfl,vF _ _ _,aj.only e1 x4 (Nat.le_refl _)⟩
               · exact absurd (by rw[c5];rfl) c6
         · have c5:¬op=[37]:=fun q=>c5 (by rw[q];rfl)
           refine af ?_;refine xo rfl (aE rfl (C5 _ _)) ?_;rintro _ _ ⟨rfl,rfl⟩;refine xo rfl (aE rfl (pQ (fun b=>O b\/b=h.size) op _)) ?_;rintro _ h3 ⟨v3,rfl,hv3,e3⟩;obtain⟨nk,nt,ka,n,c,ea,en,ec,rfl,hb,hR,he⟩:=cW.get hv3;refine af ?_;refine aM rfl (aY rfl rfl ((k1.ah e3)) gI) ?_;rintro _ h4 ⟨rfl,k4,x4,z4⟩;refine af ?_;refine ct (cj rfl k4.row (eo cq)) ?_;have hn:dw op a b=jb op (if a<b then -1 else if a=b then 0 else 1):=by unfold dw;rw[if_neg c1,if_neg c2,if_neg c3,if_neg (fun q=>q.elim c4 c5)]
           rw[hn];exact⟨_,rfl,_,rfl,cW.of (eV.mv hR (Mv.cx x4 fun b hb q=>⟨fun k=>q (.inr k),fun k=>q (.inl k)⟩)),aj.only (e1.trans e3) x4 (Nat.le_refl _)⟩
theorem wE (t:By):∀{l:List Bd},(∀(i:Nat) (y:Bd),l[i]? =some y->y.1≠t)->gR t l=(iV,4)
 | [],_=>rfl
 |b::r,h=>by
  have hr:=wE t (l:=r) fun i y hy=>h (i+1) y hy
  have hb:=h 0 b rfl;rw[gR,hr,if_neg (by decide),if_neg hb]
theorem JB (t:By):∀{l:List Bd}{i:Nat}{y:Bd},l[i]? =some y->y.1=t->(∀(k:Nat) (z:Bd),i<k->l[k]? =some z->z.1≠t)->gR t l=(y.2,0)
 | [],i,y,hi,_,_=>by cases hi
 |b::r,0,y,hi,ht,h=>by
  have hr:=wE t (l:=r) fun i z hz=>h (i+1) z (by omega) hz
  cases hi;rw[gR,hr,if_neg (by decide),if_pos ht]
 |b::r,i+1,y,hi,ht,h=>by
  have hr:=JB t (l:=r) (i:=i) hi ht fun k z hk hz=>h (k+1) z (by omega) hz
  rw[gR,hr,if_pos rfl]
abbrev BC (y:Bd) (nk:Int) (nt:By) (a:Option Addr) (m c:Nat) (ea:Option Addr) (en ec:Nat):List Value:=.string (bs y.1)::lG y.2.kind y.2.num y.2.fE y.2.self nk nt a m c ea en ec
theorem PZ {y:Bd}{nk:Int}{nt:By}{a:Option Addr}{m:Nat}{ea:Option Addr}{en ec:Nat}:∀v∈BC y nk nt a m c ea en ec,v.oneCell'=true:=fun v hv=>by
 rcases List.mem_cons.1 hv with rfl|hv
 · rfl
 · exact gI v hv
theorem FU {oa:Option Addr}{l:List Bd}(hws:Sl eB h O oa n c l) (hi:i<n) :
 ∃b o y nk nt a m c' ea en ec,oa=some ⟨b,o,none⟩/\l[i]? =some y/\Lw.rowAt h b (o+i*9) (BC y nk nt a m c' ea en ec)/\eV.R h O (lG y.2.kind y.2.num y.2.fE y.2.self nk nt a m c' ea en ec) y.2:=by
 have hn:=hws.len;obtain⟨y,hy⟩:∃y,l[i]? =some y:=⟨_,List.getElem?_eq_getElem (by omega)⟩
 obtain⟨b,o,cs,ha,hob,hrow,cs',rfl,hR⟩:=hws.get i y hy;obtain⟨nk,nt,a,m,c',ea,en,ec,hv,_,hR',_⟩:=cW.get (cW.of hR)
 have hcs:cs'=lG y.2.kind y.2.num y.2.fE y.2.self nk nt a m c' ea en ec:=by
  have:=congrArg (fun v=>match v with|Value.agg c=>c.toList|_=>[]) hv;simpa using this
 rw[hcs] at hrow;exact⟨b,o,y,nk,nt,a,m,c',ea,en,ec,ha,hy,hrow,hR'⟩
theorem JX {b:Nat}{t:TypeId}{c:Value}{cs:List Value}(k:aD h b t (c::cs)):Lw.rowAt h b 1 cs:=fun j v hv=>k.cell (i:=1+j) (by rw[Nat.add_comm];exact hv)
theorem sF {l cap:Nat}{oa:Option Addr}{J:Nat->ai->Prop}{S:ai->Prop}(hn:n<=100000000)
 (hread:∀j h,J j h->cellAt h ⟨cap,0,none⟩=some (.slice oa n c)) (hy:∀j h,J (j+1) h->j<n->∃(b o:Nat) (y:Bd) (nk:Int) (nt:By) (a:Option Addr) (m c':Nat) (ea:Option Addr) (en ec:Nat),oa=some ⟨b,o,none⟩/\Lw.rowAt h b (o+j*9) (BC y nk nt a m c' ea en ec) /\
  gW Tryz.prog l #[.int .i64 (j:Nat),.agg (BC y nk nt a m c' ea en ec).toArray] h (bw fun r h'=>∃go,r= .bool go/\(go=true->J j h')/\(go=false->S h'))) (h0:J n h) :
 aq Tryz.prog 167 #[.func (.yield l) #[] #[],.pointer (some ⟨cap,0,none⟩)] h (bw fun _ h'=>J 0 h'\/S h'):=by
 refine bL ?_;refine af ?_;refine xp rfl (aA rfl (hread _ _ h0)) ?_;refine af ?_;refine gY (σ:=Nat) (fun j=>[(3,.int .i64 ((j:Int)-1))]) (fun j h'=>J j h'/\j<=n) (fun j=>j) (n) ⟨h0,Nat.le_refl _⟩ rfl ?_;rintro j h1 ⟨hJ,hj⟩ ih;refine af ?_;refine aR (fun hge=>?_) (fun hge=>?_)
 · obtain⟨i,rfl⟩:∃i,j=i+1:=⟨j-1,by omega⟩
   obtain⟨b,o,y,nk,nt,a,m,c',ea,en,ec,ha,hrow,hyy⟩:=hy i h1 hJ (by omega);have hji:((i+1:Nat):Int)-1=((i:Nat):Int):=by omega
   rw[hji];refine qB rfl ?_;refine kW rfl ?_;refine G.block rfl rfl ?_;refine kW rfl ?_;refine G.MM func167 rfl ?_;refine ef.bu rfl rfl rfl rfl rfl (dA rfl) ?_;refine ef.bu rfl rfl rfl rfl rfl (dA rfl) ?_;refine ef.bu rfl rfl rfl rfl rfl (dR H.Pj rfl (hread _ _ hJ)) ?_;refine ef.bu rfl rfl rfl rfl rfl (dA rfl) ?_;refine ef.bu rfl rfl rfl rfl rfl (ay.jZ underlying40 H.DO rfl rfl i rfl ha (by omega)) ?_;refine ef.bu rfl rfl rfl rfl rfl (ay.jT H.Pg H.DO rfl hrow (by first|rfl|(simp;done)|(simp;omega))) ?_;refine sM (vs:=[_,_]) rfl rfl rfl rfl rfl rfl rfl (hyy) ?_;rintro _ h2 ⟨go,rfl,hJ2,hS2⟩;refine ef.bu rfl rfl rfl rfl rfl (ay.KN rfl) ?_;refine fV rfl ?_;refine iM (fun hgo=>?_) (fun hgo=>?_)
   · have hgo:go=false:=by simpa using hgo
     refine bp ?_;exact⟨_,rfl,.inr (hS2 hgo)⟩
   · have hgo:go=true:=by simpa using hgo
     refine af ?_;exact ih i ⟨hJ2 hgo,by omega⟩
 · obtain rfl:j=0:=by omega
   refine af ?_;refine Hz ?_;exact⟨_,rfl,.inl hJ⟩
theorem ur (v:Value) (hv:v.oneCell'=true):aq Tryz.prog 129 #[v] h (bw fun r h'=>r= .func (.func 167) #[] #[.pointer (some ⟨h.size,0,none⟩)]/\h'=h.push (.cells #[v] 40)):=by
 have hcells:v.cells= #[v]:=by cases v<;>simp[Value.oneCell'] at hv<;>rfl
 refine bL ?_;refine af ?_;refine xo rfl (aQ.box rfl) ?_;rintro _ _ ⟨rfl,rfl⟩;refine af ?_;refine xp rfl (ay.makeFunc (vs:=[_]) rfl) ?_;refine af ?_;refine bp ?_;exact⟨_,rfl,rfl,by rw[hcells]⟩
def F3 (b3 b4 b5 cap L:Nat) (r0:Loop) (h:ai) (v:Value) (t:By) (xs:List Bd) (j:Nat) (g:ai):Prop :=
 ck g (L+1) r0/\g[L]? =some (.deferred (some []))/\aD g cap 40 [v]/\aD g b3 9 [.string (bs t)]/\aD g b4 42 (lG 0 0 [] [] 0 [] none 0 0 none 0 0)/\aD g b5 60 [.int .i64 0]/\aj h g/\∀(i:Nat) (y:Bd),j<=i->xs[i]? =some y->y.1≠t
def Kl (b4 b5 L:Nat) (r0:Loop) (h:ai) (t:By) (xs:List Bd) (O:Nat->Prop) (g:ai):Prop :=
 ck g (L+1) { r0 with state:=.done,pending:=some .ret }/\g[L]? =some (.deferred (some []))/\aj h g/\aD g b5 60 [.int .i64 0] /\
 ∃(y:Bd) (nk:Int) (nt:By) (a:Option Addr) (m c:Nat) (ea:Option Addr) (en ec:Nat),aD g b4 42 (lG y.2.kind y.2.num y.2.fE y.2.self nk nt a m c ea en ec)/\gR t xs=(y.2,0)/\eV.R h O (lG y.2.kind y.2.num y.2.fE y.2.self nk nt a m c ea en ec) y.2
theorem G7 {xs:List Bd}(hv:aT eB h O v xs) (hx:xs.length<=100000000) (t:By) :
 aq Tryz.prog 79 #[v,.string (bs t)] h (bw fun r h'=>∃w,r=packed [w,.int .i64 (gR t xs).2]/\cW h' O w (gR t xs).1/\aj h h'):=by
 obtain⟨oa,n,c,rfl,hsl⟩:=hv.open;have hn:=hsl.len;subst hn;refine bL ?_;refine af ?_;refine xo rfl (jj) ?_;rintro _ h1 ⟨rfl,k3,e1,z1⟩;refine xo rfl (cO) ?_;rintro _ h2 ⟨rfl,k4,e2,z2⟩;refine xo rfl (cO) ?_;rintro _ h3 ⟨rfl,k5,e3,z3⟩;refine af ?_;refine xo rfl (aE rfl (ur (.slice oa xs.length c) rfl)) ?_;rintro _ h4 ⟨rfl,hh4⟩;have e4:aj h3 h4:=by rw[hh4];exact Ext.push _ _ _
 have q6:aD h4 h3.size 40 [.slice oa xs.length c]:=by rw[hh4];exact Bz _ _ _
 have z4:h4.size=h3.size+1:=by rw[hh4];simp
 clear hh4;have k3:aD h4 h.size 9 [.string (bs t)]:=((k3.ah e2).ah e3).ah e4;have k4:aD h4 h1.size 42 (lG 0 0 [] [] 0 [] none 0 0 none 0 0):=(k4.ah e3).ah e4;have k5:aD h4 h2.size 60 [.int .i64 0]:=k5.ah e4;have e04:aj h h4:=((e1.trans e2).trans e3).trans e4;refine af ?_;refine G.Gz func79 rfl rfl func167 rfl (by decide +kernel) ?_;intro fid tmps hfits;obtain⟨r0,hr0⟩:∃r0,r0=fG fid tmps #[10,11] (Qv (Lw.sub (ax f79) [0,1,0,1])) (Qu (Lw.sub (ax f79) [0,1,0,1])) h4.size:=⟨_,rfl⟩
 obtain⟨hL,hhL⟩:∃hL,hL=(h4.push (.deferred (some []))).push (.loop r0):=⟨_,rfl⟩
 suffices hmain:aq Tryz.prog 167 #[.func (.yield (h4.size+1)) #[] #[],.pointer (some ⟨h3.size,0,none⟩)] hL _ by rw[hhL,hr0] at hmain;exact hmain
 have hst:r0.state= .ready:=by rw[hr0];rfl
 have hpn:r0.pending=none:=by rw[hr0];rfl
 have hps:r0.params= #[10,11]:=by rw[hr0];rfl
 have htm:r0.tmps=tmps:=by rw[hr0];rfl
 have eL:aj h4 hL:=by rw[hhL];exact(Ext.push _ _ _).trans (Ext.push _ _ _)
 have hLz:hL.size=h4.size+2:=by rw[hhL];simp
 have hloop0:ck hL (h4.size+1) r0:=by
  have hz:h4.size+1=(h4.push (.deferred (some []))).size:=by simp
  rw[ck,hhL,hz];exact Array.getElem?_push_size
 have hdef0:hL[h4.size]? =some (.deferred (some [])):=by
  rw[hhL,(Ext.push (fun _=>False) (h4.push (.deferred (some []))) _).block h4.size (by simp) (fun k=>k)];exact Array.getElem?_push_size
 clear hhL;have hJ0:F3 h.size h1.size h2.size h3.size h4.size r0 h (.slice oa xs.length c) t xs xs.length hL:=⟨hloop0,hdef0,q6.ah eL,k3.ah eL,k4.ah eL,k5.ah eL,e04.trans eL,fun i y hi hy=>by rw[List.getElem?_eq_none hi] at hy;cases hy⟩
 refine suff (p:=∀j g,F3 h.size h1.size h2.size h3.size h4.size r0 h (.slice oa xs.length c) t xs (j+1) g->j<xs.length->∃(b o:Nat) (y:Bd) (nk:Int) (nt:By) (a:Option Addr) (m c':Nat) (ea:Option Addr) (en ec:Nat),oa=some ⟨b,o,none⟩/\Lw.rowAt g b (o+j*9) (BC y nk nt a m c' ea en ec)/\gW Tryz.prog (h4.size+1) #[.int .i64 (j:Nat),.agg (BC y nk nt a m c' ea en ec).toArray] g (bw fun r h'=>∃go,r= .bool go/\(go=true->F3 h.size h1.size h2.size h3.size h4.size r0 h (.slice oa xs.length c) t xs j h')/\(go=false->Kl h1.size h2.size h4.size r0 h t xs O h'))) ?_ ?_
 · intro j g ⟨hlp,hdf,hcap,k3g,k4g,k5g,eg,hno⟩ hj;obtain⟨b,o,y,nk,nt,a,m,c',ea,en,ec,ha,hy,hrow,hR⟩:=FU hsl hj;refine⟨b,o,y,nk,nt,a,m,c',ea,en,ec,ha,eg.rowAt (fun k=>k) hrow,?_⟩;have hfit:=wF (p1:=10) (p2:=11) (v1:=.int .i64 (j:Nat)) (v2:=.agg (BC y nk nt a m c' ea en ec).toArray) hfits rfl rfl;rw[<-hps,<-htm] at hfit;refine gW.OE hlp hst (by rw[hps];rfl) hfit ((congrArg Loop.assign hr0).trans rfl) ((congrArg Loop.body hr0).trans rfl) ?_;refine ef.GF rfl rfl rfl rfl rfl (aQ.Bq H.Mn) ?_;rintro _ g1 ⟨rfl,k8,e1',zz1⟩;refine ef.BB rfl rfl rfl rfl (aQ.gL H.DO rfl rfl k8 (by first|rfl|(simp;done)|(simp;omega)) (by first|decide|exact of_decide_eq_true rfl|(simp;done)|(simp;omega)) (PZ)) ?_;rintro _ g2 ⟨rfl,k8',e2',zz2⟩;refine fV rfl ?_;have e12:aj g g2:=e1'.only e2' (Nat.le_refl _);have k8':aD g2 g.size 52 (BC y nk nt a m c' ea en ec):=k8';refine⟨(e12.block _ hlp.lt (fun k=>k)).trans hlp,?_⟩;obtain⟨g3,hg3⟩:∃g3,g3=Lw.bM g2 (h4.size+1) (.loop { r0 with state:=.busy }):=⟨_,rfl⟩
   rw[<-hg3];have hlz:=hlp.lt;have hz2:=e12.size;have e23:Ext (fun b=>b=h4.size+1) g2 g3:=by rw[hg3];exact Ext.bM _ _ _ rfl
   have hlp3:ck g3 (h4.size+1) { r0 with state:=.busy }:=by rw[ck,hg3];exact iw (by omega)
   have hz3:=e23.size;have e13:Ext (fun b=>b=h4.size+1) g g3:=(e12.mono fun _ _ k=>k.elim).trans e23;have hs0:=And.intro e1.size (And.intro e2.size (And.intro e3.size e4.size));have l3:¬h.size=h4.size+1:=by omega
   have l4:¬h1.size=h4.size+1:=by omega
   have l5:¬h2.size=h4.size+1:=by omega
   have l6:¬h3.size=h4.size+1:=by omega
   have l8:¬g.size=h4.size+1:=by omega
   have k83:=k8'.ext e23 l8;have k33:=k3g.ext e13 l3;have k43:=k4g.ext e13 l4;have k53:=k5g.ext e13 l5;have cap3:=hcap.ext e13 l6;have hdf3:=(e13.block h4.size (by omega) (by omega)).trans hdf;have eg3:aj h g3:=⟨by have:=eg.size;omega,fun b hb _=>(e13.block b (by have:=eg.size;omega) (by omega)).trans (eg.block b hb (fun k=>k))⟩
   refine ef.bu rfl rfl rfl rfl rfl (fW (off:=0) underlying52 rfl rfl H.Ds rfl) ?_;refine ef.bu rfl rfl rfl rfl rfl (dR H.Ns rfl (k83.cell (i:=0) rfl)) ?_;refine ef.bu rfl rfl rfl rfl rfl (dR H.Ns rfl (k33.cell (i:=0) rfl)) ?_;refine ef.bu rfl rfl rfl rfl rfl (ay.JO rfl rfl) ?_;refine fV rfl ?_;refine⟨_,rfl,fun q=>?_,fun q=>?_⟩
   · have hyt:y.1=t:=bl (of_decide_eq_true q);refine ef.bu rfl rfl rfl rfl rfl (fW (off:=1) underlying52 rfl rfl H.Ge rfl) ?_;refine ef.bu rfl rfl rfl rfl rfl (ay.jT H.Ph H.Ge rfl (JX k83) (by first|rfl|(simp;done)|(simp;omega))) ?_;refine ef.BB rfl rfl rfl rfl (aQ.gL H.Ge rfl rfl k43 (by first|rfl|(simp;done)|(simp;omega)) (by first|decide|exact of_decide_eq_true rfl|(simp;done)|(simp;omega)) (gI)) ?_;rintro _ g5 ⟨rfl,k45,e5',zz5⟩;refine ef.BB rfl rfl rfl rfl (aQ.jH H.H9 rfl rfl (k53.ext e5' (by omega)) (by first|decide|exact of_decide_eq_true rfl|(simp;done)|(simp;omega)) rfl) ?_;rintro _ g6 ⟨rfl,k56,e6',zz6⟩;refine fV rfl ?_;have k45:aD g5 h1.size 42 (lG y.2.kind y.2.num y.2.fE y.2.self nk nt a m c' ea en ec):=k45;have k56:aD g6 h2.size 60 [.int .i64 0]:=k56;have hlp6:ck g6 (h4.size+1) { r0 with state:=.busy }:=(hlp3.ext e5' (by omega)).ext e6' (by omega);have z36:=e5'.size;have z56:=e6'.size;refine⟨_,hlp6,false,rfl,(fun q=>by cases q),fun _=>?_⟩;obtain⟨g7,hg7⟩:∃g7,g7=Lw.bM g6 (h4.size+1) (.loop { r0 with state:=.done,pending:=some .ret }):=⟨_,rfl⟩
     have e67:Ext (fun b=>b=h4.size+1) g6 g7:=by rw[hg7];exact Ext.bM _ _ _ rfl
     show Kl h1.size h2.size h4.size r0 h t xs O (Lw.bM g6 (h4.size+1) (.loop { r0 with state:=.done,pending:=some .ret }))
     rw[<-hg7];have zeg:=eg.size;refine⟨by rw[ck,hg7];exact iw (by omega),?_,⟨by have:=e67.size;omega,fun b hb _=>?_⟩,k56.ext e67 (by omega),y,nk,nt,a,m,c',ea,en,ec,(k45.ext e6' (by omega)).ext e67 (by omega),JB t hy hyt (fun k z hk hz=>hno k z (by omega) hz),hR⟩
     · rw[e67.block h4.size (by omega) (by omega),e6'.block h4.size (by omega) (by omega),e5'.block h4.size (by omega) (by omega)];exact hdf3
     · rw[e67.block b (by omega) (by omega),e6'.block b (by omega) (by omega),e5'.block b (by omega) (by omega)];exact eg3.block b hb (fun k=>k)
   · have hyt:y.1≠t:=fun e=>of_decide_eq_false q (by rw[e])
     have hr2:({ ({ r0 with state:=.busy }:Loop) with state:=.ready,pending:=none }:Loop)=r0:=by cases r0;simp at hst hpn;simp[hst,hpn]
     refine⟨_,hlp3,true,rfl,fun _=>?_,fun q=>by cases q⟩;rw[hr2];have e34:Ext (fun b=>b=h4.size+1) g3 (Lw.bM g3 (h4.size+1) (.loop r0)):=Ext.bM _ _ _ rfl;have zeg:=eg.size;refine⟨iw (by omega),(e34.block h4.size (by omega) (by omega)).trans hdf3,cap3.ext e34 l6,k33.ext e34 l3,k43.ext e34 l4,k53.ext e34 l5,⟨by have:=e34.size;omega,fun b hb _=>(e34.block b (by omega) (by omega)).trans (eg3.block b hb (fun k=>k))⟩,fun i z hi hz=>?_⟩
     rcases Nat.lt_or_ge j i with q|q
     · exact hno i z q hz
     · obtain rfl:i=j:=by omega
       rw[hy] at hz;cases hz;exact hyt
 · intro hy;refine(sF (l:=h4.size+1) (cap:=h3.size) (n:=xs.length) (c:=c) (J:=F3 h.size h1.size h2.size h3.size h4.size r0 h (.slice oa xs.length c) t xs) (S:=Kl h1.size h2.size h4.size r0 h t xs O) hx (fun j g hJ=>hJ.2.2.1.cell (i:=0) rfl) hy hJ0).mono fun e g hJ=>?_
   obtain⟨u,rfl,hJ⟩:=hJ;have hs0:=And.intro e1.size (And.intro e2.size (And.intro e3.size e4.size))
   rcases hJ with hJ|hS
   · obtain⟨hlp,hdf,hcap,k3g,k4g,k5g,eg,hno⟩:=hJ;refine⟨_,rfl,r0,hlp,by rw[hst];decide,.inl ⟨hpn,?_⟩⟩;have hlz:=hlp.lt;have zeg:=eg.size;obtain⟨g1,hg1⟩:∃g1,g1=Lw.bM g (h4.size+1) (.loop { r0 with state:=.exhausted }):=⟨_,rfl⟩
     have x1:Ext (fun b=>b=h4.size+1) g g1:=by rw[hg1];exact Ext.bM _ _ _ rfl
     rw[<-hg1];have k4e:=k4g.ext x1 (by omega);have k5e:=k5g.ext x1 (by omega);refine GD.qx ?_;refine oE rfl ?_;refine GD.mJ func79 rfl ?_;refine ji.bu rfl rfl rfl rfl (av (H.dO ) rfl) ?_;refine ji.BB rfl rfl rfl (aQ.gL H.Ge rfl rfl k4e (by first|rfl|(simp;done)|(simp;omega)) (by first|decide|exact of_decide_eq_true rfl|(simp;done)|(simp;omega)) (by first|decide|simp[Value.oneCell'])) ?_;rintro _ g2 ⟨rfl,k42,x2,zz2⟩;refine ji.BB rfl rfl rfl (aQ.jH H.H9 rfl rfl (k5e.ext x2 (by omega)) (by first|decide|exact of_decide_eq_true rfl|(simp;done)|(simp;omega)) rfl) ?_;rintro _ g3 ⟨rfl,k53,x3,zz3⟩;refine kr rfl ?_;refine GD.sub (ρ':=[(0,_),(1,_),(3,_),(4,_),(5,_),(9,_)]) ⟨rfl,rfl,rfl,rfl,rfl,rfl,trivial⟩ ?_;have k53:aD g3 h2.size 60 [.int .i64 4]:=k53;have zx1:=x1.size;have zx2:=x2.size;have zx3:=x3.size
     have hdf3:g3[h4.size]? =some (.deferred (some [])):=by
      rw[x3.block h4.size (by omega) (by omega),x2.block h4.size (by omega) (by omega),x1.block h4.size (by omega) (by omega)];exact hdf
     have x4:Ext (fun b=>b=h4.size) g3 (Lw.bM g3 h4.size (.deferred none)):=Ext.bM _ _ _ rfl;have k44:=(k42.ext x3 (by omega)).ext x4 (by omega);have k54:=k53.ext x4 (by omega);have zx4:=x4.size;refine GD.Iz func79 rfl hdf3 (.cons (fU.row (t:=42) (by kernel_rfl) (by kernel_rfl) rfl k44.row) (.cons (fU.cell (t:=60) (by kernel_rfl) rfl (k54.cell (i:=0) rfl)) .nil)) ?_;have hf:gR t xs=(iV,4):=wE t fun i y hy=>hno i y (Nat.zero_le _) hy
     rw[hf];exact⟨_,rfl,_,rfl,gN _ _,⟨by omega,fun b hb _=>by rw[x4.block b (by omega) (by omega),x3.block b (by omega) (by omega),x2.block b (by omega) (by omega),x1.block b (by omega) (by omega)];exact eg.block b hb (fun k=>k)⟩⟩
   · obtain⟨hlp,hdf,eg,k5g,y,nk,nt,a,m,c',ea,en,ec,k4g,hf,hR⟩:=hS;have hlz:=hlp.lt;have zeg:=eg.size;refine⟨_,rfl,_,hlp,(by simp),.inr ⟨rfl,hdf,?_⟩⟩;obtain⟨g1,hg1⟩:∃g1,g1=Lw.bM g (h4.size+1) (.loop { ({ r0 with state:=.done,pending:=some .ret }:Loop) with state:=.exhausted }):=⟨_,rfl⟩
     have x1:Ext (fun b=>b=h4.size+1) g g1:=by rw[hg1];exact Ext.bM _ _ _ rfl
     rw[<-hg1];have x2:Ext (fun b=>b=h4.size) g1 (Lw.bM g1 h4.size (.deferred none)):=Ext.bM _ _ _ rfl;have zx1:=x1.size;have zx2:=x2.size;have k4e:=(k4g.ext x1 (by omega)).ext x2 (by omega);have k5e:=(k5g.ext x1 (by omega)).ext x2 (by omega);have e0:aj h (Lw.bM g1 h4.size (.deferred none)):=⟨by omega,fun b hb _=>by rw[x2.block b (by omega) (by omega),x1.block b (by omega) (by omega)];exact eg.block b hb (fun k=>k)⟩
     refine⟨_,.cons (fU.row (t:=42) (by kernel_rfl) (by kernel_rfl) rfl k4e.row) (.cons (fU.cell (t:=60) (by kernel_rfl) rfl (k5e.cell (i:=0) rfl)) .nil),?_⟩;rw[hf];exact⟨_,rfl,_,rfl,cW.of (CY hR e0 fun _ _ q=>q),e0⟩
end
end Go.Proofs.YtoickfdopobmgaaGreatDoor
namespace Go.Proofs.YtoickfdopobmgaaGreatDoor
open Go Go.Lw
theorem cQ (b:Nat):okV b iV:=nO b 0 0 [] (by decide)
theorem uz (b:Nat) (x:Bool):okV b (lI x):=nO b _ _ [] (by decide)
theorem AI (b:Nat) (n:Int):okV b (mN n):=nO b _ _ [] (by decide)
theorem CU {b:Nat}(t:By):∀{l:List Bd},(∀p∈l,okV b p.2)->okV b (gR t l).1
  | [],_=>cQ b
  |p::r,h=>by
    have ih:=CU t (l:=r) (fun q hq=>h q (by simp[hq]));rw[gR];split
    · exact ih
    · split
      · exact h p (by simp)
      · exact cQ b
theorem FP (b:Nat) (op:By) (w:Int):okV b (jb op w).1:=by
  unfold jb;repeat' split
  all_goals first|exact uz _ _|exact cQ _
theorem IQ (b:Nat) (op:By) (x y:Int):okV b (dw op x y).1:=by
  unfold dw;simp only;repeat' split
  all_goals first|exact AI _ _|exact cQ _|exact FP _ _ _
theorem Mr (b:Nat) (op:By) (v:Vl):okV b (Ga op v).1:=by
  unfold Ga;repeat' split
  all_goals first|exact uz _ _|exact AI _ _|exact cQ _
theorem Ll (b:Nat) (op:By) (x y:Vl):okV b (Bk op x y).1:=by
  unfold Bk;repeat' split
  all_goals first|exact uz _ _|exact cQ _|exact FP _ _ _|exact IQ _ _ _ _|(rename_i h;exact nO _ _ _ _ (by rw[List.length_append];omega))
def PB (B m:Nat) (r:Out):Prop:=r.2.2<=m/\okV (B-2*r.2.2) r.1/\(r.2.1=0->r.2.2<m)
def Kh (B m:Nat) (r:Out):Prop:=r.2.2<=m/\okV (B-2*r.2.2) r.1
def ND (B:Nat) (ev:Ev):Prop:=∀m env n,2*m<=B->vE (B-2*m) env->n.wt<=1000000->PB B m (ev m env n)
theorem cS {k:Int}{t:By}{l:List Tr}(h:(Tr.mk k t l).wt<=1000000) (i:Nat):(l.getD i bJ).wt<=1000000:=by
  rw[List.getD_eq_getElem?_getD];cases hi:l[i]? with
  |none=>decide
  |some x =>
    have:=oG (List.mem_of_getElem? hi);rw[Tr.wt] at h
    show x.wt<=_
    omega
theorem iO {B m m':Nat}{l:List Bd}(h:vE (B-2*m) l) (hm:m'<=m):vE (B-2*m') l:=h.le (by omega)
theorem lQ {B m m':Nat}{l:List Bd}(h:vE (B-2*m) l) (hm:m'<m) (hB:2*m<=B){v:Vl}(hv:okV (B-2*m') v) (t:By):vE (B-2*m') (l++[(t,v)]):=by
  refine⟨?_,fun p hp=>?_⟩
  · rw[List.length_append];have:=h.1;simp;omega
  · rcases List.mem_append.1 hp with hp|hp
    · exact(h.2 p hp).le (by omega)
    · simp at hp;subst hp;exact hv
theorem xj {B:Nat}{ev:Ev}(hev:ND B ev):∀(l:List Tr) (m:Nat) (env:List Bd) (v:Vl),2*m<=B->vE (B-2*m) env->(∀x∈l,x.wt<=1000000)->okV (B-2*m) v->Kh B m (gU ev m env l v)
  | [],m,env,v,_,_,_,hv=>⟨Nat.le_refl _,hv⟩
  |n::r,m,env,v,hB,he,hl,hv=>by
    have h1:=hev m env n hB he (hl n (by simp));rw[gU];generalize ev m env n=o at h1;obtain⟨w,e,m'⟩:=o;obtain⟨a1,a2,a3⟩:=h1;dsimp only at a1 a2 a3 ⊢;have hr:∀x∈r,x.wt<=1000000:=fun x hx=>hl x (by simp[hx])
    split
    · exact⟨a1,cQ _⟩
    · rename_i h0;have h0:e=0:=Classical.not_not.1 h0;have hlt:=a3 h0;split
      · have:=xj hev r m' _ (jQ w n.text) (by omega) (lQ he hlt hB (mM a2 n.text) n.text) hr (mM a2 _);exact⟨Nat.le_trans this.1 a1,this.2⟩
      · have:=xj hev r m' env w (by omega) (iO he a1) hr a2;exact⟨Nat.le_trans this.1 a1,this.2⟩
theorem JK {B d:Nat}(hev:ND B (aU d)){m:Nat}{env:List Bd}{n:Tr}(hB:2*(m+1)<=B) (he:vE (B-2*(m+1)) env) (hn:n.wt<=1000000):Kh B m (aU (d+1) (m+1) env n):=by
  obtain⟨k,t,l⟩:=n;have hB':2*m<=B:=by omega
  have he':=iO he (Nat.le_succ m);have rR:=cS hn;have tt:t.length<=1000000:=by rw[Tr.wt] at hn;omega
  have k0:=hev m env (l.getD 0 bJ) hB' he' (rR 0);rw[aU];split
  · split
    · exact⟨Nat.le_refl _,AI _ _⟩
    · exact⟨Nat.le_refl _,cQ _⟩
  · split
    · split
      · exact⟨Nat.le_refl _,cQ _⟩
      · exact⟨Nat.le_refl _,nO _ _ _ _ tt⟩
    · split
      · exact⟨Nat.le_refl _,uz _ _⟩
      · split
        · exact⟨Nat.le_refl _,CU t he'.2⟩
        · split
          · exact⟨Nat.le_refl _,Eb tt (rR 0) he'⟩
          · split
            · exact xj hev l m env iV hB' he' (fun x hx=>by have:=oG hx;rw[Tr.wt] at hn;omega) (cQ _)
            · split
              · unfold GU;generalize aU d m env (l.getD 0 bJ)=o at k0;obtain⟨w,e,m'⟩:=o;obtain⟨a1,a2,a3⟩:=k0;dsimp only at a1 a2 a3 ⊢;split
                · exact⟨a1,a2⟩
                · rename_i h0;have hlt:=a3 (Classical.not_not.1 (fun q=>h0 (.inl q)));have:=hev m' _ (l.getD 1 bJ) (by omega) (lQ he' hlt hB' (mM a2 t) t) (rR 1);exact⟨Nat.le_trans this.1 a1,this.2.1⟩
              · split
                · unfold NK;generalize aU d m env (l.getD 0 bJ)=o at k0;obtain⟨w,e,m'⟩:=o;obtain⟨a1,a2,a3⟩:=k0;dsimp only at a1 a2 a3 ⊢;split
                  · exact⟨a1,cQ _⟩
                  · split
                    · exact⟨a1,cQ _⟩
                    · split
                      · have:=hev m' env (l.getD 1 bJ) (by omega) (iO he' a1) (rR 1);exact⟨Nat.le_trans this.1 a1,this.2.1⟩
                      · have:=hev m' env (l.getD 2 bJ) (by omega) (iO he' a1) (rR 2);exact⟨Nat.le_trans this.1 a1,this.2.1⟩
                · split
                  · unfold zM;generalize aU d m env (l.getD 0 bJ)=o at k0;obtain⟨f,e,m1⟩:=o;obtain⟨a1,a2,a3⟩:=k0;dsimp only at a1 a2 a3 ⊢;split
                    · exact⟨a1,cQ _⟩
                    · rename_i h0;have hlt:=a3 (Classical.not_not.1 h0);have k1:=hev m1 env (l.getD 1 bJ) (by omega) (iO he' a1) (rR 1);generalize aU d m1 env (l.getD 1 bJ)=o at k1;obtain⟨x,e,m2⟩:=o;obtain⟨b1,b2,b3⟩:=k1;dsimp only at b1 b2 b3 ⊢;split
                      · exact⟨by dsimp only;omega,cQ _⟩
                      · rename_i h1;have hlt2:=b3 (Classical.not_not.1 h1);split
                        · exact⟨by dsimp only;omega,cQ _⟩
                        · split
                          · exact⟨by dsimp only;omega,cQ _⟩
                          · obtain⟨_,f2,f3⟩:=a2.get
                            have hin:vE (B-2*m2) ((if f.self≠[] then f.env++[(f.self,f)] else f.env)++[(f.fE,x)]):=by
                              split
                              · refine⟨?_,fun p hp=>?_⟩
                                · rw[List.length_append,List.length_append];have:=f3.1;simp;omega
                                · rcases List.mem_append.1 hp with hp|hp
                                  · rcases List.mem_append.1 hp with hp|hp
                                    · exact(f3.2 p hp).le (by omega)
                                    · simp at hp;subst hp;exact a2.le (by omega)
                                  · simp at hp;subst hp;exact b2
                              · exact lQ f3 hlt2 (by omega) b2 f.fE
                            have:=hev m2 _ f.body (by omega) hin f2;exact⟨Nat.le_trans this.1 (by omega),this.2.1⟩
                  · split
                    · unfold HO;generalize aU d m env (l.getD 0 bJ)=o at k0;obtain⟨w,e,m'⟩:=o;obtain⟨a1,a2,a3⟩:=k0;dsimp only at a1 a2 a3 ⊢;split
                      · exact⟨a1,cQ _⟩
                      · exact⟨a1,Mr _ _ _⟩
                    · unfold Gc;generalize aU d m env (l.getD 0 bJ)=o at k0;obtain⟨a,e,m1⟩:=o;obtain⟨a1,a2,a3⟩:=k0;dsimp only at a1 a2 a3 ⊢;split
                      · exact⟨a1,cQ _⟩
                      · have k1:=hev m1 env (l.getD 1 bJ) (by omega) (iO he' a1) (rR 1);generalize aU d m1 env (l.getD 1 bJ)=o at k1;obtain⟨x,e,m2⟩:=o;obtain⟨b1,b2,b3⟩:=k1;dsimp only at b1 b2 b3 ⊢;split
                        · split
                          · exact⟨a1,cQ _⟩
                          · split
                            · exact⟨a1,a2⟩
                            · split
                              · exact⟨by dsimp only;omega,cQ _⟩
                              · exact⟨by dsimp only;omega,b2⟩
                        · split
                          · exact⟨by dsimp only;omega,cQ _⟩
                          · exact⟨by dsimp only;omega,Ll _ _ _ _⟩
theorem iI (B:Nat):∀d,ND B (aU d)
  | 0=>fun m env n hB he hn=>⟨Nat.le_refl _,cQ _,fun k=>by cases k⟩
  |d+1=>fun m env n hB he hn=>by
    cases m with
    |zero=>obtain⟨k,t,l⟩:=n;rw[aU];exact⟨Nat.le_refl _,cQ _,fun k=>by cases k⟩
    |succ m =>
      have h:=JK (iI B d) hB he hn;exact⟨Nat.le_succ_of_le h.1,h.2,fun _=>Nat.lt_succ_of_le h.1⟩
section
variable (W:By->Bool) (U:By->Prop)
mutual
inductive RV:Vl->Vl->Prop
  |mk {k n:Int}{s f:By}{b:Tr}{e e':List Bd}:(cA bz b=true->V W b)->RE e e'->RV (.mk k n s f b e) (.mk k n s f b e')
inductive RE:List Bd->List Bd->Prop
  |nil:RE [] []
  |cons {t:By}{v w:Vl}{e f:List Bd}:RV v w->RE e f->RE ((t,v)::e) ((t,w)::f)
  |skip {t:By}{w:Vl}{e f:List Bd}:U t->RE e f->RE e ((t,w)::f)
end
end
variable {W:By->Bool}{U:By->Prop}
def Cl (W:By->Bool) (n:Tr):Prop:=V W n\/n=bJ
theorem uN {k:Int}:∀{l:List Tr}{i:Nat},ie W k i l=true->∀x∈l,V W x
  | [],_,_,x,hx=>by cases hx
  |y::l,i,h,x,hx=>by
    have h:((cA W y && FC k i y) && ie W k (i+1) l)=true:=h;rw[Bool.and_eq_true,Bool.and_eq_true] at h
    rcases List.mem_cons.1 hx with rfl|hx
    · exact h.1.1
    · exact uN h.2 x hx
theorem Cl.rR {k:Int}{t:By}{l:List Tr}(h:Cl W (.mk k t l)) (i:Nat):Cl W (l.getD i bJ):=by
  rw[List.getD_eq_getElem?_getD];cases hi:l[i]? with
  |none=>exact .inr rfl
  |some x =>
    rcases h with h|h
    · exact .inl (uN (Q1.1 h).2 x (List.mem_of_getElem? hi))
    · cases h;cases hi
end Go.Proofs.YtoickfdopobmgaaGreatDoor
namespace Go.Proofs.YtoickfdopobmgaaGreatDoor
open Go.Proofs.Tryz
open Go Go.Lw
set_option maxRecDepth 20000 set_option maxHeartbeats 4000000
section
variable {h h' hb:ai}{b i rb B m:Nat}{O O':Nat->Prop}{v ev:Value}{s t:By}{l:List Tr}{x:Tr}{k:Int}
theorem F5:(Tryz.prog.info? 5).map (·.size)=some 1:=by kernel_rfl
theorem Eu {p:Value}(hk:aD h b 109 [p,.slice none 0 0]) (n:Nat) (hn:n<=1000000000) :
 aq Tryz.prog 87 #[.pointer (some ⟨b,0,none⟩),.int .i64 (n:Nat)] h (bw fun _ h'=>(∃v,aD h' b 109 [p,v]/\Dv h' (b+1) 5 v [])/\Ext (fun x=>x=b) h h'/\h.size<=h'.size):=by
 have hkl:=hk.lt;have hc1:=hk.cell (i:=1) rfl;refine bL ?_;refine af ?_;refine me 16 (fun x=>Array.size h<=x) (fun i=>Nat.blt i 16) ?_;refine aI 0 ?_;refine aI 1 ?_;refine aI 2 ?_;refine bI 3 rfl (fun h' e=>aA rfl (e.cell (show ¬Array.size h<=b by omega) hc1)) ?_;refine bI 4 rfl (fun h' e=>ay.C9 underlying53 rfl) ?_;refine bI 5 rfl (fun h' e=>ay.IZ rfl rfl ⟨by omega,by omega⟩) ?_;refine aI 6 ?_;refine aI 7 ?_;refine aI 9 ?_;refine aI 10 ?_;refine aI 11 ?_;refine bI 12 rfl (fun h' e=>aA rfl (e.cell (show ¬Array.size h<=b by omega) hc1)) ?_;refine aI 13 ?_;refine dH 8 rfl (aQ.makeNoZero (ps:=_) (t:=53) func136 (by decide +kernel) (by kernel_rfl) (by kernel_rfl) rfl underlying53 rfl n (by omega) hn) ?_;rintro _ h1 ⟨cs,rfl,hh1,hn1,hn2⟩;refine⟨fun _=>by rw[hh1];exact Ext.push _ _ _,?_⟩;refine bI 14 rfl (fun h' e=>ay.mE underlying53 H.NH rfl rfl 0 rfl (Nat.zero_le _)) ?_;refine aI 15 ?_;refine iT ?_;refine af ?_;have e1:aj h h1:=by rw[hh1];exact Ext.push _ _ _
 have k1:=hk.ah e1
 have ho:Dv h1 (b+1) 5 (.slice (cw (some ⟨h.size,0,none⟩) 0 1 cs.size) 0 cs.size) []:=by
  have hp:cw (some ⟨h.size,0,none⟩) 0 1 cs.size=some ⟨h.size,0,none⟩:=by
   unfold cw;split
   · rfl
   · rfl
  rw[hp];exact⟨rfl,.inr ⟨h.size,cs.size,cs,rfl,hkl,by rw[hh1];simp,Nat.zero_le _,hn2,by simp,by simp⟩⟩
 refine xp rfl (aA rfl (k1.cell (i:=1) rfl)) ?_;refine xp rfl (ay.JT underlying53 F5 rfl rfl rfl) ?_;refine af ?_;refine aM rfl (mj rfl rfl k1) ?_;rintro _ h2 ⟨rfl,k2,x2,z2⟩;refine af ?_;refine Hz ?_;have z1:=e1.size;refine⟨_,rfl,⟨_,k2,aB.ext x2 ho (fun g hg=>?_)⟩,?_,by omega⟩
 · have:=(aB.lt ho hg).1;omega
 · exact(e1.mono (fun _ _ k=>k.elim)).trans x2
theorem xS (hk:aD h b 109 [.pointer none,.slice none 0 0]) (n:Nat) (hn:n<=1000000000) :
 aq Tryz.prog 45 #[.pointer (some ⟨b,0,none⟩),.int .i64 (n:Nat)] h (bw fun _ h'=>kG h' b 109 5 []/\Ext (fun x=>x=b) h h'):=by
 refine bL ?_;refine af ?_;refine xo rfl (aE rfl (iZ hk (.inl rfl))) ?_;rintro _ h1 ⟨k1,x1,z1⟩;refine cX ?_
 iterate 2 refine aX ?_
 refine cD ?_
 iterate 2 refine aW ?_
 refine cX ?_;refine fe rfl (by simp) ?_
 iterate 2 refine aX ?_
 refine sS (fun _=>False) (fun i=>Nat.blt i 13) (sz:=13) (listed:= #[false,false,false,false,false,false,false,false,false,false,false,false,false]) func45 H.mixed rfl rfl rfl ?_;refine aI 0 ?_;refine aI 1 ?_;refine aI 2 ?_;refine bI 3 rfl (fun h' e=>aA rfl (e.cell (fun q=>q) (k1.cell (i:=1) rfl))) ?_;refine bI 4 rfl (fun h' e=>ay.C9 underlying53 rfl) ?_;refine aI 5 ?_;refine aI 6 ?_;refine aI 7 ?_;refine bI 8 rfl (fun h' e=>aA rfl (e.cell (fun q=>q) (k1.cell (i:=1) rfl))) ?_;refine aI 9 ?_;refine aI 10 ?_;refine aI 11 ?_;refine aI 12 ?_;refine iT ?_;refine aR (fun hlt=>?_) (fun hlt=>?_)
 · refine af ?_;refine xo rfl (aE rfl (Eu k1 n hn)) ?_;rintro _ h2 ⟨⟨v,k2,ho⟩,x2,z2⟩;refine af ?_;refine Hz ?_;exact⟨_,rfl,⟨_,_,k2,.inr rfl,ho⟩,x1.trans x2⟩
 · refine af ?_;refine Hz ?_;exact⟨_,rfl,⟨_,_,k1,.inr rfl,bN.nil _ _ _ _⟩,x1⟩
def gp (ws:List By):Nat:=(ws.map List.length).sum
theorem yM {ws:List By}{w:By}(h:ws[i]? =some w):gp (ws.take (i+1))=gp (ws.take i)+w.length:=by
 unfold gp;rw[List.take_add_one,h];simp
theorem mR (x:By):∀l:List By,gP (x::l)=x++l.flatMap fun y=>(59:UInt8)::32::y
 | []=>by simp[gP]
 |y::l=>by rw[gP,mR y l,List.flatMap_cons];rfl
theorem zA:∀ws:List By,(gP ws).length=gp ws+2*(ws.length-1)
 | []=>rfl
 |x::xs=>by
  have:∀l:List By,(l.flatMap fun y=>(59:UInt8)::32::y).length=gp l+2*l.length:=by
   intro l
   induction l with
   |nil=>rfl
   |cons y l ih=>rw[List.flatMap_cons,List.length_append,ih];simp[gp];omega
  rw[mR,List.length_append,this];simp[gp];omega
theorem oI (ws:List By) (i:Nat):gp (ws.take i)<=gp ws:=by
 have:gp (ws.take i++ws.drop i)=gp (ws.take i)+gp (ws.drop i):=by unfold gp;rw[List.map_append,List.sum_append]
 rw[List.take_append_drop] at this;omega
theorem E0 {ws:List By}(hv:aT oe h O v ws) (hb:(gP ws).length<=100000000) :
 aq Tryz.prog 24 #[v,.string (bs [59,32])] h (bw fun r h'=>r= .string (bs (gP ws))/\aj h h'):=by
 obtain⟨oa,n,c,rfl,hsl⟩:=hv.open;have hn:=hsl.len;subst hn;have hjl:=zA ws;have h32:(bs [59,32]).size=2:=rfl;refine bL ?_;refine af ?_;refine aR (fun h0=>?_) (fun h0=>?_)
 · have:ws=[]:=List.eq_nil_of_length_eq_zero (by omega);subst this;refine af ?_;refine bp ?_;exact⟨_,rfl,rfl,Ext.refl _ _⟩
 · refine af ?_;refine aR (fun h1=>?_) (fun h1=>?_)
   · obtain⟨x,rfl⟩:∃x,ws=[x]:=List.length_eq_one_iff.1 (by omega);obtain⟨b,o,y,ha,_,hy,hc⟩:=hsl.at (show 0 < [x].length from Nat.one_pos);cases hy;refine aX ?_;refine cD ?_;refine aW ?_;refine xp rfl (cz rfl rfl 0 rfl ha Nat.one_pos) ?_;refine xp rfl (aA rfl hc) ?_;refine af ?_;refine bp ?_;exact⟨_,rfl,rfl,Ext.refl _ _⟩
   · refine af ?_;refine fF rfl (by decide) ?_
     have hq:((9223372036854775807:Int).tdiv ((ws.length:Int)-1))>=3:=by
      rw[Int.tdiv_eq_ediv_of_nonneg (by decide)];exact(Int.le_ediv_iff_mul_le (by omega)).2 (by omega)
     have hq2:((9223372036854775807:Int).tdiv ((ws.length:Int)-1))<=9223372036854775807:=by
      rw[Int.tdiv_eq_ediv_of_nonneg (by decide)];exact Int.ediv_le_self _ (by decide)
     have hq3:IntKind.i64.wrap ((9223372036854775807:Int).tdiv ((ws.length:Int)-1))=((9223372036854775807:Int).tdiv ((ws.length:Int)-1)):=wrap_i64 ⟨by omega,by omega⟩
     iterate 2 refine aX ?_
     refine cD ?_
     iterate 5 refine aW ?_
     refine xp rfl (kU rfl rfl (by omega)) ?_;refine af ?_;refine fe rfl (by rw[hq3];simp;omega) ?_;refine aX ?_;refine cD ?_
     iterate 6 refine aW ?_
     refine xp rfl (ay.IZ rfl rfl ⟨by rw[h32];omega,by rw[h32];omega⟩) ?_;refine xp rfl (ay.xF rfl rfl ⟨by rw[h32];omega,by rw[h32];omega⟩) ?_;refine af ?_;rw[show (0:Int)+((bs [59,32]).size:Int)*((ws.length:Int)-1)=((2*(ws.length-1)+gp (ws.take 0):Nat):Int) by rw[h32,List.take_zero];show _=((2*(ws.length-1)+0:Nat):Int);omega];refine Bx (σ:=Nat) (fun i=>[(0,.slice oa ws.length c),(1,.string (bs [59,32])),(5,.int .i64 ((2*(ws.length-1)+gp (ws.take i):Nat):Int)),(39,.slice oa ws.length c),(40,.int .i64 (ws.length:Nat)),(41,.int .i64 (i:Nat))]) (fun i h'=>i<=ws.length/\h'=h) (fun i=>ws.length-i) (0) rfl ⟨rfl,rfl,rfl,rfl,rfl,rfl,trivial⟩ ⟨Nat.zero_le _,rfl⟩ ?_;rintro i g ⟨hi,hg⟩ ih;subst hg;have hsle:=oI ws (i+1);refine Q7 func24 1 [0,1,5,39,40,41,42] rfl ?_;refine kW rfl ?_;refine Kk rfl rfl (fun hlt=>?_) (fun hlt=>?_)
     · have hil:i<ws.length:=by omega
       obtain⟨w,hw⟩:∃w,ws[i]? =some w:=⟨_,List.getElem?_eq_getElem hil⟩
       have hst:=yM hw;have hwz:=aG w;obtain⟨b,o,y,ha,_,hy,hc⟩:=hsl.at hil;rw[hw] at hy;cases hy;refine qB rfl ?_;refine kW rfl ?_;refine G.block rfl rfl ?_;refine xr func24 rfl ?_;refine xp rfl (ay.jZ underlying22 H.Ds rfl rfl i rfl ha (by omega)) ?_;refine xp rfl (dR H.Ns rfl hc) ?_;refine Kv 1 [0,1,5,7,39,40,41,42] rfl ?_;refine kW rfl ?_;refine Q8 func24 1 rfl ?_;refine xp rfl (ay.lV underlying9 rfl) ?_;refine PL 1 rfl rfl (ay.Ie rfl rfl ⟨by omega,by omega⟩) ?_;refine Kv 1 [0,1,5,7,39,40,41,42,49] rfl ?_;refine sU rfl rfl (fun hc=>absurd hc (by simp;omega)) (fun _=>?_);refine qB rfl ?_;refine G.mJ func24 rfl ?_;refine PL 2 rfl rfl (ay.lV underlying9 rfl) ?_;refine xp rfl (ay.xF rfl rfl ⟨by omega,by omega⟩) ?_;refine Kv 1 [0,1,5,7,39,40,41,42,49] rfl ?_;refine G.qx ?_;refine G.mJ func24 rfl ?_;refine xp rfl (ay.xF rfl rfl ⟨by omega,by omega⟩) ?_;refine Kv 1 [0,1,5,7,39,40,41,42,49] rfl ?_;exact ih (i+1) _ _ ⟨rfl,rfl,congrArg (fun x:Int=>some (Value.int .i64 x)) (by rw[hst,hwz];omega),rfl,rfl,rfl,trivial⟩ ⟨by omega,rfl⟩ (by omega)
     · have hie:ws.take i=ws:=List.take_of_length_le (by omega);rw[hie];refine af ?_;refine xo rfl (cO) ?_;rintro _ h1 ⟨rfl,k1,e1,z1⟩;refine af ?_;have k1:aD h1 g.size 109 [.pointer none,.slice none 0 0]:=k1;obtain⟨x,tl,rfl⟩:∃x tl,ws=x::tl:=by cases ws with|nil=>simp at h0|cons x tl=>exact⟨x,tl,rfl⟩
       refine xo rfl (aE rfl (xS k1 _ (by omega))) ?_;rintro _ h2 ⟨hb2,x2⟩;refine af ?_;have e02:=aj.only e1 x2 (Nat.le_refl _);have hxz:=aG x;have hxl:x.length<=gp (x::tl):=by simp[gp]
       obtain⟨b,o,y,ha,_,hy,hc⟩:=(hsl.mv (Mv.ah e02)).at (show 0<(x::tl).length by simp);cases hy;refine xp rfl (cz rfl rfl 0 rfl ha (by simp)) ?_;refine xp rfl (aA rfl hc) ?_;refine xo rfl (aE rfl (cu (bs x) hb2 (by rw[hxz];simp only[List.length_nil];omega))) ?_;rintro _ h3 ⟨rfl,hb3,x3⟩;refine af ?_;rw[eD,List.nil_append] at hb3;have e03:=cM e02 x3 (Nat.le_refl _);have hpart:=hsl.part (i:=1) (j:=(x::tl).length) (by simp) (Nat.le_refl _);rw[List.take_length,List.drop_one,List.tail_cons] at hpart;refine xp rfl (ay.mD underlying22 H.Ds rfl rfl 1 rfl (by simp)) ?_;refine af ?_;refine gY (σ:=Nat) (fun i=>[(65,.int .i64 (i:Nat))]) (fun i h'=>i<=tl.length/\kG h' g.size 109 5 (gP (x::tl.take i))/\aj g h') (fun i=>tl.length-i) (0) ⟨Nat.zero_le _,by rw[List.take_zero,gP];exact hb3,e03⟩ rfl ?_;rintro i g4 ⟨hi,hb4,e04⟩ ih;have hjt:=zA (x::tl.take i);have hst:=oI (x::tl) (i+1);rw[List.take_succ_cons] at hst;simp only[List.length_cons,List.length_take] at hjt;simp only[List.length_cons] at hb hjl;have hlc:(x::tl).length-1=tl.length:=rfl;refine af ?_;refine aR (fun hlt4=>?_) (fun hlt4=>?_)
       · have hil:i<tl.length:=by omega
         obtain⟨w,hw⟩:∃w,tl[i]? =some w:=⟨_,List.getElem?_eq_getElem hil⟩
         have hwz:=aG w;have hst2:=oI (x::tl) (i+2);rw[List.take_succ_cons] at hst2;have htk:tl.take (i+1)=tl.take i++[w]:=by rw[List.take_add_one,hw];rfl
         have hs2:gp (x::tl.take (i+1))=gp (x::tl.take i)+w.length:=by rw[htk];simp[gp];omega
         have hjn:gP (x::tl.take (i+1))=(gP (x::tl.take i)++[59,32])++w:=by rw[htk,mR,mR];simp
         obtain⟨b5,o5,y5,ha5,_,hy5,hc5⟩:=(hpart.mv (Mv.ah e04)).at (show i<(x::tl).length-1 by omega);rw[hw] at hy5;cases hy5
         iterate 4 refine aX ?_
         refine cD ?_;refine xp rfl (cz rfl rfl i rfl ha5) ?_;refine xp rfl (aA rfl hc5) ?_;refine af ?_;refine xo rfl (aE rfl (cu (bs [59,32]) hb4 (by rw[h32];omega))) ?_;rintro _ h5 ⟨rfl,hb5,x5⟩;refine af ?_;rw[eD] at hb5;refine xo rfl (aE rfl (cu (bs w) hb5 (by rw[hwz,List.length_append];simp only[List.length_cons,List.length_nil];omega))) ?_;rintro _ h6 ⟨rfl,hb6,x6⟩;refine af ?_;rw[eD,<-hjn] at hb6;exact ih (i+1) ⟨by omega,hb6,cM (cM e04 x5 (Nat.le_refl _)) x6 (Nat.le_refl _)⟩
       · have hie:tl.take i=tl:=List.take_of_length_le (by omega);rw[hie] at hb4;refine af ?_;refine xo rfl (aE rfl (iK hb4 (by omega))) ?_;rintro _ h5 ⟨rfl,x5⟩;refine af ?_;refine bp ?_;exact⟨_,rfl,rfl,cM e04 x5 (Nat.le_refl _)⟩
abbrev Rn:fQ (UInt8×UInt8):=.record 2 (by decide) lX (fun _=>rfl) II
theorem M0 (k:oF h):aT Rn h (fun _=>False) (.slice (some ⟨1,0,none⟩) 6 6) iX :=
 ⟨_,6,6,rfl,rfl,Nat.le_refl _,by decide,fun i x hx=>⟨_,0,lX x,rfl,fun k=>k,fun j v hv=>by
  have:=k (i*2+j) v (iy (enc:=lX) (fun _=>rfl) iX i x j v hx hv);rw[Nat.add_assoc];exact this,rfl⟩⟩
theorem AD {tb ib:Nat}(hb:aD h tb 9 [.string (bs s)]) (hi:aD h ib 3 [.int .i64 (i:Nat)]){c:UInt8}(hc:s[i]? =some c) (p:UInt8×UInt8) :
 aq Tryz.prog 152 #[.agg (lX p).toArray,ptr tb,ptr ib] h (bw fun r h'=>r= .bool (p.2 ==c)/\aj h h'):=by
 refine bL ?_;refine af ?_;refine xo rfl (jj) ?_;rintro _ h1 ⟨rfl,k1,e1,z1⟩;have k1:aD h1 h.size 209 (lX p):=k1;refine af ?_;refine cG rfl (aA rfl (k1.cell (i:=1) rfl)) ?_;refine cG rfl (aA rfl ((hb.ah e1).cell (i:=0) rfl)) ?_;refine cG rfl (aA rfl ((hi.ah e1).cell (i:=0) rfl)) ?_;refine cG rfl (BA rfl rfl i rfl (ia hc)) ?_;refine af ?_;refine bp ?_;exact⟨_,rfl,by show Value.bool _=_;rw[LU];rfl,e1⟩
theorem A2 {gf:FuncId}{caps:List Value}(hf:LN Tryz.prog gf){ts:List (UInt8×UInt8)}(hv:aT Rn h (fun _=>False) v ts) (p:UInt8×UInt8->Bool)
 (hp:∀t g,aj h g->aq Tryz.prog gf ([Value.agg (lX t).toArray]++caps).toArray g (bw fun r h'=>r= .bool (p t)/\aj g h')) :
 aq Tryz.prog 151 #[v,.func (.func gf) #[] caps.toArray] h (bw fun r h'=>(∃i:Int,r= .int .i64 i/\((i<0/\ts.find? p=none)\/∃(k:Nat) (t:UInt8×UInt8),i=k/\ts[k]? =some t/\ts.find? p=some t))/\aj h h'):=by
 obtain⟨va,vn,vc,rfl,hvs⟩:=hv.open;have hvl:ts.length=vn:=hvs.len;subst hvl;have hvm:=hvs.cap;have hvc:=hvs.le;simp only[maxLen] at hvm;refine bL ?_;refine af ?_;refine gY (σ:=Nat) (fun i=>[(8,.int .i64 (i:Nat))]) (fun i h'=>aj h h'/\i<=ts.length/\∀a∈ts.take i,p a=false) (fun i=>ts.length-i) (0) ⟨Ext.refl _ _,Nat.zero_le _,by simp⟩ rfl ?_;rintro i g ⟨eg,hi,hin⟩ ih;refine af ?_;refine aR (fun hlt=>?_) (fun hlt=>?_)
 · have hil:i<ts.length:=by omega
   have hvg:=hvs.mv (Mv.ah eg);obtain⟨b,o,t,ha,_,ht,hrow⟩:=hvg.uj hil;have hpt:=hp t g eg
   iterate 4 refine aX ?_
   refine cD ?_
   iterate 2 refine aW ?_
   refine cX ?_;refine aX ?_;refine cD ?_
   iterate 3 refine aW ?_
   refine xp rfl (cz rfl rfl i rfl ha) ?_;refine xp rfl (bY rfl hrow) ?_;refine xo rfl (aQ.FR (vs:=[_]) rfl hf rfl (aq.HV (hpt))) ?_;rintro _ g1 ⟨rfl,e1⟩;refine af ?_;refine iM (fun hb=>?_) (fun hb=>?_)
   · have hb:p t=true:=hb;refine af ?_;refine bp ?_;exact⟨_,rfl,⟨i,rfl,.inr ⟨i,t,rfl,ht,FH hin ht hb⟩⟩,eg.trans e1⟩
   · have hb:p t=false:=hb;refine af ?_;exact ih (i+1) ⟨eg.trans e1,by omega,fun a ha=>by rw[List.take_add_one,ht,List.mem_append] at ha;exact ha.elim (hin a) (fun q=>by simp at q;rw[q];exact hb)⟩
 · obtain rfl:i=ts.length:=by omega
   refine af ?_;refine bp ?_;exact⟨_,rfl,⟨-1,rfl,.inl ⟨by decide,nY hin rfl⟩⟩,eg⟩
theorem D7 (c:UInt8):(fN c).length<=2:=by unfold fN;split<;>simp
theorem yW (s:By):(s.flatMap fN).length<=2*s.length:=by
 induction s with
 |nil=>simp
 |cons c s ih=>rw[List.flatMap_cons,List.length_append,List.length_cons];have:=D7 c;omega
theorem Cd (hg:oF h) (s:By) (hs:s.length<=100000000):aq Tryz.prog 111 #[.string (bs s)] h (bw fun r h'=>r= .string (bs (AB s))/\aj h h'):=by
 have hbz:=aG s;have hql:=yW s;refine bL ?_;refine af ?_;refine xo rfl (jj) ?_;rintro _ h1 ⟨rfl,k1,e1,z1⟩;refine af ?_;refine xo rfl (cO) ?_;rintro _ h2 ⟨rfl,k2,e2,z2⟩;have k1:aD h2 h.size 9 [.string (bs s)]:=k1.ah e2;have kb:kG h2 h1.size 109 5 []:=xT k2;refine af ?_;refine xo rfl (aE rfl (fX 34 kb (by simp))) ?_;rintro _ h3 ⟨kb3,x3⟩;have k13:=k1.ext x3 (show ¬h1.size<=h.size by omega);have e13:aj h h3:=cM (e1.trans e2) x3 (by omega);rw[List.nil_append] at kb3;refine af ?_;refine xp rfl (aA rfl (k13.cell (i:=0) rfl)) ?_;refine af ?_;refine gY (σ:=Nat) (fun i=>[(9,.int .i64 (i:Nat))]) (fun i g=>i<=s.length/\kG g h1.size 109 5 (34::(s.take i).flatMap fN)/\aj h g/\aD g h.size 9 [.string (bs s)]/\h2.size<=g.size) (fun i=>s.length-i) (0) ⟨Nat.zero_le _,kb3,e13,k13,x3.size⟩ rfl ?_;rintro i g ⟨hi,kg,eg,k1g,hz⟩ ih
 have htl:((s.take i).flatMap fN).length<=2*s.length:=by
  have:=yW (s.take i);rw[List.length_take] at this;omega
 refine af ?_;refine aR (fun hlt=>?_) (fun hlt=>?_)
 · have hil:i<s.length:=by omega
   obtain⟨c,hc⟩:∃c,s[i]? =some c:=⟨_,List.getElem?_eq_getElem hil⟩
   have htk:(s.take (i+1)).flatMap fN=(s.take i).flatMap fN++fN c:=by rw[List.take_add_one,hc];simp
   refine af ?_;refine xo rfl (cO) ?_;rintro _ g1 ⟨rfl,kn,en,zn⟩;refine aM rfl (mj rfl rfl kn) ?_;rintro _ g2 ⟨rfl,kn2,xn,zn2⟩;have kn2:aD g2 g.size 3 [.int .i64 (i:Nat)]:=kn2;have en2:aj g g2:=aj.only en xn (Nat.le_refl _);have eg2:=eg.trans en2;have hix:=A2 (h:=g2) (gf:=152) (caps:=[ptr h.size,ptr g.size]) ⟨_,func152,rfl,by kernel_rfl⟩ (M0 (hg.ah eg2)) (fun p=>p.2 ==c) (fun p g' e'=>AD ((k1g.ah en2).ah e') (kn2.ah e') hc p);refine af ?_;refine xp rfl (ay.B1 underlying210 H.Ia rfl  ) ?_;refine xp rfl (ay.makeFunc (vs:=[_,_]) rfl) ?_;refine xo rfl (aE rfl hix) ?_;rintro _ g3 ⟨⟨j,rfl,hj⟩,e3⟩;have eg3:=eg2.trans e3;have kg3:=kG.ah kg (en2.trans e3);have z3:=(en2.trans e3).size;refine af ?_;refine aR (fun hj0=>?_) (fun hj0=>?_)
   · obtain⟨k,p,rfl,hkp,hfp⟩:=hj.resolve_left (fun q=>by omega);have hk6:k<6:=(List.getElem?_eq_some_iff.1 hkp).1;have hqc:fN c=[92,p.1]:=by unfold fN;rw[hfp]
     have hrow:=(hg.ah eg3) (k*2+0) _ (iy (enc:=lX) (fun _=>rfl) iX k p 0 _ hkp rfl);refine cD ?_;refine aW ?_;refine xp rfl (zW rfl rfl k rfl hk6) ?_;refine af ?_;refine xp rfl (aA rfl hrow) ?_;refine xo rfl (iL [_,_]) ?_;rintro _ g4 ⟨rfl,hg4⟩;have e4:aj g3 g4:=by rw[hg4];exact Ext.push _ _ _
     have hby:aT .byte g4 (fun _=>False) (.slice (some ⟨g3.size,0,none⟩) 2 2) [92,p.1]:=by rw[hg4];exact Dv.read (ku sy g3 _ [92,p.1] 2 rfl (by decide) 0 (Nat.zero_le _) rfl) (fun _ _ k=>k)
     have hw:=cu (bs [92,p.1]) (kG.ah kg3 e4) (by show (34::_).length+2<=_;rw[List.length_cons];omega);refine xp rfl (Mo rfl hby) ?_;refine xo rfl (aE rfl hw) ?_;rintro _ g5 ⟨rfl,kb5,x5⟩;rw[eD] at kb5;have z4:=e4.size;refine af ?_;exact ih (i+1) ⟨hil,by rw[htk,hqc];exact kb5,cM (eg3.trans e4) x5 (by omega),((k1g.ah (en2.trans e3)).ah e4).ext x5 (show ¬h1.size<=h.size by omega),by have:=x5.size;omega⟩
   · have hfn:iX.find? (fun p=>p.2 ==c)=none:=by
      rcases hj with hj|⟨k,p,hj,_⟩
      · exact hj.2
      · omega
     have hqc:fN c=[c]:=by unfold fN;rw[hfn]
     have hw:=fX c kg3 (by rw[List.length_cons];omega);refine af ?_;refine xp rfl (aA rfl ((k1g.ah (en2.trans e3)).cell (i:=0) rfl)) ?_;refine xp rfl (aA rfl ((kn2.ah e3).cell (i:=0) rfl)) ?_;refine xp rfl (BA rfl rfl i rfl (ia hc)) ?_;refine xo rfl (aE rfl hw) ?_;rintro _ g5 ⟨kb5,x5⟩;refine af ?_;exact ih (i+1) ⟨hil,by rw[htk,hqc];exact kb5,cM eg3 x5 (by omega),(k1g.ah (en2.trans e3)).ext x5 (show ¬h1.size<=h.size by omega),by have:=x5.size;omega⟩
 · have hie:i=s.length:=by omega
   rw[hie,List.take_length] at kg;have hw:=fX 34 kg (by rw[List.length_cons];omega);refine af ?_;refine xo rfl (aE rfl hw) ?_;rintro _ g5 ⟨kb5,x5⟩;have hw2:=iK kb5 (by rw[List.length_append,List.length_cons,List.length_singleton];omega);refine af ?_;refine xo rfl (aE rfl hw2) ?_;rintro _ g6 ⟨rfl,x6⟩;refine af ?_;refine bp ?_;exact⟨_,rfl,rfl,cM (cM eg x5 (by omega)) x6 (by omega)⟩
def oY (l:By):List Value:=(List.range 256).map fun n=>.bool (decide (UInt8.ofNat n∈l))
@[simp] theorem Is (l:By):(oY l).length=256:=by unfold oY;rw[List.length_map,List.length_range]
theorem Fj (l:By) (c:UInt8):(oY l)[c.toNat]? =some (.bool (decide (c∈l))):=by
 unfold oY;rw[List.getElem?_map,List.getElem?_range c.toNat_lt];simp
theorem Ir (l:By) (c:UInt8):(oY l).set c.toNat (.bool true)=oY (l++[c]):=by
 apply List.ext_getElem?
 intro n;rw[List.getElem?_set]
 by_cases h:c.toNat=n
 · subst h;rw[if_pos rfl,if_pos (by rw[Is];exact c.toNat_lt),Fj];simp
 · rw[if_neg h];unfold oY;rw[List.getElem?_map,List.getElem?_map]
   by_cases hn:n<256
   · rw[List.getElem?_range hn];have:¬UInt8.ofNat n=c:=fun q=>h (by rw[<-q];exact UInt8.toNat_ofNat_of_lt' hn)
     simp[this]
   · rw[List.getElem?_eq_none (by rw[List.length_range];omega)];rfl
theorem B7 (l:By):∀v∈oY l,v.oneCell'=true:=fun v hv=>by unfold oY at hv;simp at hv;obtain⟨_,_,rfl⟩:=hv;rfl
theorem Gp (s:By) (hs:s.all (fun c=>decide (c.toNat<128))=true) (hsl:s.length<=1000000):aq Tryz.prog 204 #[.string (bs s)] h (bw fun r h'=>r=packed [.agg (oY s).toArray,.bool true]/\aj h h'):=by
 have hbz:=aG s;refine bL ?_;refine af ?_;refine xo rfl (cO) ?_;rintro _ h1 ⟨rfl,k1,e1,z1⟩;have k1:aD h1 h.size 283 (oY []):=k1;refine af ?_;refine gY (σ:=Nat) (fun i=>[(4,.int .i64 (i:Nat))]) (fun i g=>i<=s.length/\aD g h.size 283 (oY (s.take i))/\aj h g) (fun i=>s.length-i) (0) ⟨Nat.zero_le _,k1,e1⟩ rfl ?_;rintro i g ⟨hi,kg,eg⟩ ih;refine af ?_;refine aR (fun hlt=>?_) (fun hlt=>?_)
 · have hil:i<s.length:=by omega
   obtain⟨c,hc⟩:∃c,s[i]? =some c:=⟨_,List.getElem?_eq_getElem hil⟩
   have hc7:c.toNat<128:=of_decide_eq_true (List.all_eq_true.1 hs c (List.mem_of_getElem? hc));refine af ?_;refine xp rfl (BA rfl rfl i rfl (ia hc)) ?_;refine af ?_;refine fe rfl (by simp;omega) ?_;refine aX ?_;refine cD ?_;refine aW ?_;refine xp rfl (zW rfl rfl c.toNat rfl c.toNat_lt) ?_;refine aM rfl (mj rfl rfl kg) ?_;rintro _ g2 ⟨rfl,k2,x2,z2⟩;have k2:aD g2 h.size 283 (oY (s.take (i+1))):=by rw[List.take_add_one,hc,show (some c).toList=[c] from rfl,<-Ir];simpa using k2
   refine af ?_;exact ih (i+1) ⟨hil,k2,aj.only eg x2 (Nat.le_refl _)⟩
 · have hie:i=s.length:=by omega
   rw[hie,List.take_length] at kg;refine af ?_;refine xp rfl (bY rfl kg.row) ?_;refine aM rfl (aY rfl rfl kg (B7 s)) ?_;rintro _ g2 ⟨rfl,k2,x2,z2⟩;refine af ?_;refine ct (cj rfl k2.row (eo cq)) ?_;exact⟨_,rfl,by simp[over,List.drop_eq_nil_of_le],aj.only eg x2 (Nat.le_refl _)⟩
theorem ug {l:By}(k:aD h b 283 (oY l)) (c:UInt8):aq Tryz.prog 212 #[ptr b,.int .u8 (c.toNat:Nat)] h (bw fun r h'=>r= .bool (decide (c∈l))/\h'=h):=by
 refine bL ?_;refine aX ?_;refine cD ?_;refine aW ?_;refine cX ?_;refine aX ?_;refine cD ?_
 iterate 3 refine aW ?_
 refine xp rfl (zW rfl rfl c.toNat rfl c.toNat_lt) ?_;refine xp rfl (aA rfl (by simpa using k.cell (Fj l c))) ?_;refine af ?_;refine bp ?_;exact⟨_,rfl,rfl,rfl⟩
theorem BQ {l:By}(k:aD h b 283 (oY l)) (s:By):aq Tryz.prog 205 #[.string (bs s),ptr b] h (bw fun r h'=>r= .string (bs (s.dropWhile fun c=>decide (c∈l)))/\h'=h):=by
 refine bL ?_;refine af ?_;refine gY (σ:=By) (fun t=>[(0,.string (bs t))]) (fun t g=>g=h/\t.dropWhile (fun c=>decide (c∈l))=s.dropWhile fun c=>decide (c∈l)) (fun t=>t.length) (s) ⟨rfl,rfl⟩ rfl ?_;rintro t g ⟨rfl,ht⟩ ih;have hbz:=aG t;rw[<-ht];refine af ?_
 rcases t with _|⟨c,r⟩
 · refine fe rfl (by decide) ?_;refine af ?_;refine bp ?_;exact⟨_,rfl,rfl,rfl⟩
 · refine fF rfl (by rw[hbz];simp) ?_;refine af ?_;refine xp rfl (BA rfl rfl 0 rfl (ia (l:=c::r) (c:=c) rfl)) ?_;refine xo rfl (aE rfl (ug k c)) ?_;rintro _ g1 ⟨rfl,hg1⟩;subst hg1;refine af ?_;refine iM (fun hb=>?_) (fun hb=>?_)
   · have hb:¬c∈l:=by simpa using hb
     refine af ?_;refine bp ?_;exact⟨_,rfl,by rw[List.dropWhile_cons,if_neg (by simpa using hb)];rfl,rfl⟩
   · have hb:c∈l:=by simpa using hb
     refine af ?_;refine xp rfl (ay.iq underlying9 rfl rfl 1 rfl (by rw[hbz];simp)) ?_;rw[oU,ht];refine af ?_;exact ih r ⟨rfl,by rw[<-ht,List.dropWhile_cons,if_pos (by simpa using hb)]⟩ (by simp)
abbrev DN:By:=[48,49,50,51,52,53,54,55,56,57]
theorem Lg (c:UInt8):decide (c∈DN)=dz c:=by
 have k:∀n:Fin 256,decide (UInt8.ofFin n∈DN)=dz (UInt8.ofFin n):=by unfold dz;decide +kernel
 exact k c.toFin
theorem DK (s:By):aq Tryz.prog 194 #[.string (bs s),.string (bs DN)] h (bw fun r h'=>r= .string (bs (cK s))/\aj h h'):=by
 have hd:s.dropWhile (fun c=>decide (c∈DN))=cK s:=by unfold cK;congr 1;funext c;exact Lg c
 refine bL ?_;refine aX ?_;refine cD ?_;refine aW ?_;refine cX ?_
 iterate 2 refine aX ?_
 refine fL [(12,.bool (decide (s=[])))] rfl ?_ ?_
 · refine af ?_;refine dG 9 (fun g=>?_) (fun g=>?_)
   · have g:=of_decide_eq_true g;refine af ?_;exact aF rfl ⟨au rfl (by rw[decide_eq_true (bl g)]),sb rfl⟩
   · have g:=of_decide_eq_false g;refine af ?_;exact aF rfl ⟨au rfl (by rw[show decide (s=[])=false from decide_eq_false (fun q=>g (by rw[q];rfl))];rfl),sb rfl⟩
 · refine aR (fun h0=>?_) (fun h0=>?_)
   · refine af ?_;refine bp ?_;exact⟨_,rfl,by rw[h0];rfl,Ext.refl _ _⟩
   · iterate 3 refine aX ?_
     refine fL [(21,.bool false)] rfl ?_ ?_
     · refine af ?_;refine RW.cV (d:=17) (b':=false) rfl (rfl) ?_;refine af ?_;exact aF rfl ⟨au rfl (rfl),sb rfl⟩
     · refine fe rfl (by simp) ?_;refine af ?_;refine xo rfl (aE rfl (Gp DN (by decide) (by decide))) ?_;rintro _ h1 ⟨rfl,e1⟩;refine af ?_;refine xo rfl (cO) ?_;rintro _ h2 ⟨rfl,k2,e2,z2⟩;refine aM rfl (aY rfl rfl k2 (B7 DN)) ?_;rintro _ h3 ⟨rfl,k3,x3,z3⟩;have k3:aD h3 h1.size 283 (oY DN):=k3;refine af ?_;refine fF rfl (by simp) ?_;refine af ?_;refine xo rfl (aE rfl (BQ k3 s)) ?_;rintro _ h4 ⟨rfl,hh4⟩;refine af ?_;refine bp ?_;have e13:aj h1 h3:=aj.only e2 x3 (Nat.le_refl _);exact⟨_,rfl,by rw[hd];rfl,by rw[hh4];exact e1.trans e13⟩
theorem jv (s:By):aq Tryz.prog 176 #[.string (bs s)] h (bw fun r h'=>r=packed [.string (bs (cK s)),.bool (dN s)]/\aj h h'):=by
 have q1:=aG s;have q2:=aG (cK s);refine bL ?_;refine af ?_;refine xo rfl (aE rfl (DK s)) ?_;rintro _ h1 ⟨rfl,e1⟩;refine af ?_;refine bp ?_;exact⟨_,rfl,by unfold dN;rw[q1,q2];simp,e1⟩
def wU (s:By):Bool:=match s with| []=>false|c::_=>decide (c=46)
theorem Bc (s:By):aq Tryz.prog 177 #[.string (bs s),.string (bs [46])] h (bw fun r h'=>r=packed [.string (bs (if wU s then s.drop 1 else s)),.bool (wU s)]/\h'=h):=by
 have k:aq Tryz.prog 177 #[.string (bs s),.string (bs [46])] h _:=aq.qQ fun w=>Tryz.strings_CutPrefix (bs s) (bs [46]) w
 refine k.ret fun v h' ⟨h1,h2⟩=>⟨?_,h2⟩
 rw[h1]
 have e:Lib.hasPrefix (bs s).data.toList (bs [46]).data.toList=wU s:=by
  rw[eD,eD];unfold Lib.hasPrefix wU;cases s with
  |nil=>rfl
  |cons c r=>simp only[List.isPrefixOf,Bool.and_true];rw[Bool.eq_iff_iff];simp only[beq_iff_eq,decide_eq_true_iff];exact eq_comm
 rw[e];unfold Lib.trimPrefix;rw[e,eD,eD];rfl
def tI (s:By) (a b:UInt8):Bool:=match s with| []=>false|c::_=>decide (c=a) ||decide (c=b)
theorem JI (s:By) (ok:Bool):n7 s ok=if (ok && tI s 101 69)=true then (if tI (s.drop 1) 43 45=true then dN ((s.drop 1).drop 1) && decide (cK ((s.drop 1).drop 1)=[]) else dN (s.drop 1) && decide (cK (s.drop 1)=[])) else (ok && decide (s=[])):=by
 cases s with
 |nil=>simp[n7,tI]
 |cons c r =>
  unfold n7 tI;simp only[Bool.and_eq_true,Bool.or_eq_true,decide_eq_true_eq,List.drop_succ_cons,List.drop_zero]
  by_cases h:ok=true/\(c=101\/c=69)
  · rw[if_pos h,if_pos h];cases r with
    |nil=>rfl
    |cons d r=>simp only[Bool.or_eq_true,decide_eq_true_eq,List.drop_succ_cons,List.drop_zero]
  · rw[if_neg h,if_neg h];simp
theorem IS (s:By):ym s=if (dN s && wU (cK s))=true then n7 (cK ((cK s).drop 1)) (dN ((cK s).drop 1)) else n7 (cK s) (dN s):=by
 unfold ym;cases hd:cK s with
 |nil=>simp[wU,n7]
 |cons c r =>
  simp only[wU,Bool.and_eq_true,decide_eq_true_eq,List.drop_succ_cons,List.drop_zero]
theorem ne_nil (h:¬bs s=(⟨#[]⟩:ByteArray)):∃c r,s=c::r:=by
 cases s with
 |nil=>exact absurd rfl h
 |cons c r=>exact⟨c,r,rfl⟩
theorem eq_nil (h:bs s=(⟨#[]⟩:ByteArray)):s=[]:=bl (m:=[]) h
theorem nB (c:UInt8) (n:UInt8):decide ((c.toNat:Int)=(n.toNat:Int))=decide (c=n):=LU c n
theorem yw (s:By):aq Tryz.prog 160 #[.string (bs s)] h (bw fun r h'=>r= .bool (ym s)/\aj h h'):=by
 rw[IS];refine bL ?_;refine af ?_;refine xo rfl (aE rfl (jv s)) ?_;rintro _ h1 ⟨rfl,e1⟩;refine af ?_;refine xo rfl (aE rfl (Bc (cK s))) ?_;rintro _ h2 ⟨rfl,hh2⟩;subst hh2
 iterate 5 refine aW ?_
 refine cX ?_;refine aX ?_;refine fL [(19,.bool (dN s && wU (cK s)))] rfl ?_ ?_
 · refine af ?_;refine dG 17 (fun a=>?_) (fun a=>?_)
   · refine af ?_;exact aF rfl ⟨au rfl (by rw[a];rfl),sb rfl⟩
   · refine af ?_;exact aF rfl ⟨au rfl (by rw[a];rfl),sb rfl⟩
 · have fin:∀(s1:By) (ok1:Bool) (h':ai) (ρ':Env),Sub [(0,.string (bs s1)),(3,.bool ok1)] ρ'->aj h h'->(if (dN s && wU (cK s))=true then n7 (cK ((cK s).drop 1)) (dN ((cK s).drop 1)) else n7 (cK s) (dN s))=n7 s1 ok1->G Tryz.prog 160 f160 [.code [1,1,1]] ρ' h' (bw fun r h'=>r= .bool (if (dN s && wU (cK s))=true then n7 (cK ((cK s).drop 1)) (dN ((cK s).drop 1)) else n7 (cK s) (dN s))/\aj h h'):=by
    rintro s1 ok1 h3 ρ' hsub e3 hnum;rw[hnum,JI];have hbz:=aG s1;refine G.sub (ρ':=[(0,.string (bs s1)),(3,.bool ok1)]) hsub ?_
    iterate 2 refine aX ?_
    refine fL [(39,.bool (ok1 && tI s1 101 69))] rfl ?_ ?_
    · refine af ?_;refine dG 26 (fun a=>?_) (fun a=>?_)
      · rw[a,Bool.true_and];refine af ?_;refine dG 30 (fun b=>?_) (fun b=>?_)
        · obtain⟨c,r,rfl⟩:=ne_nil (s:=s1) (by simpa using b);refine af ?_;refine xp rfl (BA rfl rfl 0 rfl (ia (l:=c::r) rfl)) ?_;refine af ?_;refine dG 34 (fun d=>?_) (fun d=>?_)
          · refine af ?_;exact aF rfl ⟨au rfl (by show _=(decide (c=101) ||decide (c=69));rw[<-nB c 101,<-nB c 69,show (((101:UInt8).toNat:Nat):Int)=101 from rfl,d];rfl),sb rfl⟩
          · refine af ?_;refine xp rfl (BA rfl rfl 0 rfl (ia (l:=c::r) rfl)) ?_;refine af ?_;exact aF rfl ⟨au rfl (by show _=(decide (c=101) ||decide (c=69));rw[<-nB c 101,<-nB c 69,show (((101:UInt8).toNat:Nat):Int)=101 from rfl,d];rfl),sb rfl⟩
        · have hb:s1=[]:=eq_nil (by simpa using b);refine af ?_;exact aF rfl ⟨au rfl (by rw[hb];rfl),sb rfl⟩
      · rw[a,Bool.false_and];refine af ?_;exact aF rfl ⟨au rfl (rfl),sb rfl⟩
    · refine iM (fun hq=>?_) (fun hq=>?_)
      · rw[if_pos hq]
        have hne:1<=s1.length:=by
         cases s1 with
         |nil=>simp[tI] at hq
         |cons c r=>simp
        refine af ?_;refine xp rfl (ay.iq underlying9 rfl rfl 1 rfl (by omega)) ?_;rw[oU];have hbz2:=aG (s1.drop 1);refine aW ?_;refine cX ?_
        iterate 2 refine aX ?_
        refine fL [(53,.bool (tI (s1.drop 1) 43 45))] rfl ?_ ?_
        · refine af ?_;refine dG 44 (fun b=>?_) (fun b=>?_)
          · obtain⟨c,r,hcr⟩:=ne_nil (s:=s1.drop 1) (by simpa using b);rw[hcr];refine af ?_;refine xp rfl (BA rfl rfl 0 rfl (ia (l:=c::r) rfl)) ?_;refine af ?_;refine dG 48 (fun d=>?_) (fun d=>?_)
            · refine af ?_;exact aF rfl ⟨au rfl (by show _=(decide (c=43) ||decide (c=45));rw[<-nB c 43,<-nB c 45,show (((43:UInt8).toNat:Nat):Int)=43 from rfl,d];rfl),sb rfl⟩
            · refine af ?_;refine xp rfl (BA rfl rfl 0 rfl (ia (l:=c::r) rfl)) ?_;refine af ?_;exact aF rfl ⟨au rfl (by show _=(decide (c=43) ||decide (c=45));rw[<-nB c 43,<-nB c 45,show (((43:UInt8).toNat:Nat):Int)=43 from rfl,d];rfl),sb rfl⟩
          · have hb:s1.drop 1=[]:=eq_nil (by simpa using b);refine af ?_;exact aF rfl ⟨au rfl (by rw[hb];rfl),sb rfl⟩
        · refine iM (fun hg=>?_) (fun hg=>?_)
          · rw[if_pos hg]
            have hne2:1<=(s1.drop 1).length:=by
             cases hs:s1.drop 1 with
             |nil=>rw[hs] at hg;simp[tI] at hg
             |cons c r=>simp
            refine af ?_;refine xp rfl (ay.iq underlying9 rfl rfl 1 rfl (by omega)) ?_;rw[oU];refine af ?_;refine xo rfl (aE rfl (jv ((s1.drop 1).drop 1))) ?_;rintro _ h4 ⟨rfl,e4⟩
            iterate 5 refine aW ?_
            refine cX ?_;refine aX ?_;refine fL [(2,.bool (dN ((s1.drop 1).drop 1) && decide (cK ((s1.drop 1).drop 1)=[])))] rfl ?_ ?_
            · refine af ?_;refine dG 62 (fun b=>?_) (fun b=>?_)
              · refine af ?_;exact aF rfl ⟨au rfl (by rw[b];exact Bh _),sb rfl⟩
              · refine af ?_;exact aF rfl ⟨au rfl (by rw[b];rfl),sb rfl⟩
            · refine bp ?_;exact⟨_,rfl,rfl,e3.trans e4⟩
          · rw[if_neg (by rw[hg];decide)];refine af ?_;refine xo rfl (aE rfl (jv (s1.drop 1))) ?_;rintro _ h4 ⟨rfl,e4⟩
            iterate 5 refine aW ?_
            refine cX ?_;refine aX ?_;refine fL [(2,.bool (dN (s1.drop 1) && decide (cK (s1.drop 1)=[])))] rfl ?_ ?_
            · refine af ?_;refine dG 62 (fun b=>?_) (fun b=>?_)
              · refine af ?_;exact aF rfl ⟨au rfl (by rw[b];exact Bh _),sb rfl⟩
              · refine af ?_;exact aF rfl ⟨au rfl (by rw[b];rfl),sb rfl⟩
            · refine bp ?_;exact⟨_,rfl,rfl,e3.trans e4⟩
      · rw[if_neg (by rw[hq];decide)]
        iterate 2 refine aX ?_
        refine fL [(2,.bool (ok1 && decide (s1=[])))] rfl ?_ ?_
        · refine af ?_;refine dG 62 (fun b=>?_) (fun b=>?_)
          · refine af ?_;exact aF rfl ⟨au rfl (by rw[b];exact Bh _),sb rfl⟩
          · refine af ?_;exact aF rfl ⟨au rfl (by rw[b];rfl),sb rfl⟩
        · refine bp ?_;exact⟨_,rfl,rfl,e3⟩
   refine iM (fun hp=>?_) (fun hp=>?_)
   · have hp2:wU (cK s)=true:=by rw[Bool.and_eq_true] at hp;exact hp.2
     rw[if_pos hp2];refine af ?_;refine xo rfl (aE rfl (jv ((cK s).drop 1))) ?_;rintro _ h4 ⟨rfl,e4⟩
     iterate 5 refine aW ?_
     refine cX ?_;exact fin _ _ _ _ (by exact sb rfl) (e1.trans e4) (if_pos hp)
   · refine aX ?_;exact fin _ _ _ _ (by exact sb rfl) e1 (if_neg (by rw[hp];decide))
structure Hy (h:ai):Prop where
 lx:Dx h
 esc:oF h
 una:∃v,cellAt h ⟨3,0,none⟩=some v/\aT oe h (fun _=>False) v HM
 bin:∃v,cellAt h ⟨4,0,none⟩=some v/\aT oe h (fun _=>False) v JZ
theorem Hy.ah {h h':ai}(k:Hy h) (e:aj h h'):Hy h':=by
 obtain⟨h1,h2,⟨v,h3,h4⟩,w,h5,h6⟩:=k;exact⟨h1.ah e,h2.ah e,⟨v,e.cell (fun k=>k) h3,h4.mv (Mv.ah e)⟩,⟨w,e.cell (fun k=>k) h5,h6.mv (Mv.ah e)⟩⟩
theorem xX (c:UInt8):aq Tryz.prog 178 #[.int .u8 (c.toNat:Nat)] h (bw fun r h'=>r= .bool (isLet c)/\h'=h):=by
 rw[G1];refine bL ?_;refine aX ?_;refine cD ?_;refine aW ?_;refine cX ?_;refine aX ?_;refine fL [(2,.bool (decide ((97<=c.toNat/\c.toNat<=122)\/(65<=c.toNat/\c.toNat<=90)\/c.toNat=95)))] rfl ?_ ?_
 · refine af ?_;refine dG 5 (fun a=>?_) (fun a=>?_)
   · have a:=of_decide_eq_true a;refine af ?_;refine dG 9 (fun b=>?_) (fun b=>?_)
     · have b:=of_decide_eq_true b;refine af ?_;exact aF rfl ⟨au rfl (by rw[decide_eq_true (by omega)]),sb rfl⟩
     · have b:=of_decide_eq_false b;refine af ?_;refine dG 12 (fun d=>?_) (fun d=>?_)
       · have d:=of_decide_eq_true d;refine af ?_;refine dG 17 (fun e=>?_) (fun e=>?_)
         · have e:=of_decide_eq_true e;refine af ?_;exact aF rfl ⟨au rfl (by rw[decide_eq_true (by omega)]),sb rfl⟩
         · have e:=of_decide_eq_false e;refine af ?_;exact aF rfl ⟨au rfl (by rw[decide_eq_decide];omega),sb rfl⟩
       · have d:=of_decide_eq_false d
         iterate 2 refine PG ?_
         iterate 7 refine aW ?_
         exact aF rfl ⟨au rfl (by rw[decide_eq_decide];omega),sb rfl⟩
   · have a:=of_decide_eq_false a
     iterate 2 refine PG ?_
     iterate 5 refine aW ?_
     refine xN (d:=12) rfl (fun d=>?_) (fun d=>?_)
     · have d:=of_decide_eq_true d;refine af ?_;refine dG 17 (fun e=>?_) (fun e=>?_)
       · have e:=of_decide_eq_true e;refine af ?_;exact aF rfl ⟨au rfl (by rw[decide_eq_true (by omega)]),sb rfl⟩
       · have e:=of_decide_eq_false e;refine af ?_;exact aF rfl ⟨au rfl (by rw[decide_eq_decide];omega),sb rfl⟩
     · have d:=of_decide_eq_false d;refine af ?_;exact aF rfl ⟨au rfl (by rw[decide_eq_decide];omega),sb rfl⟩
 · refine bp ?_;exact⟨_,rfl,rfl,rfl⟩
theorem Ab (c:UInt8):aq Tryz.prog 179 #[.int .u8 (c.toNat:Nat)] h (bw fun r h'=>r= .bool (dz c)/\h'=h):=by
 rw[G2];refine bL ?_;refine aX ?_;refine cD ?_;refine aW ?_;refine cX ?_;refine aX ?_;refine fL [(2,.bool (decide (48<=c.toNat/\c.toNat<=57)))] rfl ?_ ?_
 · refine af ?_;refine dG 5 (fun a=>?_) (fun a=>?_)
   · have a:=of_decide_eq_true a;refine af ?_;exact aF rfl ⟨au rfl (by rw[decide_eq_decide];omega),sb rfl⟩
   · have a:=of_decide_eq_false a;refine af ?_;exact aF rfl ⟨au rfl (by rw[decide_eq_false (by omega)]),sb rfl⟩
 · refine bp ?_;exact⟨_,rfl,rfl,rfl⟩
theorem nR (hg:Dx h) (s:By) (hs:s.length<=1000000):aq Tryz.prog 161 #[.string (bs s)] h (bw fun r h'=>r= .bool (jR bz s)/\h'=h):=by
 have hbz:=aG s;refine bL ?_;refine af ?_;refine gY (σ:=Nat) (fun i=>[(6,.int .i64 (i:Nat))]) (fun i g=>g=h/\i<=s.length/\∀j c,j<i->s[j]? =some c->Fy j c=true) (fun i=>s.length-i) (0) ⟨rfl,Nat.zero_le _,fun j c q=>by omega⟩ rfl ?_;rintro i g ⟨rfl,hi,hin⟩ ih;refine af ?_;refine aR (fun hlt=>?_) (fun hlt=>?_)
 · have hil:i<s.length:=by omega
   obtain⟨c,hc⟩:∃c,s[i]? =some c:=⟨_,List.getElem?_eq_getElem hil⟩
   iterate 4 refine aX ?_
   refine cD ?_
   iterate 2 refine aW ?_
   refine cX ?_;refine aX ?_;refine fL [(24,.bool (!Fy i c))] rfl ?_ ?_
   · refine af ?_;refine xp rfl (BA rfl rfl i rfl (ia hc)) ?_;refine xo rfl (aE rfl (xX c)) ?_;rintro _ g1 ⟨rfl,hg1⟩;subst hg1;refine af ?_;refine dG 14 (fun a=>?_) (fun a=>?_)
     · have a:isLet c=false:=by simpa using a
       refine af ?_;refine dG 17 (fun z=>?_) (fun z=>?_)
       · have z:=of_decide_eq_true z;refine af ?_;exact aF rfl ⟨au rfl (by unfold Fy;rw[a,decide_eq_false (by omega)];rfl),sb rfl⟩
       · have z:=of_decide_eq_false z;refine af ?_;refine xp rfl (BA rfl rfl i rfl (ia hc)) ?_;refine xo rfl (aE rfl (Ab c)) ?_;rintro _ g1 ⟨rfl,hg1⟩;subst hg1;refine af ?_;exact aF rfl ⟨au rfl (by unfold Fy;rw[a,decide_eq_true (show i≠0 by omega)];rfl),sb rfl⟩
     · have a:isLet c=true:=by simpa using a
       refine af ?_;exact aF rfl ⟨au rfl (by unfold Fy;rw[a];rfl),sb rfl⟩
   · refine iM (fun hb=>?_) (fun hb=>?_)
     · have hb:Fy i c=false:=by simpa using hb
       refine af ?_;refine bp ?_;exact⟨_,rfl,by rw[IY bz hc hb];rfl,rfl⟩
     · have hb:Fy i c=true:=by simpa using hb
       refine af ?_;exact ih (i+1) ⟨rfl,hil,fun j d hj hd=>(Nat.lt_succ_iff_lt_or_eq.1 hj).elim (fun q=>hin j d q hd) (fun q=>by subst q;rw[hc] at hd;cases hd;exact hb)⟩
 · iterate 2 refine aX ?_
   refine fL [(2,.bool (jR bz s))] rfl ?_ ?_
   · refine af ?_;refine dG 28 (fun a=>?_) (fun a=>?_)
     · have h0:s≠[]:=fun q=>by rw[q] at a;exact of_decide_eq_true a rfl
       refine af ?_;refine xo rfl (aE rfl (uJ hg s hs)) ?_;rintro _ g1 ⟨rfl,hg1⟩;subst hg1;refine af ?_;exact aF rfl ⟨au rfl (by rw[GN bz h0 (fun j c hj=>hin j c (by have:=(List.getElem?_eq_some_iff.1 hj).1;omega) hj)]),sb rfl⟩
     · have h0:s=[]:=by simpa using eq_nil (s:=s) (by simpa using a)
       refine af ?_;exact aF rfl ⟨au rfl (by rw[h0,GM]),sb rfl⟩
   · refine bp ?_;exact⟨_,rfl,rfl,rfl⟩
theorem Ep (k:Int):aq Tryz.prog 159 #[.int .i64 k] h (bw fun r h'=>r=packed [.int .i64 ((dF k).1:Nat),.int .i64 ((dF k).2:Nat)]/\h'=h):=by
 refine bL ?_;refine af ?_;refine aR (fun c4=>?_) (fun c4=>?_)
 · refine af ?_;refine fF rfl (by simp[c4]) ?_;refine af ?_;refine bp ?_;exact⟨_,rfl,by unfold dF;rw[if_pos (.inl c4)];rfl,rfl⟩
 · refine af ?_;refine aR (fun c8=>?_) (fun c8=>?_)
   · refine af ?_;refine bp ?_;exact⟨_,rfl,by unfold dF;rw[if_pos (.inr c8)];rfl,rfl⟩
   · refine af ?_;refine aR (fun c5=>?_) (fun c5=>?_)
     · refine af ?_;refine fF rfl (by simp[c5]) ?_;refine af ?_;refine bp ?_;exact⟨_,rfl,by unfold dF;rw[if_neg (by omega),if_pos (.inl c5)];rfl,rfl⟩
     · refine af ?_;refine aR (fun c9=>?_) (fun c9=>?_)
       · refine af ?_;refine bp ?_;exact⟨_,rfl,by unfold dF;rw[if_neg (by omega),if_pos (.inr c9)];rfl,rfl⟩
       · refine af ?_;refine aR (fun c6=>?_) (fun c6=>?_)
         · refine af ?_;refine bp ?_;exact⟨_,rfl,by unfold dF;rw[if_neg (by omega),if_neg (by omega),if_pos c6];rfl,rfl⟩
         · refine af ?_;refine aR (fun c7=>?_) (fun c7=>?_)
           · refine af ?_;refine bp ?_;exact⟨_,rfl,by unfold dF;rw[if_neg (by omega),if_neg (by omega),if_neg c6,if_pos c7];rfl,rfl⟩
           · refine af ?_;refine aR (fun c10=>?_) (fun c10=>?_)
             · refine af ?_;refine bp ?_;exact⟨_,rfl,by unfold dF;rw[if_neg (by omega),if_neg (by omega),if_neg c6,if_neg c7,if_pos c10];rfl,rfl⟩
             · refine af ?_;refine bp ?_;exact⟨_,rfl,by unfold dF;rw[if_neg (by omega),if_neg (by omega),if_neg c6,if_neg c7,if_neg c10];rfl,rfl⟩
def bounds (k:Int) (n:Nat):Bool:=decide ((0<=k/\k<=10)/\(dF k).1<=n/\n<=(dF k).2)
theorem u7 (word:By->Bool) (k:Int) (t:By) (n:Nat):jJ word k t n=(bounds k n && jE word k t):=by
 unfold jJ bounds;rw[Bool.eq_iff_iff];simp only[Bool.and_eq_true,decide_eq_true_eq];constructor
 · intro ⟨a,b,c,d,e⟩;exact⟨⟨⟨c,d⟩,a,b⟩,e⟩
 · intro ⟨⟨⟨c,d⟩,a,b⟩,e⟩;exact⟨a,b,c,d,e⟩
abbrev Aa (k:Int) (t:By) (a:Option Addr) (n c:Nat):List Value:=[.int .i64 k,.string (bs t),.slice a n c]
theorem B6 (hg:Hy h) (k:Int) (t:By) (a:Option Addr) (n c:Nat) (ht:t.length<=1000000) :
 aq Tryz.prog 125 #[.agg #[.int .i64 k,.string (bs t),.slice a n c]] h (bw fun r h'=>r= .bool (jJ bz k t n)/\aj h h'):=by
 rw[u7];have hbz:=aG t;refine bL ?_;refine af ?_;refine xo rfl (jj) ?_;rintro _ h1 ⟨rfl,k1,e1,z1⟩;have k1:aD h1 h.size 39 (Aa k t a n c):=k1;refine af ?_;refine xp rfl (aA rfl (k1.cell (i:=0) rfl)) ?_;refine xo rfl (aE rfl (Ep k)) ?_;rintro _ h2 ⟨rfl,hh2⟩;subst hh2
 iterate 5 refine aW ?_
 refine cX ?_
 iterate 2 refine aX ?_
 refine fL [(32,.bool (!bounds k n))] rfl ?_ ?_
 · refine af ?_;refine xp rfl (aA rfl (k1.cell (i:=0) rfl)) ?_;refine af ?_;refine dG 14 (fun a=>?_) (fun a=>?_)
   · have a:=of_decide_eq_true a;refine af ?_;exact aF rfl ⟨au rfl (by unfold bounds;rw[decide_eq_false (by omega)];rfl),sb rfl⟩
   · have a:=of_decide_eq_false a;refine af ?_;refine xp rfl (aA rfl (k1.cell (i:=0) rfl)) ?_;refine af ?_;refine dG 19 (fun b=>?_) (fun b=>?_)
     · have b:=of_decide_eq_true b;refine af ?_;exact aF rfl ⟨au rfl (by unfold bounds;rw[decide_eq_false (by omega)];rfl),sb rfl⟩
     · have b:=of_decide_eq_false b;refine af ?_;refine xp rfl (aA rfl (k1.cell (i:=2) rfl)) ?_;refine af ?_;refine dG 26 (fun d=>?_) (fun d=>?_)
       · have d:=of_decide_eq_true d;refine af ?_;exact aF rfl ⟨au rfl (by unfold bounds;rw[decide_eq_false (by omega)];rfl),sb rfl⟩
       · have d:=of_decide_eq_false d;refine af ?_;refine xp rfl (aA rfl (k1.cell (i:=2) rfl)) ?_;refine af ?_;exact aF rfl ⟨au rfl (by unfold bounds;rw[<-decide_not,decide_eq_decide];omega),sb rfl⟩
 · refine iM (fun hb=>?_) (fun hb=>?_)
   · have hb:bounds k n=false:=by simpa using hb
     rw[hb];refine af ?_;refine bp ?_;exact⟨_,rfl,rfl,e1⟩
   · have hb:bounds k n=true:=by simpa using hb
     rw[hb,Bool.true_and];refine af ?_;refine xp rfl (aA rfl (k1.cell (i:=0) rfl)) ?_;refine af ?_;refine aR (fun c0=>?_) (fun c0=>?_)
     · refine af ?_;refine xp rfl (aA rfl (k1.cell (i:=1) rfl)) ?_;refine xo rfl (aE rfl (yw t)) ?_;rintro _ h3 ⟨rfl,e3⟩;refine af ?_;refine bp ?_;exact⟨_,rfl,by unfold jE;rw[if_pos c0];rfl,e1.trans e3⟩
     · refine af ?_;refine aR (fun c1=>?_) (fun c1=>?_)
       · refine af ?_;refine xp rfl (aA rfl (k1.cell (i:=1) rfl)) ?_;refine af ?_;refine bp ?_;exact⟨_,rfl,by unfold jE;rw[if_neg c0,if_pos c1];show Value.bool _=_;rw[hbz];simp only[Value.bool.injEq,decide_eq_decide];omega,e1⟩
       · refine af ?_;refine aR (fun c2=>?_) (fun c2=>?_)
         · refine aX ?_;refine fL [(2,.bool (decide (t=kI) ||decide (t=nC)))] rfl ?_ ?_
           · refine af ?_;refine xp rfl (aA rfl (k1.cell (i:=1) rfl)) ?_;refine af ?_;refine dG 51 (fun g=>?_) (fun g=>?_)
             · have g:t=kI:=bl (m:=kI) (of_decide_eq_true g);refine af ?_;exact aF rfl ⟨au rfl (by rw[decide_eq_true g];rfl),sb rfl⟩
             · have g:¬t=kI:=fun q=>of_decide_eq_false g (by rw[q];rfl)
               refine af ?_;refine xp rfl (aA rfl (k1.cell (i:=1) rfl)) ?_;refine af ?_;exact aF rfl ⟨au rfl (by rw[decide_eq_false g,Bool.false_or];exact Mc t nC),sb rfl⟩
           · refine bp ?_;exact⟨_,rfl,by unfold jE;rw[if_neg c0,if_neg c1,if_pos c2];rfl,e1⟩
         · refine af ?_;refine aR (fun c3=>?_) (fun c3=>?_)
           · refine af ?_;refine fF rfl (by simp[c3]) ?_;refine af ?_;refine xp rfl (aA rfl (k1.cell (i:=1) rfl)) ?_;refine xo rfl (aE rfl (nR (hg.ah e1).lx t ht)) ?_;rintro _ h3 ⟨rfl,hh3⟩;refine af ?_;refine bp ?_;exact⟨_,rfl,by unfold jE;rw[if_neg c0,if_neg c1,if_neg c2,if_pos (.inl c3)];rfl,by rw[hh3];exact e1⟩
           · refine af ?_;refine aR (fun c7=>?_) (fun c7=>?_)
             · refine af ?_;refine fF rfl (by simp[c7]) ?_;refine af ?_;refine xp rfl (aA rfl (k1.cell (i:=1) rfl)) ?_;refine xo rfl (aE rfl (nR (hg.ah e1).lx t ht)) ?_;rintro _ h3 ⟨rfl,hh3⟩;refine af ?_;refine bp ?_;exact⟨_,rfl,by unfold jE;rw[if_neg c0,if_neg c1,if_neg c2,if_pos (.inr (.inl c7))];rfl,by rw[hh3];exact e1⟩
             · refine af ?_;refine aR (fun c8=>?_) (fun c8=>?_)
               · refine af ?_;refine xp rfl (aA rfl (k1.cell (i:=1) rfl)) ?_;refine xo rfl (aE rfl (nR (hg.ah e1).lx t ht)) ?_;rintro _ h3 ⟨rfl,hh3⟩;refine af ?_;refine bp ?_;exact⟨_,rfl,by unfold jE;rw[if_neg c0,if_neg c1,if_neg c2,if_pos (.inr (.inr c8))];rfl,by rw[hh3];exact e1⟩
               · refine af ?_;refine aR (fun c4=>?_) (fun c4=>?_)
                 · obtain⟨uv,hu1,hu2⟩:=(hg.ah e1).una;refine af ?_;refine xp rfl (aA rfl hu1) ?_;refine af ?_;refine xp rfl (aA rfl (k1.cell (i:=1) rfl)) ?_;refine xo rfl (aE rfl (qj hu2 t)) ?_;rintro _ h3 ⟨rfl,hh3⟩;refine af ?_;refine bp ?_;exact⟨_,rfl,by unfold jE;rw[if_neg c0,if_neg c1,if_neg c2,if_neg (by omega),if_pos c4];rfl,by rw[hh3];exact e1⟩
                 · refine af ?_;refine aR (fun c5=>?_) (fun c5=>?_)
                   · obtain⟨uv,hu1,hu2⟩:=(hg.ah e1).bin;refine af ?_;refine xp rfl (aA rfl hu1) ?_;refine af ?_;refine xp rfl (aA rfl (k1.cell (i:=1) rfl)) ?_;refine xo rfl (aE rfl (qj hu2 t)) ?_;rintro _ h3 ⟨rfl,hh3⟩;refine af ?_;refine bp ?_;exact⟨_,rfl,by unfold jE;rw[if_neg c0,if_neg c1,if_neg c2,if_neg (by omega),if_neg c4,if_pos c5];rfl,by rw[hh3];exact e1⟩
                   · refine af ?_;refine xp rfl (aA rfl (k1.cell (i:=1) rfl)) ?_;refine af ?_;refine bp ?_;exact⟨_,rfl,by unfold jE;rw[if_neg c0,if_neg c1,if_neg c2,if_neg (by omega),if_neg c4,if_neg c5];show Value.bool _=_;rw[<-Bh],e1⟩
def alone (x:Tr):Bool:=decide (x.kind≠7) ||decide (x.kids.length=2)
def Jv (k:Int) (i:Nat) (x:Tr):Bool:=decide (k≠6) ||(decide (i=0) ||(decide (x.kind=10) ||(decide (i≠1) && decide (x.kind=6))))
theorem Jl (k:Int) (i:Nat) (x:Tr):FC k i x=((decide (k=10) ||alone x) && Jv k i x):=by cases x;rfl
theorem Ju (k:Int) (i:Nat) (x:Tr):(!Jv k i x)=decide (k=6/\0<i/\x.kind≠10/\(i=1\/x.kind≠6)):=by
 unfold Jv;rw[Bool.eq_iff_iff,Bool.not_eq_true',Bool.eq_false_iff];simp only[ne_eq,Bool.or_eq_true,Bool.and_eq_true,decide_eq_true_eq];omega
def Mj (x:Tr):Prop:=∀(h:ai) (O:Nat->Prop) (v:Value),Hy h->eF h O v x->aq Tryz.prog 76 #[v] h (bw fun r h'=>r= .bool (cA bz x)/\aj h h')
theorem BN (hs:Mj x) (hg:Hy h) (hv:eF h O v x):aq Tryz.prog 126 #[v] h (bw fun r h'=>r= .bool (cA bz x && alone x)/\aj h h'):=by
 cases x with
 |mk k t l =>
  obtain⟨w,rfl,hw⟩:=id hv.open;obtain⟨a,n,c,rfl,hws⟩:=id hw.open;have hn:l.length=n:=hws.len;refine bL ?_;refine af ?_;refine xo rfl (jj) ?_;rintro _ h1 ⟨rfl,k1,e1,z1⟩;have k1:aD h1 h.size 39 (Aa k t a n c):=k1;have hcall:=hs h1 O _ (hg.ah e1) (hv.mv (Mv.ah e1));refine aW ?_;refine cX ?_;refine aX ?_;refine PK (fun(u:Unit) (h':ai)=>aj h1 h') (fun(u:Unit)=>[(2,.bool (cA bz (.mk k t l) && alone (.mk k t l)))]) rfl ?_ ?_
  · refine xp rfl (bY rfl k1.row) ?_;refine xo rfl (aE rfl hcall) ?_;rintro _ h2 ⟨rfl,e2⟩;refine af ?_;refine dG 5 (fun a=>?_) (fun a=>?_)
    · refine af ?_;refine xp rfl (aA rfl ((k1.ah e2).cell (i:=0) rfl)) ?_;refine af ?_;refine dG 9 (fun b=>?_) (fun b=>?_)
      · have b:¬k=7:=by simpa using b
        refine af ?_;exact zV () e2 ⟨au rfl (by rw[a];unfold alone;rw[decide_eq_true (show Tr.kind (.mk k t l)≠7 from b)];rfl),sb rfl⟩
      · have b:k=7:=by simpa using b
        refine af ?_;refine xp rfl (aA rfl ((k1.ah e2).cell (i:=2) rfl)) ?_;refine af ?_;exact zV () e2 ⟨au rfl (by rw[a,Bool.true_and];unfold alone;rw[decide_eq_false (show ¬Tr.kind (.mk k t l)≠7 from fun q=>q b),Bool.false_or,<-hn,decide_eq_decide];show _↔l.length=2;omega),sb rfl⟩
    · refine af ?_;exact zV () e2 ⟨au rfl (by rw[a];rfl),sb rfl⟩
  · rintro u h2 e2;refine bp ?_;exact⟨_,rfl,rfl,e1.trans e2⟩
theorem sY (word:By->Bool) (k:Int) (i:Nat) (x:Tr) (l:List Tr):ie word k i (x::l)=((cA word x && FC k i x) && ie word k (i+1) l):=by rw[ie]
theorem rT (word:By->Bool) (k:Int) (t:By) (l:List Tr):cA word (.mk k t l)=(jJ word k t l.length && ie word k 0 l):=by rw[cA]
theorem DP:∀(d:Nat) (x:Tr),x.dep<=d->x.wt<=1000000->Mj x:=by
 intro d
 induction d with
 |zero=>intro x hx;cases x with|mk k t l=>simp[Tr.dep] at hx
 |succ d ih =>
 intro x hd hwt h O v hg hv;cases x with
 |mk k t l =>
  obtain⟨w,rfl,hw⟩:=id hv.open;obtain⟨a,n,c,rfl,hws⟩:=id hw.open;have hn:l.length=n:=hws.len;subst hn;have hcap:=hws.cap;have hle:=hws.le;simp only[maxLen] at hcap;have htl:=E5 k t l;rw[rT];refine bL ?_;refine af ?_;refine xo rfl (jj) ?_;rintro _ h1 ⟨rfl,k1,e1,z1⟩;have k1:aD h1 h.size 39 (Aa k t a l.length c):=k1;refine af ?_;refine xp rfl (bY rfl k1.row) ?_;refine xo rfl (aE rfl (B6 (hg.ah e1) k t a l.length c (by omega))) ?_;rintro _ h2 ⟨rfl,e2⟩;have e02:=e1.trans e2;have k2:=k1.ah e2;refine af ?_;refine iM (fun hs=>?_) (fun hs=>?_)
  · have hs:jJ bz k t l.length=false:=by simpa using hs
    refine af ?_;refine bp ?_;exact⟨_,rfl,by rw[hs];rfl,e02⟩
  · have hs:jJ bz k t l.length=true:=by simpa using hs
    rw[hs,Bool.true_and];refine af ?_;refine xp rfl (aA rfl (k2.cell (i:=2) rfl)) ?_;refine af ?_;refine gY (σ:=Nat) (fun i=>[(11,.int .i64 (i:Nat))]) (fun i g=>i<=l.length/\aj h2 g/\ie bz k i (l.drop i)=ie bz k 0 l) (fun i=>l.length-i) (0) ⟨Nat.zero_le _,Ext.refl _ _,rfl⟩ rfl ?_;rintro i g ⟨hi,eg,hq⟩ ihL;have kg:=k2.ah eg;have e0g:=e02.trans eg;refine af ?_;refine aR (fun hlt=>?_) (fun hlt=>?_)
    · have hil:i<l.length:=by omega
      have hwsg:=hws.mv (Mv.ah e0g);obtain⟨b,o,x,cs,ha,hob,hx,hrow,hR⟩:=Sl.nd hwsg hil;have hxm:x∈l:=List.mem_of_getElem? hx;have hxw:=rS (k:=k) (t:=t) hxm
      have hdr:l.drop i=x::l.drop (i+1):=by
       obtain⟨h1,h2⟩:=List.getElem?_eq_some_iff.1 hx;rw[List.drop_eq_getElem_cons h1,h2]
      rw[hdr,sY,Jl] at hq;obtain⟨xk,xt,xa,xn,xc,hcs,hR'⟩:=(eF.of hR).get;obtain rfl:cs=[.int .i64 xk,.string (bs xt),.slice xa xn xc]:=by have:=congrArg (fun v=>match v with|Value.agg cs=>cs.toList|_=>[]) hcs;simpa using this
      have hxk:xk=x.kind:=by cases x with|mk k' t' l'=>obtain⟨v',hv1,_⟩:=kO hR;cases hv1;rfl
      have hst:=ih x (by have:=FN (k:=k) (t:=t) hxm;omega) (by omega)
      iterate 4 refine aX ?_
      refine cD ?_;refine aW ?_;refine xp rfl (cz rfl rfl i rfl ha) ?_;refine xp rfl (bY rfl hrow) ?_;refine xo rfl (cO) ?_;rintro _ g1 ⟨rfl,kn,e3,z3⟩;refine af ?_;refine aM rfl (aY rfl rfl kn lq) ?_;rintro _ g2 ⟨rfl,kx,x2,z2⟩;have kx:aD g2 g.size 39 [.int .i64 xk,.string (bs xt),.slice xa xn xc]:=kx;have eg2:aj g g2:=aj.only e3 x2 (Nat.le_refl _);have kg2:=kg.ah eg2;have hg2:=hg.ah (e0g.trans eg2);have hnx:=(eF.of hR).mv (Mv.ah eg2);have hcs:=hst g2 O _ hg2 hnx;have hcv:=BN hst hg2 hnx;refine cX ?_
      iterate 2 refine aX ?_
      refine PK (fun(u:Unit) (h':ai)=>aj g2 h') (fun(u:Unit)=>[(33,.bool (!(cA bz x && (decide (k=10) ||alone x))))]) rfl ?_ ?_
      · refine af ?_;refine xp rfl (aA rfl (kg2.cell (i:=0) rfl)) ?_;refine af ?_;refine dG 19 (fun p=>?_) (fun p=>?_)
        · have p:=of_decide_eq_true p;refine xp rfl (bY rfl kx.row) ?_;refine xo rfl (aE rfl hcs) ?_;rintro _ g3 ⟨rfl,e4⟩;refine af ?_;refine dG 24 (fun q=>?_) (fun q=>?_)
          · refine af ?_;exact zV () e4 ⟨au rfl (by have q:cA bz x=false:=by { simpa using q };rw[q];rfl),sb rfl⟩
          · have q:cA bz x=true:=by simpa using q
            refine af ?_;refine xp rfl (aA rfl ((kg2.ah e4).cell (i:=0) rfl)) ?_;refine af ?_;refine RW.cV (d:=28) (b':=false) rfl ((by rw[p];rfl)) ?_;refine af ?_;exact zV () e4 ⟨au rfl (by rw[q,decide_eq_true p];rfl),sb rfl⟩
        · have p:=of_decide_eq_false p;refine af ?_;refine RW.cV (d:=24) (b':=false) rfl (rfl) ?_;refine xp rfl (aA rfl (kg2.cell (i:=0) rfl)) ?_;refine af ?_;refine RW.cV (d:=28) (b':=true) rfl ((by simpa using p)) ?_;refine xp rfl (bY rfl kx.row) ?_;refine xo rfl (aE rfl hcv) ?_;rintro _ g3 ⟨rfl,e4⟩;refine af ?_;exact zV () e4 ⟨au rfl (by rw[decide_eq_false p,Bool.false_or]),sb rfl⟩
      · rintro u g3 e4;have kg3:=kg2.ah e4;have kx3:=kx.ah e4;refine iM (fun hb=>?_) (fun hb=>?_)
        · have hb:(cA bz x && (decide (k=10) ||alone x))=false:=by rw[Bool.not_eq_true'] at hb;exact hb
          refine af ?_;refine bp ?_;refine⟨_,rfl,?_,(e0g.trans eg2).trans e4⟩;rw[<-hq,<-Bool.and_assoc,hb];rfl
        · have hb:(cA bz x && (decide (k=10) ||alone x))=true:=by rw[Bool.not_eq_false'] at hb;exact hb
          rw[<-Bool.and_assoc,hb,Bool.true_and] at hq
          iterate 2 refine aX ?_
          refine fL [(54,.bool (decide (k=6/\0<i/\xk≠10/\(i=1\/xk≠6))))] rfl ?_ ?_
          · refine af ?_;refine xp rfl (aA rfl (kg3.cell (i:=0) rfl)) ?_;refine af ?_;refine dG 37 (fun p=>?_) (fun p=>?_)
            · have p:=of_decide_eq_true p;refine af ?_;refine dG 41 (fun q=>?_) (fun q=>?_)
              · have q:=of_decide_eq_true q;refine af ?_;refine xp rfl (aA rfl (kx3.cell (i:=0) rfl)) ?_;refine af ?_;refine dG 46 (fun r=>?_) (fun r=>?_)
                · have r:¬xk=10:=by simpa using r
                  refine af ?_;refine dG 49 (fun s=>?_) (fun s=>?_)
                  · have s:=of_decide_eq_true s;refine af ?_;exact aF rfl ⟨au rfl (by rw[decide_eq_true (by omega)]),sb rfl⟩
                  · have s:=of_decide_eq_false s;refine af ?_;refine xp rfl (aA rfl (kx3.cell (i:=0) rfl)) ?_;refine af ?_;exact aF rfl ⟨au rfl (by rw[decide_eq_decide];omega),sb rfl⟩
                · have r:xk=10:=by simpa using r
                  refine af ?_;exact aF rfl ⟨au rfl (by rw[decide_eq_false (by omega)]),sb rfl⟩
              · have q:=of_decide_eq_false q;refine af ?_;exact aF rfl ⟨au rfl (by rw[decide_eq_false (by omega)]),sb rfl⟩
            · have p:=of_decide_eq_false p;refine af ?_;exact aF rfl ⟨au rfl (by rw[decide_eq_false (by omega)]),sb rfl⟩
          · rw[hxk,<-Ju];refine iM (fun hb2=>?_) (fun hb2=>?_)
            · have hb2:Jv k i x=false:=by simpa using hb2
              refine af ?_;refine bp ?_;exact⟨_,rfl,by rw[<-hq,hb2];rfl,(e0g.trans eg2).trans e4⟩
            · have hb2:Jv k i x=true:=by simpa using hb2
              rw[hb2,Bool.true_and] at hq;refine af ?_;exact ihL (i+1) ⟨hil,(eg.trans eg2).trans e4,hq⟩
    · obtain rfl:i=l.length:=by omega
      rw[List.drop_length] at hq;refine af ?_;refine bp ?_;exact⟨_,rfl,by rw[<-hq];rfl,e0g⟩
theorem nA (hw:x.wt<=1000000) (hg:Hy h) (hv:eF h O v x):aq Tryz.prog 41 #[v] h (bw fun r h'=>r= .bool (cA bz x)/\aj h h'):=by
 obtain⟨k,t,a,n,c,rfl,hR⟩:=id hv.get;refine bL ?_;refine af ?_;refine xo rfl (jj) ?_;rintro _ h1 ⟨rfl,k1,e1,z1⟩;have hcall:=DP _ x (Nat.le_refl _) hw h1 O _ (hg.ah e1) (hv.mv (Mv.ah e1));refine af ?_;refine xp rfl (bY rfl k1.row) ?_;refine xo rfl (aE rfl hcall) ?_;rintro _ h2 ⟨rfl,e2⟩;refine af ?_;refine bp ?_;exact⟨_,rfl,rfl,e1.trans e2⟩
theorem wk {a:Option Addr}{n c:Nat}(hws:Sl eN h O a n c l) (hi:i<n) :
 ∃b o x xk xt xa xn xc,a=some ⟨b,o,none⟩/\l[i]? =some x/\Lw.rowAt h b (o+i*3) (Aa xk xt xa xn xc)/\eF h O (.agg #[.int .i64 xk,.string (bs xt),.slice xa xn xc]) x/\xk=x.kind/\¬O b:=by
 obtain⟨b,o,x,cs,ha,hob,hx,hrow,hR⟩:=Sl.nd hws hi;cases x with
 |mk k t m =>
  obtain⟨v,rfl,hs⟩:=kO hR;obtain⟨xa,xn,xc,rfl,_⟩:=id hs.open;exact⟨b,o,_,k,t,xa,xn,xc,ha,hx,hrow,eF.of hR,rfl,hob⟩
theorem yI {word:By->Bool}{k:Int}:∀{l:List Tr}{i:Nat}{x:Tr},ie word k i l=true->x∈l->cA word x=true
 | [],_,_,_,h=>by cases h
 |y::l,i,x,q,h=>by
  rw[sY,Bool.and_eq_true,Bool.and_eq_true] at q
  rcases List.mem_cons.1 h with rfl|h
  · exact q.1.1
  · exact yI q.2 h
theorem rW:∀(l:List Tr) (i:Nat),gM false i l=l.map (bq false)
 | [],_=>by rw[gM];rfl
 |x::l,i=>by rw[gM,rW l,Bool.false_and];rfl
theorem u5 (b:Bool) (k:Int) (t:By) (l:List Tr):bq b (.mk k t l)=if k=6/\b=true then tW (gM (decide (k=6)) 0 l) else u6 k t (gM (decide (k=6)) 0 l):=by rw[bq]
theorem ir (h:k≠6) (b:Bool) (t:By) (l:List Tr):bq b (.mk k t l)=u6 k t (l.map (bq false)):=by
 rw[u5,if_neg (fun q=>h q.1),decide_eq_false h,rW]
theorem DX (h:x.kind≠6) (b:Bool):bq b x=bq false x:=by
 cases x with
 |mk k t l=>have h:k≠6:=h;rw[ir h,ir h]
theorem KF (t:By) (a b c:Tr):bq false (.mk 6 t [a,b,c])=[40]++tW [bq false a,bq false b,bq true c]++[41]:=by
 rw[u5,if_neg (fun q=>by cases q.2)];simp[gM,u6]
theorem B4 (t:By) (a b c:Tr):bq true (.mk 6 t [a,b,c])=tW [bq false a,bq false b,bq true c]:=by
 rw[u5,if_pos ⟨rfl,rfl⟩];simp[gM]
def xK (x:Tr):Prop:=∀(h:ai) (O:Nat->Prop) (v:Value),Hy h->eF h O v x->aq Tryz.prog 63 #[v] h (bw fun r h'=>r= .string (bs (bq false x))/\aj h h')
def zU (x:Tr):Prop:=∀(h:ai) (O:Nat->Prop) (v:Value),Hy h->eF h O v x->aq Tryz.prog 112 #[v] h (bw fun r h'=>r= .string (bs (bq true x))/\aj h h')
theorem Ho {y z:Tr}(hw:(Tr.mk 6 t [x,y,z]).wt<=1000000) (hx:xK x) (hy:xK y) (hz:xK z) (hz2:z.kind=6->zU z):zU (.mk 6 t [x,y,z]):=by
 intro h O v hg hv;have w1:=rS (k:=6) (t:=t) (l:=[x,y,z]) (x:=x) (by simp);have w2:=rS (k:=6) (t:=t) (l:=[x,y,z]) (x:=y) (by simp);have w3:=rS (k:=6) (t:=t) (l:=[x,y,z]) (x:=z) (by simp);have p1:=iN x false;have p2:=iN y false;have p3:=iN z false;have p4:=iN z true;have q1:=aG (bq false x);have q2:=aG (bq false y);have q3:=aG (bq false z);have q4:=aG (bq true z);obtain⟨w,rfl,hw0⟩:=id hv.open;obtain⟨a,n,c,rfl,hws⟩:=id hw0.open;have hn:3=n:=hws.len;subst hn;rw[B4];refine bL ?_;refine af ?_;refine xo rfl (jj) ?_;rintro _ h1 ⟨rfl,k1,e1,z1⟩;have k1:aD h1 h.size 39 (Aa 6 t a 3 c):=k1;have hws1:=hws.mv (Mv.ah e1);obtain⟨b0,o0,x0,k0,t0,a0,n0,c0,ha0,hx0,hr0,hv0,_,_⟩:=wk hws1 (show 0<3 by decide);obtain⟨b0',o1,x1,kk1,t1,a1,n1,c1,ha1,hx1,hr1,hv1,_,_⟩:=wk hws1 (show 1<3 by decide);obtain rfl:x0=x:=by cases hx0;rfl
 obtain rfl:x1=y:=by cases hx1;rfl
 have hc0:=hx h1 O _ (hg.ah e1) hv0;refine af ?_;refine me 15 (fun _=>False) (fun i=>Nat.blt i 15) ?_;refine aI 0 ?_;refine bI 1 rfl (fun h' e=>aA rfl (e.cell (fun k=>k) (k1.cell (i:=2) rfl))) ?_;refine bI 2 rfl (fun h' e=>cz rfl rfl 0 rfl ha0 (by decide)) ?_;refine bI 3 rfl (fun h' e=>bY rfl (e.rowAt (fun k=>k) hr0)) ?_;refine aI 7 ?_;refine bI 8 rfl (fun h' e=>aA rfl (e.cell (fun k=>k) (k1.cell (i:=2) rfl))) ?_;refine bI 9 rfl (fun h' e=>cz rfl rfl 1 rfl ha1 (by decide)) ?_;refine bI 10 rfl (fun h' e=>bY rfl (e.rowAt (fun k=>k) hr1)) ?_;refine dH 4 rfl (aE rfl hc0) ?_;rintro _ h2 ⟨rfl,e2⟩;refine⟨fun _=>e2,?_⟩;have l3:(⟨#[105,102,32]⟩:ByteArray).size=3:=rfl;have l1:(⟨#[32]⟩:ByteArray).size=1:=rfl;have l6:(⟨#[32,101,108,115,101,32]⟩:ByteArray).size=6:=rfl;have hc1:=hy h2 O _ ((hg.ah e1).ah e2) (hv1.mv (Mv.ah e2));refine bI 5 rfl (fun h' e=>ay.aH rfl rfl (by simp only[ByteArray.size_append,l3,l1,l6,q1,q2,q3,q4];omega)) ?_;refine bI 6 rfl (fun h' e=>ay.aH rfl rfl (by simp only[ByteArray.size_append,l3,l1,l6,q1,q2,q3,q4];omega)) ?_;refine dH 11 rfl (aE rfl hc1) ?_;rintro _ h3 ⟨rfl,e3⟩;refine⟨fun _=>e3,?_⟩;refine bI 12 rfl (fun h' e=>ay.aH rfl rfl (by simp only[ByteArray.size_append,l3,l1,l6,q1,q2,q3,q4];omega)) ?_;refine bI 13 rfl (fun h' e=>ay.aH rfl rfl (by simp only[ByteArray.size_append,l3,l1,l6,q1,q2,q3,q4];omega)) ?_;have e23:=e2.trans e3;have e03:=e1.trans e23;have k3:=k1.ah e23;have hws3:=hws1.mv (Mv.ah e23);obtain⟨b2',o2,x2,kk2,t2,a2,n2,c2,ha2,hx2,hr2,hv2,hk2,_⟩:=wk hws3 (show 2<3 by decide);obtain rfl:x2=z:=by cases hx2;rfl
 have hg3:=hg.ah e03;refine aI 14 ?_;refine iT ?_;refine af ?_;refine xp rfl (aA rfl (k3.cell (i:=2) rfl)) ?_;refine xp rfl (cz rfl rfl 2 rfl ha2 (by decide)) ?_;refine af ?_;refine xp rfl (aA rfl (hr2 0 _ rfl)) ?_;refine af ?_;refine aR (fun c6=>?_) (fun c6=>?_)
 · have hch:=hz2 (by rw[<-hk2];exact c6) h3 O _ hg3 hv2;refine af ?_;refine xp rfl (aA rfl (k3.cell (i:=2) rfl)) ?_;refine xp rfl (cz rfl rfl 2 rfl ha2 (by decide)) ?_;refine xp rfl (bY rfl hr2) ?_;refine xo rfl (aE rfl hch) ?_;rintro _ h4 ⟨rfl,e4⟩;refine xp rfl (ay.aH rfl rfl (by simp only[ByteArray.size_append,l3,l1,l6,q1,q2,q3,q4];omega)) ?_;refine af ?_;refine bp ?_;refine⟨_,rfl,?_,e03.trans e4⟩
   show Value.string (((((bs [105,102,32]++bs (bq false x0))++bs [32])++bs (bq false x1))++bs [32,101,108,115,101,32])++bs (bq true x2))=_
   simp only[br];rfl
 · have hch:=hz h3 O _ hg3 hv2;refine af ?_;refine xp rfl (aA rfl (k3.cell (i:=2) rfl)) ?_;refine xp rfl (cz rfl rfl 2 rfl ha2 (by decide)) ?_;refine xp rfl (bY rfl hr2) ?_;refine xo rfl (aE rfl hch) ?_;rintro _ h4 ⟨rfl,e4⟩;refine xp rfl (ay.aH rfl rfl (by simp only[ByteArray.size_append,l3,l1,l6,q1,q2,q3,q4];omega)) ?_;refine af ?_;refine bp ?_;refine⟨_,rfl,?_,e03.trans e4⟩;rw[DX (show x2.kind≠6 from fun q=>c6 (by rw[hk2];exact q)) true]
   show Value.string (((((bs [105,102,32]++bs (bq false x0))++bs [32])++bs (bq false x1))++bs [32,101,108,115,101,32])++bs (bq false x2))=_
   simp only[br];rfl
structure qE (hb:ai) (rb B:Nat) (O:Nat->Prop) (h:ai) (m:Nat) (ev:Value) (env:List Bd):Prop where
 ext:aj hb h
 blk:aD h rb 103 [.int .i64 (2000-(m:Int))]
 lt:∀b,O b->b<h.size
 own:O rb
 en:aT eB h O ev env
 ok:vE (B-2*m) env
 mB:2*m<=B
 mL:m<=2000
 hB:B<=100000000
 hrb:hb.size<=rb
def Mm (rb:Nat) (O:Nat->Prop) (h:ai) (o:Out) (r:Value) (h':ai):Prop:=∃v,r=packed [v,.int .i64 o.2.1]/\cW h' O v o.1/\aD h' rb 103 [.int .i64 (2000-(o.2.2:Int))]/\Ext (fun b=>b=rb) h h'
def NF (hb:ai) (rb B d:Nat):Prop:=∀{O:Nat->Prop}{h:ai}{m:Nat}{ev nv:Value}{env:List Bd}{n:Tr},qE hb rb B O h m ev env->m<=d->eF h O nv n->Cl bz n->n.wt<=1000000 ->
 aq Tryz.prog 42 #[.pointer (some ⟨rb,0,none⟩),ev,nv] h (bw fun r h'=>Mm rb O h (aU d m env n) r h')
def kD (h:ai) (O O':Nat->Prop):Prop:=(∀b,O b->O' b)/\∀b,O' b->O b\/h.size<=b
theorem kD.mv (k:kD h O O') (ho:O rb) (e:Ext (fun b=>b=rb) h h'):Mv O O' h h' :=
 Mv.cx e fun b hb hn=>⟨fun q=>hn (q▸ho),fun q=>(k.2 b q).elim hn (fun q=>by omega)⟩
theorem kD.tA (k:kD h O O') (e:aj h h'):Mv O O' h h' :=
 ⟨e.size,fun b hb hn=>⟨e.block b hb (fun k=>k),fun q=>(k.2 b q).elim hn (fun q=>by omega)⟩⟩
theorem qE.next {m':Nat}{env:List Bd}(I:qE hb rb B O h m ev env) (k:kD h O O') (hm:m'<=m) (e:Ext (fun b=>b=rb) h h') (b:aD h' rb 103 [.int .i64 (2000-(m':Int))])
 (hl:∀b,O' b->b<h'.size):qE hb rb B O' h' m' ev env :=
 ⟨⟨by have:=I.ext.size;have:=e.size;omega,fun b hb _=>(e.block b (by have:=I.ext.size;omega) (by have:=I.hrb;omega)).trans (I.ext.block b hb (fun k=>k))⟩,b,hl,k.1 _ I.own,I.en.mv (k.mv I.own e),iO I.ok hm,by have:=I.mB;omega,by have:=I.mL;omega,I.hB,I.hrb⟩
theorem qE.yZ {env:List Bd}(I:qE hb rb B O h m ev env) (k:kD h O O') (e:aj h h') (hl:∀b,O' b->b<h'.size):qE hb rb B O' h' m ev env :=
 I.next k (Nat.le_refl _) (e.mono fun _ _ q=>q.elim) (I.blk.ah e) hl
theorem qE.Dt {env:List Bd}(I:qE hb rb B O h m ev env):rb<h.size:=I.blk.lt
abbrev upTo (O:Nat->Prop) (h h':ai):Nat->Prop:=fun b=>O b\/(h.size<=b/\b<h'.size)
theorem cL (O:Nat->Prop) (h h':ai):kD h O (upTo O h h'):=⟨fun _ q=>.inl q,fun _ q=>q.imp id And.left⟩
theorem jm (hl:∀b,O b->b<h.size) (hz:h.size<=h'.size):∀b,upTo O h h' b->b<h'.size:=fun b q=>by
 rcases q with q|q
 · have:=hl b q;omega
 · exact q.2
theorem nQ (q:eF h O v (.mk k t l)):∃a n c,v= .agg #[.int .i64 k,.string (bs t),.slice a n c]/\eN.R h O [.int .i64 k,.string (bs t),.slice a n c] (.mk k t l)/\Sl eN h O a n c l:=by
 obtain⟨cs,rfl,hR⟩:=q;obtain⟨w,rfl,hs⟩:=kO hR;obtain⟨a,n,c,rfl,hk⟩:=hs.open;exact⟨a,n,c,rfl,hR,hk⟩
theorem getD_at (h:l[i]? =some x):l.getD i bJ=x:=by rw[List.getD_eq_getElem?_getD,h];rfl
theorem xd (h:Cl bz (.mk k t l)) (hk:k≠0):(dF k).1<=l.length/\l.length<=(dF k).2:=by
 rcases h with h|h
 · rw[V,cA,Bool.and_eq_true] at h;have h1:=h.1;unfold jJ at h1;simp only[Bool.and_eq_true,decide_eq_true_eq] at h1;exact⟨h1.1,h1.2.1⟩
 · cases h;exact absurd rfl hk
theorem cR {O3:Nat->Prop}{g g':ai}{b6:Nat}(hO:∀b,O b->O3 b) (h6:O3 b6) (x:Ext (fun b=>b=b6) g g'):Mv O3 O g g':=Mv.cx x fun b _ hn=>⟨fun q=>hn (q▸h6),fun q=>hn (hO b q)⟩
theorem iW {a:Option Addr}{n c:Nat}(hws:Sl eN h O a n c l) (hi:i<n) :
 ∃b o xk xt xa xn xc,a=some ⟨b,o,none⟩/\(¬O b/\b<h.size)/\Lw.rowAt h b (o+i*3) (Aa xk xt xa xn xc)/\eF h O (.agg #[.int .i64 xk,.string (bs xt),.slice xa xn xc]) (l.getD i bJ):=by
 obtain⟨b,o,x,xk,xt,xa,xn,xc,ha,hx,hr,hR,_,hO⟩:=wk hws hi;exact⟨b,o,xk,xt,xa,xn,xc,ha,⟨hO,dL hr (by simp)⟩,hr,by rw[getD_at hx];exact hR⟩
theorem GS {d:Nat}(ih:NF hb rb B d){nv:Value}{env:List Bd}(I:qE hb rb B O h m ev env) (hm:m<=d) (hn:eF h O nv (.mk 7 t l)) (hc:Cl bz (.mk 7 t l)) (hw:(Tr.mk 7 t l).wt<=1000000) :
 aq Tryz.prog 81 #[.pointer (some ⟨rb,0,none⟩),ev,nv] h (bw fun r h'=>Mm rb O h (GU (aU d) m env t l) r h'):=by
 obtain⟨na,nn,nc,rfl,hR,hks⟩:=nQ hn;have hkn:=hks.len;subst hkn;obtain⟨hl1,hl2⟩:=xd hc (by decide);have hl1:1<=l.length:=hl1;have hl2:l.length<=2:=hl2;obtain⟨b0,o0,k0,t0,a0,n0,c0,ha0,hb0,hr0,hk0⟩:=iW hks (i:=0) (by omega);have hrl:=I.Dt;refine bL ?_;refine af ?_;refine xo rfl (jj) ?_;rintro _ h1 ⟨rfl,k5,e1,z1⟩;refine xo rfl (cO) ?_;rintro _ h2 ⟨rfl,k6,e2,z2⟩;have e12:=e1.trans e2;have k5:aD h2 h.size 39 [.int .i64 7,.string (bs t),.slice na l.length nc]:=k5.ah e2;have m2:=cL O h h2;have I2:=I.yZ m2 e12 (jm I.lt e12.size);have o1:=iI B d m env (l.getD 0 bJ) I.mB I.ok (cS hw 0);have hih:=ih I2 hm (hk0.mv (m2.tA e12)) (hc.rR 0) (cS hw 0);unfold GU;generalize aU d m env (l.getD 0 bJ)=o at hih o1 ⊢;obtain⟨v,e,m'⟩:=o;obtain⟨hm',hvk,hlt⟩:=o1;dsimp only at hm' hvk hlt ⊢;refine af ?_;refine xp rfl (aA rfl (k5.cell (i:=2) rfl)) ?_;refine xp rfl (cz rfl rfl 0 rfl ha0) ?_;refine xp rfl (bY rfl (e12.rowAt (fun k=>k) hr0)) ?_;refine xo rfl (aE rfl hih) ?_;rintro _ h3 ⟨v3,rfl,hv3,b3,e3⟩;dsimp only at hv3 b3;obtain⟨nk,nt,xa,xn,xc,ea,en,ec,rfl,_,hR3,_⟩:=cW.get hv3;refine af ?_;refine xo rfl (cO) ?_;rintro _ h4 ⟨rfl,k8,e4,z4⟩;refine aM rfl (aY rfl rfl k8 gI) ?_;rintro _ h5 ⟨rfl,k85,x5,z5⟩;have k85:aD h5 h3.size 42 (lG v.kind v.num v.fE v.self nk nt xa xn xc ea en ec):=k85;have e35:aj h3 h5:=aj.only e4 x5 (Nat.le_refl _);have E25:Ext (fun b=>b=rb) h2 h5:=e3.trans (e35.mono fun _ _ q=>q.elim);have E05:Ext (fun b=>b=rb) h h5:=(e12.mono fun _ _ q=>q.elim).trans E25;have zz:=And.intro e3.size (And.intro e35.size e12.size);have m23:=cL (upTo O h h2) h3 h5;obtain⟨O3,hO3⟩:∃O3,O3=upTo (upTo O h h2) h3 h5:=⟨_,rfl⟩
 have l3:∀b,O3 b->b<h5.size:=fun b q=>by
  rw[hO3] at q
  rcases q with (q|q)|q
  · have:=I.lt b q;omega
  · omega
  · omega
 have m3:kD h O O3:=by
  rw[hO3]
  exact⟨fun b q=>.inl (.inl q),fun b q=>by
   rcases q with (q|q)|q
   · exact .inl q
   · exact .inr q.1
   · exact .inr (by omega)⟩
 have b5:=b3.ah e35;have hR5:=eV.mv hR3 (m23.tA e35);rw[<-hO3] at hR5;have o6:O3 h1.size:=by rw[hO3];exact .inl (.inr (by omega))
 have k55:=k5.ext E25 (by omega);have k65:=k6.ext E25 (by omega);refine aW ?_;refine cX ?_
 iterate 2 refine aX ?_
 refine fL [(27,.bool (decide (e≠0\/l.length=1)))] rfl ?_ ?_
 · refine af ?_;refine dG 22 (fun p=>?_) (fun p=>?_)
   · have p:=of_decide_eq_true p;refine af ?_;exact aF rfl ⟨au rfl (by rw[decide_eq_true (.inl p)]),sb rfl⟩
   · have p:=of_decide_eq_false p;refine af ?_;refine xp rfl (aA rfl (k55.cell (i:=2) rfl)) ?_;refine af ?_;exact aF rfl ⟨au rfl (by rw[decide_eq_decide];exact⟨fun q=>.inr (by omega),fun q=>by have:=q.resolve_left p;omega⟩),sb rfl⟩
 · refine iM (fun hx=>?_) (fun hx=>?_)
   · have hx:=of_decide_eq_true hx;refine af ?_;refine xp rfl (bY rfl k85.row) ?_;refine af ?_;refine aM rfl (aY rfl rfl k65 gI) ?_;rintro _ h6 ⟨rfl,k66,x6,z6⟩;refine af ?_;refine ct (cj rfl k66.row (eo cq)) ?_;rw[if_pos hx];exact⟨_,rfl,_,rfl,cW.of (eV.mv hR5 (cR m3.1 o6 x6)),b5.ext x6 (by omega),E05.bH x6 (fun b hb q=>by omega)⟩
   · have hx:=of_decide_eq_false hx;rw[if_neg hx];have he0:e=0:=Classical.byContradiction fun q=>hx (.inl q)
     obtain⟨b1,o1',k1,t1,a1,n1,c1,ha1,hb1,hr1,hk1⟩:=iW hks (i:=1) (by omega);have hb1r:b1≠rb:=fun q=>hb1.1 (q▸I.own)
     have hMk:¬(h.size=rb\/h5.size<=h.size):=by omega
     have hM8:¬(h3.size=rb\/h5.size<=h3.size):=by have:=I2.Dt;omega
     have hM1:¬(b1=rb\/h5.size<=b1):=by omega
     have hr1':=E05.rowAt hb1r hr1;refine af ?_;refine me 18 (fun b=>b=rb\/h5.size<=b) (fun i=>Nat.blt i 16) ?_;refine aI 0 ?_;refine aI 1 ?_;refine aI 2 ?_;refine bI 3 rfl (fun h' e=>aA rfl (e.cell hMk (k55.cell (i:=1) rfl))) ?_;refine bI 4 rfl (fun h' e=>bY rfl (e.rowAt hM8 k85.row)) ?_;refine aI 5 ?_;refine bI 6 rfl (fun h' e=>aA rfl (e.cell hMk (k55.cell (i:=1) rfl))) ?_;refine aI 9 ?_;refine bI 10 rfl (fun h' e=>aA rfl (e.cell hMk (k55.cell (i:=2) rfl))) ?_;refine bI 11 rfl (fun h' e=>cz rfl rfl 1 rfl ha1) ?_;refine bI 12 rfl (fun h' e=>bY rfl (e.rowAt hM1 hr1')) ?_;refine dH 7 rfl (aE rfl (yX (cW.of hR5) t)) ?_;rintro r6 h6 ⟨hv6,e6⟩;refine⟨fun _=>e6.of,?_⟩;have hen6:aT eB h6 O3 ev env:=I.en.mv (m3.mv I.own (E05.trans (e6.mono fun _ _ q=>q.elim)));have hel:env.length<=100000000:=by have:=I.ok.1;have:=I.hB;omega
     refine dH 8 rfl (aE rfl (jD hen6 hel t hv6)) ?_;rintro r7 h7 ⟨ho7,e7⟩;refine⟨fun _=>e7.of,?_⟩;have e57:=e6.trans e7;have E07:=E05.trans (e57.mono fun _ _ q=>q.elim);have zy:=And.intro e6.size e7.size
     have I7:qE hb rb B O3 h7 m' r7 (env++[(t,jQ v t)]):=⟨⟨by have:=I.ext.size;omega,fun b hb _=>(E07.block b (by have:=I.ext.size;omega) (by have:=I.hrb;omega)).trans (I.ext.block b hb (fun k=>k))⟩,b5.ah e57,fun b q=>by have:=l3 b q;omega,m3.1 _ I.own,
      ho7.read (fun b hb q=>by have:=l3 b q;omega) (fun _ _ q=>q),lQ I.ok (hlt he0) I.mB (mM hvk t) t,by have:=I.mB;omega,by have:=I.mL;omega,I.hB,I.hrb⟩
     refine dH 13 rfl (aE rfl ((ih I7 (by omega) (hk1.mv (m3.mv I.own E07)) (hc.rR 1) (cS hw 1)))) ?_;rintro _ h8 ⟨v8,rfl,hv8,b8,e8⟩;refine⟨fun _=>e8.mono (fun b _ q=>.inl q),?_⟩;obtain⟨nk',nt',xa',xn',xc',ea',en',ec',rfl,_,hR8,_⟩:=cW.get hv8;have E58:=(e57.mono fun _ _ q=>q.elim).trans e8;refine aI 14 ?_;refine aI 15 ?_;refine kX 16 rfl (aY rfl rfl ((k65.ext E58 (by omega))) gI) ?_;rintro _ h9 ⟨rfl,k9,x9,z9⟩;refine⟨nofun,?_⟩;refine aI 17 ?_;refine iT ?_;refine ct (cj rfl k9.row (eo cq)) ?_;exact⟨_,rfl,_,rfl,cW.of (eV.mv hR8 (cR m3.1 o6 x9)),b8.ext x9 (by omega),(E07.trans e8).bH x9 (fun b hb q=>by omega)⟩
theorem Be {d:Nat}(ih:NF hb rb B d){nv:Value}{env:List Bd}(I:qE hb rb B O h m ev env) (hm:m<=d) (hn:eF h O nv (.mk 6 t l)) (hc:Cl bz (.mk 6 t l)) (hw:(Tr.mk 6 t l).wt<=1000000) :
 aq Tryz.prog 82 #[.pointer (some ⟨rb,0,none⟩),ev,nv] h (bw fun r h'=>Mm rb O h (NK (aU d) m env l) r h'):=by
 obtain⟨na,nn,nc,rfl,hR,hks⟩:=nQ hn;have hkn:=hks.len;subst hkn;obtain⟨hl1,hl2⟩:=xd hc (by decide);have hl1:3<=l.length:=hl1;obtain⟨b0,o0,k0,t0,a0,n0,c0,ha0,hb0,hr0,hk0⟩:=iW hks (i:=0) (by omega);have hrl:=I.Dt;refine bL ?_;refine af ?_;refine xo rfl (jj) ?_;rintro _ h1 ⟨rfl,k5,e1,z1⟩;refine xo rfl (cO) ?_;rintro _ h2 ⟨rfl,k6,e2,z2⟩;have e12:=e1.trans e2;have k5:aD h2 h.size 39 [.int .i64 6,.string (bs t),.slice na l.length nc]:=k5.ah e2;have m2:=cL O h h2;have I2:=I.yZ m2 e12 (jm I.lt e12.size);have o1:=iI B d m env (l.getD 0 bJ) I.mB I.ok (cS hw 0);have hih:=ih I2 hm (hk0.mv (m2.tA e12)) (hc.rR 0) (cS hw 0);unfold NK;generalize aU d m env (l.getD 0 bJ)=o at hih o1 ⊢;obtain⟨v,e,m'⟩:=o;obtain⟨hm',hvk,hlt⟩:=o1;dsimp only at hm' hvk hlt ⊢;refine af ?_;refine xp rfl (aA rfl (k5.cell (i:=2) rfl)) ?_;refine xp rfl (cz rfl rfl 0 rfl ha0) ?_;refine xp rfl (bY rfl (e12.rowAt (fun k=>k) hr0)) ?_;refine xo rfl (aE rfl hih) ?_;rintro _ h3 ⟨v3,rfl,hv3,b3,e3⟩;dsimp only at hv3 b3;obtain⟨nk,nt,xa,xn,xc,ea,en,ec,rfl,hbd3,hR3,hen3⟩:=cW.get hv3;refine af ?_;refine xo rfl (cO) ?_;rintro _ h4 ⟨rfl,k8,e4,z4⟩;refine aM rfl (aY rfl rfl k8 gI) ?_;rintro _ h5 ⟨rfl,k85,x5,z5⟩;have k85:aD h5 h3.size 42 (lG v.kind v.num v.fE v.self nk nt xa xn xc ea en ec):=k85;have e35:aj h3 h5:=aj.only e4 x5 (Nat.le_refl _);have E25:Ext (fun b=>b=rb) h2 h5:=e3.trans (e35.mono fun _ _ q=>q.elim);have E05:Ext (fun b=>b=rb) h h5:=(e12.mono fun _ _ q=>q.elim).trans E25;have zz:=And.intro e3.size (And.intro e35.size e12.size);have m23:=cL (upTo O h h2) h3 h5;obtain⟨O3,hO3⟩:∃O3,O3=upTo (upTo O h h2) h3 h5:=⟨_,rfl⟩
 have l3:∀b,O3 b->b<h5.size:=fun b q=>by
  rw[hO3] at q
  rcases q with (q|q)|q
  · have:=I.lt b q;omega
  · omega
  · omega
 have m3:kD h O O3:=by
  rw[hO3]
  exact⟨fun b q=>.inl (.inl q),fun b q=>by
   rcases q with (q|q)|q
   · exact .inl q
   · exact .inr q.1
   · exact .inr (by omega)⟩
 have b5:=b3.ah e35;have hR5:=eV.mv hR3 (m23.tA e35);rw[<-hO3] at hR5;have hbd5:=eN.mv hbd3 (m23.tA e35);rw[<-hO3] at hbd5;have hen5:=hen3.mv (m23.tA e35);rw[<-hO3] at hen5;have o6:O3 h1.size:=by rw[hO3];exact .inl (.inr (by omega))
 have k55:=k5.ext E25 (by omega);have k65:=k6.ext E25 (by omega);have I5:qE hb rb B O3 h5 m' ev env:=I.next m3 hm' E05 b5 l3
 refine af ?_;refine aR (fun he=>?_) (fun he=>?_)
 · rw[if_pos he];refine af ?_;refine xp rfl (av (H.dO ) rfl) ?_;refine af ?_;refine aM rfl (aY rfl rfl k65) ?_;rintro _ h6 ⟨rfl,k66,x6,z6⟩;refine af ?_;refine ct (cj rfl k66.row (eo cq)) ?_;exact⟨_,rfl,_,rfl,gN _ _,b5.ext x6 (by omega),E05.bH x6 (fun b hb q=>by omega)⟩
 · rw[if_neg he];refine af ?_;refine xp rfl (aA rfl (k85.cell (i:=0) rfl)) ?_;refine af ?_;refine aR (fun hk=>?_) (fun hk=>?_)
   · rw[if_pos hk];refine af ?_;refine xp rfl (av (H.dO ) rfl) ?_;refine aM rfl (aY rfl rfl k65) ?_;rintro _ h6 ⟨rfl,k66,x6,z6⟩;refine af ?_;refine ct (cj rfl k66.row (eo cq)) ?_;exact⟨_,rfl,_,rfl,gN _ _,b5.ext x6 (by omega),E05.bH x6 (fun b hb q=>by omega)⟩
   · rw[if_neg hk];refine af ?_;refine xp rfl (aA rfl (k85.cell (i:=1) rfl)) ?_;refine af ?_;refine aR (fun hz=>?_) (fun hz=>?_)
     · rw[if_pos hz];obtain⟨b1,o1',k1,t1,a1,n1,c1,ha1,hb1,hr1,hk1⟩:=iW hks (i:=1) (by omega);have hb1r:b1≠rb:=fun q=>hb1.1 (q▸I.own)
       have hr1':=E05.rowAt hb1r hr1;have hk1':=hk1.mv (m3.mv I.own E05);refine af ?_;refine xp rfl (aA rfl (k55.cell (i:=2) rfl)) ?_;refine xp rfl (cz rfl rfl 1 rfl ha1) ?_;refine xp rfl (bY rfl hr1') ?_;refine xo rfl (aE rfl ((ih I5 (by omega) hk1' (hc.rR 1) (cS hw 1)))) ?_;rintro _ h8 ⟨v8,rfl,hv8,b8,e8⟩;obtain⟨nk',nt',xa',xn',xc',ea',en',ec',rfl,_,hR8,_⟩:=cW.get hv8;refine af ?_;refine aM rfl (aY rfl rfl ((k65.ext e8 (by omega))) gI) ?_;rintro _ h9 ⟨rfl,k9,x9,z9⟩;refine af ?_;refine ct (cj rfl k9.row (eo cq)) ?_;exact⟨_,rfl,_,rfl,cW.of (eV.mv hR8 (cR m3.1 o6 x9)),b8.ext x9 (by omega),(E05.trans e8).bH x9 (fun b hb q=>by omega)⟩
     · rw[if_neg hz];obtain⟨b1,o1',k1,t1,a1,n1,c1,ha1,hb1,hr1,hk1⟩:=iW hks (i:=2) (by omega);have hb1r:b1≠rb:=fun q=>hb1.1 (q▸I.own)
       have hr1':=E05.rowAt hb1r hr1;have hk1':=hk1.mv (m3.mv I.own E05);refine af ?_;refine xp rfl (aA rfl (k55.cell (i:=2) rfl)) ?_;refine xp rfl (cz rfl rfl 2 rfl ha1) ?_;refine xp rfl (bY rfl hr1') ?_;refine xo rfl (aE rfl ((ih I5 (by omega) hk1' (hc.rR 2) (cS hw 2)))) ?_;rintro _ h8 ⟨v8,rfl,hv8,b8,e8⟩;obtain⟨nk',nt',xa',xn',xc',ea',en',ec',rfl,_,hR8,_⟩:=cW.get hv8;refine af ?_;refine aM rfl (aY rfl rfl ((k65.ext e8 (by omega))) gI) ?_;rintro _ h9 ⟨rfl,k9,x9,z9⟩;refine af ?_;refine ct (cj rfl k9.row (eo cq)) ?_;exact⟨_,rfl,_,rfl,cW.of (eV.mv hR8 (cR m3.1 o6 x9)),b8.ext x9 (by omega),(E05.trans e8).bH x9 (fun b hb q=>by omega)⟩
end
end Go.Proofs.YtoickfdopobmgaaGreatDoor

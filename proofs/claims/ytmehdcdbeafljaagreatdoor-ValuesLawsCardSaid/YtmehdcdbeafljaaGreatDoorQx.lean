/- What the proof of the statement leans on (part 24). -/
import Derived.Lib.ParseIntB
import Derived.Lib.Bytealg
import Derived.Test.YtmehdcdbeafljaaGreatDoorQw

namespace Go.Proofs.YtmehdcdbeafljaaGreatDoor
open Go Go.Lw
section
variable {h:aA}{O:Nat->Prop}{k n:Int}{s f:By}{b:Nat}{v:Value}
inductive Vl where
 |mk (k n:Int) (s self:By) (body:Tr) (env:List (By×Vl))
def Vl.kind:Vl->Int|.mk k _ _ _ _ _=>k
def Vl.num:Vl->Int|.mk _ n _ _ _ _=>n
def Vl.iu:Vl->By|.mk _ _ s _ _ _=>s
def Vl.self:Vl->By|.mk _ _ _ f _ _=>f
def Vl.body:Vl->Tr|.mk _ _ _ _ b _=>b
def Vl.env:Vl->List (By×Vl)|.mk _ _ _ _ _ e=>e
abbrev Bd:=By×Vl
def cP:Tr:=.mk 0 [] []
def iJ:Vl:=.mk 0 0 [] [] cP []
def dP (n:Int):Vl:=.mk 1 n [] [] cP []
def dA (b:Bool):Vl:=.mk 2 (if b then 1 else 0) [] [] cP []
def IZ (s:By):Vl:=.mk 3 0 s [] cP []
def fo (t:By):List Bd->Vl×Int
 | []=>(iJ,4)
 |b::r=>if (fo t r).2=0 then fo t r else if b.1=t then (b.2,0) else (iJ,4)
def lZ (v:Vl) (name:By):Vl:=if v.kind=4/\v.self=[] then .mk v.kind v.num v.iu name v.body v.env else v
def iy (op:By) (way:Int):Vl×Int :=
 if op=[61,61] then (dA (decide (way=0)),0) else if op=[33,61] then (dA (decide (¬way=0)),0)
 else if op=[60] then (dA (decide (way<0)),0) else if op=[60,61] then (dA (decide (way<=0)),0)
 else if op=[62] then (dA (decide (0<way)),0) else if op=[62,61] then (dA (decide (0<=way)),0) else (iJ,2)
def wrap64 (n:Int):Int:=IntKind.i64.wrap n
def bI (op:By) (a b:Int):Vl×Int :=
 if op=[43] then (let c:=wrap64 (a+b);if decide (c>a)=decide (b>0) then (dP c,0) else (iJ,2))
 else if op=[45] then (let c:=wrap64 (a-b);if decide (c<a)=decide (b>0) then (dP c,0) else (iJ,2))
 else if op=[42] then (let c:=wrap64 (a*b);if a=0\/wrap64 (c.tdiv a)=b/\(a≠ -1\/b≠ -9223372036854775808) then (dP c,0) else (iJ,2))
 else if op=[47]\/op=[37] then (if b=0\/a= -9223372036854775808/\b= -1 then (iJ,2) else (dP (if op=[37] then a.tmod b else wrap64 (a.tdiv b)),0))
 else iy op (if a<b then -1 else if a=b then 0 else 1)
def GG (op:By) (v:Vl):Vl×Int :=
 if op=lQ/\v.kind=2 then (dA (decide (v.num=0)),0) else if op=[45]/\v.kind=1/\v.num≠ -9223372036854775808 then (dP (wrap64 (0-v.num)),0) else (iJ,2)
def uz (op:By) (a b:Vl):Vl×Int :=
 if a.kind≠b.kind\/a.kind=4 then (iJ,2)
 else if a.kind=1 then bI op a.num b.num
 else if a.kind=3/\op=[43] then (if 1000<a.iu.length+b.iu.length then (iJ,3) else (IZ (a.iu++b.iu),0))
 else if a.kind=3 then iy op (Lib.compareBytes a.iu b.iu)
 else if op=[61,61] then (dA (decide (a.num=b.num)),0)
 else if op=[33,61] then (dA (decide (¬a.num=b.num)),0)
 else (iJ,2)
abbrev Out:=Vl×Int×Nat
abbrev Ev:=Nat->List Bd->Tr->Out
def jT (ev:Ev):Nat->List Bd->List Tr->Vl->Out
 |m,_,[],v=>(v,0,m)
 |m,env,n::r,_=>match ev m env n with
  |(v,e,m')=>if e≠0 then (iJ,e,m') else
   if n.kind=7/\n.kids.length=1 then jT ev m' (env++[(n.text,lZ v n.text)]) r (lZ v n.text) else jT ev m' env r v
def G1 (ev:Ev) (m:Nat) (env:List Bd) (t:By) (l:List Tr):Out:=match ev m env (l.getD 0 cP) with
 |(v,e,m')=>if e≠0\/l.length=1 then (v,e,m') else ev m' (env++[(t,lZ v t)]) (l.getD 1 cP)
def L7 (ev:Ev) (m:Nat) (env:List Bd) (l:List Tr):Out:=match ev m env (l.getD 0 cP) with
 |(v,e,m')=>if e≠0 then (iJ,e,m') else if v.kind≠2 then (iJ,2,m') else if v.num≠0 then ev m' env (l.getD 1 cP) else ev m' env (l.getD 2 cP)
def CG (ev:Ev) (m:Nat) (env:List Bd) (l:List Tr):Out:=match ev m env (l.getD 0 cP) with
 |(f,e,m1)=>if e≠0 then (iJ,e,m1) else match ev m1 env (l.getD 1 cP) with
  |(x,e,m2)=>if e≠0 then (iJ,e,m2) else if f.kind≠4 then (iJ,2,m2) else if cU cN f.body=false then (iJ,10,m2) else
   ev m2 ((if f.self≠[] then f.env++[(f.self,f)] else f.env)++[(f.iu,x)]) f.body
def En (ev:Ev) (m:Nat) (env:List Bd) (t:By) (l:List Tr):Out:=match ev m env (l.getD 0 cP) with
 |(v,e,m')=>if e≠0 then (iJ,e,m') else ((GG t v).1,(GG t v).2,m')
def yZ (ev:Ev) (m:Nat) (env:List Bd) (t:By) (l:List Tr):Out:=match ev m env (l.getD 0 cP) with
 |(a,e,m1)=>if e≠0 then (iJ,e,m1) else
  if t=oJ\/t=jI then (if a.kind≠2 then (iJ,2,m1) else if decide (a.num≠0)=decide (t=oJ) then (a,0,m1) else match ev m1 env (l.getD 1 cP) with
   |(b,e,m2)=>if e=0/\b.kind≠2 then (iJ,2,m2) else (b,e,m2))
  else match ev m1 env (l.getD 1 cP) with
   |(b,e,m2)=>if e≠0 then (iJ,e,m2) else ((uz t a b).1,(uz t a b).2,m2)
def bE:Nat->Ev
 | 0,m,_,_=>(iJ,60,m)
 |d+1,m,env,.mk k t l=>match m with
  | 0=>(iJ,60,0)
  |m+1 =>
   if k=0 then (match Lib.parseIntB 64 t with|.ok v=>(dP v,0,m)|_=>(iJ,2,m))
   else if k=1 then (if 1000<t.length then (iJ,3,m) else (IZ t,0,m))
   else if k=2 then (dA (decide (t=jW)),0,m)
   else if k=3 then ((fo t env).1,(fo t env).2,m)
   else if k=8 then (.mk 4 0 t [] (l.getD 0 cP) env,0,m)
   else if k=10 then jT (bE d) m env l iJ
   else if k=7 then G1 (bE d) m env t l
   else if k=6 then L7 (bE d) m env l
   else if k=9 then CG (bE d) m env l
   else if k=4 then En (bE d) m env t l
   else yZ (bE d) m env t l
def ve:Nat->aA->(Nat->Prop)->List Value->Vl->Prop
 | 0,_,_,_,_=>False
 |d+1,h,O,cs,v=>∃nk nt nv oa n c,cs=[.int .i64 v.kind,.int .i64 v.num,.string (bs v.iu),.string (bs v.self),nk,nt,nv,.slice oa n c]/\eN.R h O [nk,nt,nv] v.body/\v.env.length=n/\n<=c/\c<=maxLen /\
  ∀i y,v.env[i]? =some y->∃b o cs',oa=some ⟨b,o,none⟩/\¬O b/\Lw.rowAt h b (o+i*9) (.string (bs y.1)::cs')/\ve d h O cs' y.2
theorem Ei:∀{d:Nat}{h:aA}{O:Nat->Prop}{cs:List Value}{x:Vl},ve d h O cs x->cs.length=8
 | 0,_,_,_,_,k=>k.elim
 |_+1,_,_,_,_,⟨_,_,_,_,_,_,hc,_⟩=>by rw[hc];rfl
theorem Eh:∀{d:Nat}{h:aA}{O:Nat->Prop}{cs:List Value}{x:Vl},ve d h O cs x->∀v∈cs,v.oneCell'=true
 | 0,_,_,_,_,k=>k.elim
 |_+1,_,_,_,_,⟨nk,nt,nv,_,_,_,hc,hn,_⟩=>by
  have h3:=eN.one hn;intro v hv;rw[hc] at hv;simp only[List.mem_cons,List.not_mem_nil,or_false] at hv
  rcases hv with rfl|rfl|rfl|rfl|rfl|rfl|rfl|rfl<;>first|rfl|exact h3 _ (by simp)
theorem B7:∀{d:Nat}{h h':aA}{O O':Nat->Prop}{cs:List Value}{x:Vl},ve d h O cs x->Mv O O' h h'->ve d h' O' cs x
 | 0,_,_,_,_,_,_,k,_=>k.elim
 |d+1,h,h',O,O',cs,x,⟨nk,nt,nv,oa,n,c,hc,hb,hl,hn,hm,hk⟩,m=>by
  refine⟨nk,nt,nv,oa,n,c,hc,eN.mv hb m,hl,hn,hm,fun i y hy=>?_⟩;obtain⟨b,o,cs',h1,h2,h3,h4⟩:=hk i y hy;exact⟨b,o,cs',h1,(m.block b (dW h3 (by simp)) h2).2,m.rowAt h2 h3,B7 h4 m⟩
theorem wP:∀{d d':Nat}{h:aA}{O:Nat->Prop}{cs:List Value}{x:Vl},ve d h O cs x->d<=d'->ve d' h O cs x
 | 0,_,_,_,_,_,k,_=>k.elim
 |d+1,0,_,_,_,_,_,hd=>by omega
 |d+1,d'+1,h,O,cs,x,⟨nk,nt,nv,oa,n,c,hc,hb,hl,hn,hm,hk⟩,hd=>by
  refine⟨nk,nt,nv,oa,n,c,hc,hb,hl,hn,hm,fun i y hy=>?_⟩;obtain⟨b,o,cs',h1,h2,h3,h4⟩:=hk i y hy;exact⟨b,o,cs',h1,h2,h3,wP h4 (by omega)⟩
def eV:gM Vl where
 sz:=8
 pos:=by decide
 R:=fun h O cs x=>∃d,ve d h O cs x
 len:=fun⟨_,k⟩=>Ei k
 one:=fun⟨_,k⟩=>Eh k
 mv:=fun⟨d,k⟩ m=>⟨d,B7 k m⟩
def eB:gM Bd where
 sz:=9
 pos:=by decide
 R:=fun h O cs y=>∃cs',cs= .string (bs y.1)::cs'/\eV.R h O cs' y.2
 len:=fun⟨_,h,k⟩=>by rw[h,List.length_cons,eV.len k];rfl
 one:=fun⟨_,h,k⟩ v hv=>by
  rw[h] at hv
  rcases List.mem_cons.1 hv with rfl|hv
  · rfl
  · exact eV.one k v hv
 mv:=fun⟨c,h,k⟩ m=>⟨c,h,eV.mv k m⟩
theorem CB {cs:List Value}{x:Vl}(q:eV.R h O cs x) :
 ∃nk nt nv v,cs=[.int .i64 x.kind,.int .i64 x.num,.string (bs x.iu),.string (bs x.self),nk,nt,nv,v]/\eN.R h O [nk,nt,nv] x.body/\bX eB h O v x.env:=by
 obtain⟨d,q⟩:=q;cases d with
 |zero=>exact q.elim
 |succ d =>
  obtain⟨nk,nt,nv,oa,n,c,hc,hb,hl,hn,hm,hk⟩:=q;refine⟨nk,nt,nv,_,hc,hb,oa,n,c,rfl,hl,hn,hm,fun i y hy=>?_⟩;obtain⟨b,o,cs',h1,h2,h3,h4⟩:=hk i y hy;exact⟨b,o,_,h1,h2,h3,cs',rfl,d,h4⟩
theorem xY {b:Tr}{e:List Bd}{nk nt nv:Value}(hb:eN.R h O [nk,nt,nv] b) (q:bX eB h O v e) :
 eV.R h O [.int .i64 k,.int .i64 n,.string (bs s),.string (bs f),nk,nt,nv,v] (.mk k n s f b e):=by
 obtain⟨oa,m,c,rfl,hl,hn,hm,hk⟩:=q
 have:∃d,∀i y,e[i]? =some y->∃b o cs,oa=some ⟨b,o,none⟩/\¬O b/\Lw.rowAt h b (o+i*9) (.string (bs y.1)::cs)/\ve d h O cs y.2:=by
  have key:∀j:Nat,∃d,∀i y,i<j->e[i]? =some y->∃b o cs,oa=some ⟨b,o,none⟩/\¬O b/\Lw.rowAt h b (o+i*9) (.string (bs y.1)::cs)/\ve d h O cs y.2:=by
   intro j
   induction j with
   |zero=>exact⟨0,fun i y hi=>by omega⟩
   |succ j ih =>
    obtain⟨d,hd⟩:=ih;cases hj:e[j]? with
    |none =>
     refine⟨d,fun i y hi hy=>hd i y ?_ hy⟩
     rcases Nat.lt_or_ge i j with q|q
     · exact q
     · have:i=j:=by omega
       subst this;rw[hj] at hy;cases hy
    |some z =>
     obtain⟨b,o,_,h1,h2,h3,cs,rfl,d2,h4⟩:=hk j z hj;refine⟨max d d2,fun i y hi hy=>?_⟩
     rcases Nat.lt_or_ge i j with q|q
     · obtain⟨b',o',cs',g1,g2,g3,g4⟩:=hd i y q hy;exact⟨b',o',cs',g1,g2,g3,wP g4 (by omega)⟩
     · have:i=j:=by omega
       subst this;rw[hj] at hy;cases hy;exact⟨b,o,cs,h1,h2,h3,wP h4 (by omega)⟩
  obtain⟨d,hd⟩:=key e.length;exact⟨d,fun i y hy=>hd i y (List.getElem?_eq_some_iff.1 hy).1 hy⟩
 obtain⟨d,hd⟩:=this;exact⟨d+1,nk,nt,nv,oa,m,c,rfl,hb,hl,hn,hm,hd⟩
def dz (h:aA) (O:Nat->Prop) (v:Value) (x:Vl):Prop:=∃cs,v= .agg cs.toArray/\eV.R h O cs x
theorem dz.get {x:Vl}(q:dz h O v x) :
 ∃nk nt a n c ea en ec,v= .agg #[.int .i64 x.kind,.int .i64 x.num,.string (bs x.iu),.string (bs x.self),.int .i64 nk,.string (bs nt),.slice a n c,.slice ea en ec]/\eN.R h O [.int .i64 nk,.string (bs nt),.slice a n c] x.body /\
  eV.R h O [.int .i64 x.kind,.int .i64 x.num,.string (bs x.iu),.string (bs x.self),.int .i64 nk,.string (bs nt),.slice a n c,.slice ea en ec] x/\bX eB h O (.slice ea en ec) x.env:=by
 obtain⟨cs,rfl,q⟩:=q;obtain⟨nk,nt,nv,v,rfl,hb,he⟩:=CB q;obtain⟨k,t,l,hx⟩:∃k t l,x.body= .mk k t l:=by cases x.body with|mk k t l=>exact⟨k,t,l,rfl⟩
 have hb':=hb;rw[hx] at hb';obtain⟨w,hw,hl⟩:=lf hb';simp only[List.cons.injEq,and_true] at hw;obtain⟨rfl,rfl,rfl⟩:=hw;obtain⟨a,n,c,rfl,_⟩:=hl.open;obtain⟨ea,en,ec,rfl,_⟩:=he.open;exact⟨k,t,a,n,c,ea,en,ec,rfl,hb,q,he⟩
theorem dz.of {cs:List Value}{x:Vl}(q:eV.R h O cs x):dz h O (.agg cs.toArray) x:=⟨cs,rfl,q⟩
theorem Jk (h:aA) (O:Nat->Prop):eN.R h O [.int .i64 0,.string (bs []),.slice none 0 0] cP:=xZ (bX.nil _ _ _)
theorem xU (h:aA) (O:Nat->Prop) (k n:Int) (s f:By):eV.R h O [.int .i64 k,.int .i64 n,.string (bs s),.string (bs f),.int .i64 0,.string (bs []),.slice none 0 0,.slice none 0 0] (.mk k n s f cP []):=xY (Jk h O) (bX.nil _ _ _)
theorem Jh {b:Tr}{e:List Bd}{nk nt nv:Value}(q:eV.R h O [.int .i64 k,.int .i64 n,.string (bs s),.string (bs f),nk,nt,nv,v] (.mk k n s f b e)) (g:By) :
 eV.R h O [.int .i64 k,.int .i64 n,.string (bs s),.string (bs g),nk,nt,nv,v] (.mk k n s g b e):=by
 obtain⟨nk',nt',nv',v',hc,hb,he⟩:=CB q;simp only[List.cons.injEq,and_true] at hc;obtain⟨_,_,_,_,rfl,rfl,rfl,rfl⟩:=hc;exact xY hb he
def L0:Nat->Nat->Vl->Prop
 | 0,_,_=>True
 |d+1,b,x=>x.iu.length<=1000000/\x.body.wt<=1000000/\x.env.length<=b/\∀p∈x.env,L0 d b p.2
def okV (b:Nat) (x:Vl):Prop:=∀d,L0 d b x
def vj (b:Nat) (l:List Bd):Prop:=l.length<=b/\∀p∈l,okV b p.2
theorem E0 {b b':Nat}(hb:b<=b'):∀{d:Nat}{x:Vl},L0 d b x->L0 d b' x
 | 0,_,_=>trivial
 |d+1,_,⟨h1,h2,h3,h4⟩=>⟨h1,h2,Nat.le_trans h3 hb,fun p hp=>E0 hb (h4 p hp)⟩
theorem okV.le {b':Nat}{x:Vl}(h:okV b x) (hb:b<=b'):okV b' x:=fun d=>E0 hb (h d)
theorem vj.le {b b':Nat}{l:List Bd}(h:vj b l) (hb:b<=b'):vj b' l:=⟨Nat.le_trans h.1 hb,fun p hp=>(h.2 p hp).le hb⟩
theorem Bl {t:Tr}{e:List Bd}(hs:s.length<=1000000) (ht:t.wt<=1000000) (he:vj b e):okV b (.mk k n s f t e)
 | 0=>trivial
 |d+1=>⟨hs,ht,he.1,fun p hp=>he.2 p hp d⟩
theorem okV.get {x:Vl}(h:okV b x):x.iu.length<=1000000/\x.body.wt<=1000000/\vj b x.env :=
 ⟨(h 1).1,(h 1).2.1,(h 1).2.2.1,fun p hp d=>(h (d+1)).2.2.2 p hp⟩
theorem vj.nil (b:Nat):vj b []:=⟨Nat.zero_le _,fun _ h=>by cases h⟩
theorem l7 (b:Nat) (k n:Int) (f:By) (hs:s.length<=1000000):okV b (.mk k n s f cP []):=Bl hs (by decide) (vj.nil b)
theorem mW {x:Vl}(h:okV b x) (t:By):okV b (lZ x t):=by
 obtain⟨h1,h2,h3⟩:=h.get;unfold lZ;split
 · exact Bl h1 h2 h3
 · exact h
end
end Go.Proofs.YtmehdcdbeafljaaGreatDoor
namespace Go.Proofs.YtmehdcdbeafljaaGreatDoor
open Go.Proofs.Tryz
open Go Go.Lw
set_option maxRecDepth 20000
section
variable {n:Nat}{h:aA}{O:Nat->Prop}{v:Value}{ts:List By}{T:TypeId}{eU:gM Un}{s s':PS}{t:Tr}{e k:Int}
theorem cg (h:aA) (ts:List By) (T:TypeId) (hn:ts.length=n) (hm:n<=maxLen){us:List Value}(hu:us=ts.map DO):bX ny (h.push (.cells us.toArray T)) (fun _=>False) (.slice (some ⟨h.size,0,none⟩) n n) ts :=
 cR.read (h1:=fun _=>rfl) (mP DO h T ts n hn hm 0 (Nat.zero_le _) hu) (fun _ _ k=>k)
theorem xP (hv:bX ny h O v ts) (s:By) :
 ah Tryz.prog 132 #[v,.string (bs s)] h (cM fun r h'=>(∃i:Int,r= .int .i64 i/\decide (0<=i)=decide (s∈ts))/\h'=h):=by
 obtain⟨va,vn,vc,rfl,hvs⟩:=hv.open;have hvl:ts.length=vn:=hvs.len;subst hvl;have hvm:=hvs.cap;have hvc:=hvs.le;simp only[maxLen] at hvm;refine ah.of func132 rfl rfl ?_;refine bf func132 1 [0,1,4] rfl ?_;refine av rfl ?_;refine bl func132 1 rfl ?_;refine xp rfl (aj.aS underlying87 rfl) ?_;refine aN 1 [0,1,4,7,8] rfl ?_;refine G.block rfl rfl ?_;refine bO (σ:=Nat) (fun i=>[(0,.slice va ts.length vc),(1,.string (bs s)),(7,.int .i64 (ts.length:Nat)),(8,.int .i64 (i:Nat))]) (fun i h'=>h'=h/\i<=ts.length/\s∉ts.take i) (fun i=>ts.length-i) (0) rfl ⟨rfl,rfl,rfl,rfl,trivial⟩ ⟨rfl,Nat.zero_le _,by simp⟩ ?_;rintro i g ⟨rfl,hi,hin⟩ ih;refine bf func132 1 [0,1,7,8,9] rfl ?_;refine av rfl ?_;refine aM rfl rfl (fun hlt=>?_) (fun hlt=>?_)
 · have hil:i<ts.length:=by omega
   obtain⟨b,o,x,ha,_,hx,hc⟩:=hvs.at hil;refine aB rfl ?_;refine av rfl ?_;refine G.block rfl rfl ?_;refine bf func132 2 [0,1,5,7,8,9] rfl ?_;refine bl func132 3 rfl ?_;refine xp rfl (aj.aH underlying87 H.eG rfl rfl i rfl ha (by omega)) ?_;refine xp rfl (ai H.fu rfl hc) ?_;refine xp rfl (aj.bS rfl rfl) ?_;refine xd [0,1,5,7,8,9,16] rfl ?_;refine aM rfl rfl (fun he=>?_) (fun he=>?_)
   · have he:s=x:=bZ he;refine bf func132 2 [0,1,4,5,7,8,9,16] rfl ?_;refine G.ret func132 rfl rfl ?_;exact⟨_,rfl,⟨i,rfl,by rw[decide_eq_true (by omega),decide_eq_true (by rw[he];exact List.mem_of_getElem? hx)]⟩,rfl⟩
   · refine aB rfl ?_;refine G.aR ?_;refine G.cz func132 rfl ?_;refine xp rfl (aj.bJ rfl rfl ⟨by omega,by omega⟩) ?_;refine aN 1 [0,1,5,7,8,9,16] rfl ?_;exact ih (i+1) _ _ ⟨rfl,rfl,rfl,rfl,trivial⟩ ⟨rfl,by omega,by rw[List.take_add_one,hx,List.mem_append,not_or];exact⟨hin,by simpa using fun q=>he (by rw[q])⟩⟩ (by omega)
 · refine bD rfl rfl ?_;refine bf func132 1 [0,1,4,7,8,9] rfl ?_;refine G.ret func132 rfl rfl ?_;have hil:i=ts.length:=by omega
   rw[hil,List.take_length] at hin;exact⟨_,rfl,⟨-1,rfl,by rw[decide_eq_false hin];rfl⟩,rfl⟩
theorem ow (hv:bX ny h O v ts) (s:By) :
 ah Tryz.prog 90 #[v,.string (bs s)] h (cM fun r h'=>r= .bool (decide (s∈ts))/\h'=h):=by
 refine ah.of func90 rfl rfl ?_;refine bf func90 1 [0,1,4] rfl ?_;refine bl func90 2 rfl ?_;refine xo rfl (aq (vs:=[_,_]) func132 rfl H.KQ rfl (ah.bq (xP hv s))) ?_;rintro _ h ⟨⟨i,rfl,hi⟩,rfl⟩;refine aN 2 [0,1,4] rfl ?_;refine G.ret func90 rfl rfl ?_;exact⟨_,rfl,by rw[hi];rfl,rfl⟩
def qx (u:Un):List Value:=[.int .i64 u.1,.string (bs u.2.1),.int .i64 u.2.2]
theorem wQ (u:Un):∀v∈qx u,v.oneCell'=true:=fun v hv=>by simp[qx] at hv;rcases hv with rfl|rfl|rfl<;>rfl
abbrev Nl:gM Un:=.record 3 (by decide) qx (fun _=>rfl) wQ
def Np (us:List Un) (i:Nat) (b:Bool) (m:Int):PS->Prop
 |.ok r=>b=false/\r=us.drop i
 |.bad k=>b=true/\m=k
structure PC where
 pb:Nat
 lv:Value
 n0:Nat
 us:List Un
 e:Int
def BZ (T:TypeId) (eU:gM Un) (c:PC) (h:aA) (s:PS):Prop :=
 ∃i b m,bh h c.pb T [c.lv,.int .i64 (i:Nat),.int .i64 c.e,.bool b,.int .i64 m]/\bX eU h (fun x=>x=c.pb\/c.n0<=x) c.lv c.us/\i<=c.us.length/\Np c.us i b m s/\c.pb<c.n0/\c.n0<=h.size/\c.us.length<=1000
theorem BZ.ext {T:TypeId}{eU:gM Un}{c:PC}{h h':aA}{s:PS}{M:Nat->Prop}(k:BZ T eU c h s) (x:Ext M h h') (hM:∀b,b<c.n0->¬M b):BZ T eU c h' s:=by
 obtain⟨i,b,m,hk,hl,hi,hs,hp,hn⟩:=k;exact⟨i,b,m,hk.ext x (hM _ hp),hl.mv (Mv.cY x fun b _ ho=>⟨hM b (by omega),ho⟩),hi,hs,hp,Nat.le_trans hn.1 x.size,hn.2⟩
theorem BZ.ax {c:PC}{h':aA}(k:BZ T eU c h s) (x:aC h h'):BZ T eU c h' s:=k.ext x (fun _ _ k=>k)
theorem BZ.lt {T:TypeId}{eU:gM Un}{c:PC}{h:aA}{s:PS}(k:BZ T eU c h s):c.pb<h.size:=by
 obtain⟨i,b,m,hk,_⟩:=k;exact hk.lt
theorem BZ.old {c:PC}(k:BZ T eU c h s):c.pb<c.n0/\c.n0<=h.size:=by
 obtain⟨i,b,m,_,_,_,_,h1,h2⟩:=k;exact⟨h1,h2.1⟩
theorem BZ.short {c:PC}(k:BZ T eU c h s):c.us.length<=1000/\s.len<=c.us.length:=by
 obtain⟨i,b,m,_,_,_,hs,_,h2⟩:=k;refine⟨h2.2,?_⟩;cases s with
 |bad q=>exact Nat.zero_le _
 |ok r=>obtain⟨_,rfl⟩:=hs;simp[PS.len]
abbrev p8:=BZ 116 Nl
theorem Eo {oa:Option Addr}{c:Nat}{us:List Un}{i:Nat}{u:Un}{r:List Un}(_:Sl eU h O oa n c us) (hi:u::r=us.drop i):us[i]? =some u/\i<us.length/\r=us.drop (i+1):=by
 have h0:(us.drop i)[0]? =some u:=by rw[<-hi];rfl
 rw[List.getElem?_drop,Nat.add_zero] at h0;refine⟨h0,(List.getElem?_eq_some_iff.1 h0).1,?_⟩;rw[<-List.tail_drop,<-hi];rfl
theorem A6 {us:List Un}{i:Nat}(hi:[]=us.drop i) (hl:i<=us.length):i=us.length:=by
 have:=List.drop_eq_nil_iff.1 hi.symm;omega
abbrev ptr (b:Nat):Value:=.pointer (some ⟨b,0,none⟩)
abbrev NH (o:Option By):Value:=packed [.string (bs (o.getD [])),.bool o.isSome]
theorem b9 {c:PC}(hp:p8 c h s) (k:Int){tv:Value}(ht:bX ny h O tv ts) :
 ah Tryz.prog 43 #[ptr c.pb,.int .i64 k,tv] h (cM fun r h'=>r=NH (dL k ts s).1/\p8 c h' (dL k ts s).2/\Ext (fun b=>b=c.pb) h h'):=by
 obtain⟨pb,lv,n0,us,e⟩:=c;obtain⟨i,b,m,hk,hl,hi,hs,hpn,hn0⟩:=id hp;dsimp only at hk hl hi hs hpn hn0 ⊢;obtain⟨la,ln,lc,rfl,hls⟩:=hl.open;have hln:us.length=ln:=hls.len;subst hln;have hlm:=hls.cap;have hlc:=hls.le;simp only[maxLen] at hlm;cases s with
 |bad q =>
  obtain⟨rfl,rfl⟩:=hs;refine ah.of func43 rfl rfl ?_;refine bf func43 2 [0,1,2,6,7] rfl ?_;refine av rfl ?_;refine av rfl ?_;refine G.gF func43 H.mixed rfl (by kernel_rfl) ?_;refine RQ.ay rfl rfl rfl rfl (aP rfl) ?_;refine RQ.ay rfl rfl rfl rfl (aO rfl) ?_;refine RQ.ay rfl rfl rfl rfl (af (off:=3) underlying116 rfl rfl H.lN rfl) ?_;refine RQ.ay rfl rfl rfl rfl (ai H.uJ rfl (hk.cell (i:=3) rfl)) ?_;refine RQ.ay rfl rfl rfl rfl (aP rfl) ?_;refine RQ.cS (d:=12) (b':=true) rfl (rfl) ?_;refine RQ.aU rfl rfl rfl rfl ?_;refine RQ.aU rfl rfl rfl rfl ?_;refine RQ.aU rfl rfl rfl rfl ?_;refine RQ.aU rfl rfl rfl rfl ?_;refine RQ.aU rfl rfl rfl rfl ?_;refine RQ.aU rfl rfl rfl rfl ?_;refine RQ.aU rfl rfl rfl rfl ?_;refine RQ.aU rfl rfl rfl rfl ?_;refine RQ.aU rfl rfl rfl rfl ?_;refine RQ.aU rfl rfl rfl rfl ?_;refine RQ.ay rfl rfl rfl rfl (aj.lX rfl rfl) ?_;refine RQ.ay rfl rfl rfl rfl (aP rfl) ?_;refine RQ.aU rfl rfl rfl rfl ?_;refine RQ.aU rfl rfl rfl rfl ?_;refine RQ.aU rfl rfl rfl rfl ?_;refine RQ.aU rfl rfl rfl rfl ?_;refine RQ.aU rfl rfl rfl rfl ?_;refine RQ.aU rfl rfl rfl rfl ?_;refine RQ.aU rfl rfl rfl rfl ?_;refine RQ.aU rfl rfl rfl rfl ?_;refine RQ.aU rfl rfl rfl rfl ?_;refine RQ.aU rfl rfl rfl rfl ?_;refine RQ.aU rfl rfl rfl rfl ?_;refine RQ.aU rfl rfl rfl rfl ?_;refine RQ.aU rfl rfl rfl rfl ?_;refine RQ.ay rfl rfl rfl rfl (aj.lX rfl rfl) ?_;refine RQ.ay rfl rfl rfl rfl (aP rfl) ?_;refine RQ.aU rfl rfl rfl rfl ?_;refine RQ.aU rfl rfl rfl rfl ?_;refine RQ.aU rfl rfl rfl rfl ?_;refine RQ.aU rfl rfl rfl rfl ?_;refine RQ.aU rfl rfl rfl rfl ?_;refine RQ.aU rfl rfl rfl rfl ?_;refine RQ.aU rfl rfl rfl rfl ?_;refine RQ.aU rfl rfl rfl rfl ?_;refine RQ.aU rfl rfl rfl rfl ?_;refine RQ.aU rfl rfl rfl rfl ?_;refine RQ.aU rfl rfl rfl rfl ?_;refine RQ.aU rfl rfl rfl rfl ?_;refine RQ.aU rfl rfl rfl rfl ?_;refine RQ.aU rfl rfl rfl rfl ?_;refine RQ.ay rfl rfl rfl rfl (aj.lX rfl rfl) ?_;refine dw rfl ?_;refine xu [0,1,2,6,7,54] rfl ?_;refine aJ rfl rfl (fun _=>?_) (fun hc=>absurd hc (by simp));refine bf func43 2 [0,1,2,6,7,54] rfl ?_;refine G.ret func43 rfl rfl ?_;exact⟨_,rfl,rfl,hp,Ext.refl _ _⟩
  |ok r =>
  obtain⟨rfl,hr⟩:=hs;cases r with
  |nil =>
   have hie:=A6 hr hi;refine ah.of func43 rfl rfl ?_;refine bf func43 2 [0,1,2,6,7] rfl ?_;refine av rfl ?_;refine av rfl ?_;refine G.gF func43 H.mixed rfl (by kernel_rfl) ?_;refine RQ.ay rfl rfl rfl rfl (aP rfl) ?_;refine RQ.ay rfl rfl rfl rfl (aO rfl) ?_;refine RQ.ay rfl rfl rfl rfl (af (off:=3) underlying116 rfl rfl H.lN rfl) ?_;refine RQ.ay rfl rfl rfl rfl (ai H.uJ rfl (hk.cell (i:=3) rfl)) ?_;refine RQ.ay rfl rfl rfl rfl (aP rfl) ?_;refine RQ.cS (d:=12) (b':=false) rfl (rfl) ?_;refine RQ.ay rfl rfl rfl rfl (aP rfl) ?_;refine RQ.ay rfl rfl rfl rfl (aO rfl) ?_;refine RQ.ay rfl rfl rfl rfl (af (off:=1) underlying116 rfl rfl H.bV rfl) ?_;refine RQ.ay rfl rfl rfl rfl (ai H.cK rfl (hk.cell (i:=1) rfl)) ?_;refine RQ.ay rfl rfl rfl rfl (aP rfl) ?_;refine RQ.ay rfl rfl rfl rfl (aO rfl) ?_;refine RQ.ay rfl rfl rfl rfl (af (off:=0) underlying116 rfl rfl H.iA rfl) ?_;refine RQ.ay rfl rfl rfl rfl (ai H.iE rfl (hk.cell (i:=0) rfl)) ?_;refine RQ.ay rfl rfl rfl rfl (aj.aS underlying111 rfl) ?_;refine RQ.ay rfl rfl rfl rfl (lC rfl rfl) ?_;refine RQ.ay rfl rfl rfl rfl (aj.nF rfl rfl) ?_;refine RQ.ay rfl rfl rfl rfl (aP rfl) ?_;refine RQ.cS (d:=24) (b':=true) rfl (decide_eq_true ((by omega))) ?_;refine RQ.aU rfl rfl rfl rfl ?_;refine RQ.aU rfl rfl rfl rfl ?_;refine RQ.aU rfl rfl rfl rfl ?_;refine RQ.aU rfl rfl rfl rfl ?_;refine RQ.aU rfl rfl rfl rfl ?_;refine RQ.aU rfl rfl rfl rfl ?_;refine RQ.aU rfl rfl rfl rfl ?_;refine RQ.aU rfl rfl rfl rfl ?_;refine RQ.aU rfl rfl rfl rfl ?_;refine RQ.aU rfl rfl rfl rfl ?_;refine RQ.aU rfl rfl rfl rfl ?_;refine RQ.aU rfl rfl rfl rfl ?_;refine RQ.aU rfl rfl rfl rfl ?_;refine RQ.ay rfl rfl rfl rfl (aj.lX rfl rfl) ?_;refine RQ.ay rfl rfl rfl rfl (aP rfl) ?_;refine RQ.aU rfl rfl rfl rfl ?_;refine RQ.aU rfl rfl rfl rfl ?_;refine RQ.aU rfl rfl rfl rfl ?_;refine RQ.aU rfl rfl rfl rfl ?_;refine RQ.aU rfl rfl rfl rfl ?_;refine RQ.aU rfl rfl rfl rfl ?_;refine RQ.aU rfl rfl rfl rfl ?_;refine RQ.aU rfl rfl rfl rfl ?_;refine RQ.aU rfl rfl rfl rfl ?_;refine RQ.aU rfl rfl rfl rfl ?_;refine RQ.aU rfl rfl rfl rfl ?_;refine RQ.aU rfl rfl rfl rfl ?_;refine RQ.aU rfl rfl rfl rfl ?_;refine RQ.aU rfl rfl rfl rfl ?_;refine RQ.ay rfl rfl rfl rfl (aj.lX rfl rfl) ?_;refine dw rfl ?_;refine xu [0,1,2,6,7,54] rfl ?_;refine aJ rfl rfl (fun _=>?_) (fun hc=>absurd hc (by simp));refine bf func43 2 [0,1,2,6,7,54] rfl ?_;refine G.ret func43 rfl rfl ?_;exact⟨_,rfl,rfl,hp,Ext.refl _ _⟩
   |cons u r =>
   obtain⟨hu,hil,hr'⟩:=Eo hls hr;obtain⟨b1,o1,u',hua,hub,hu',hrow⟩:=hls.zK hil;rw[hu] at hu';cases hu';have c0:=hrow 0 _ rfl;have c1:=hrow 1 _ rfl;refine ah.of func43 rfl rfl ?_;refine bf func43 2 [0,1,2,6,7] rfl ?_;refine av rfl ?_;refine av rfl ?_;refine G.gF func43 H.mixed rfl (by kernel_rfl) ?_;refine RQ.ay rfl rfl rfl rfl (aP rfl) ?_;refine RQ.ay rfl rfl rfl rfl (aO rfl) ?_;refine RQ.ay rfl rfl rfl rfl (af (off:=3) underlying116 rfl rfl H.lN rfl) ?_;refine RQ.ay rfl rfl rfl rfl (ai H.uJ rfl (hk.cell (i:=3) rfl)) ?_;refine RQ.ay rfl rfl rfl rfl (aP rfl) ?_;refine RQ.cS (d:=12) (b':=false) rfl (rfl) ?_;refine RQ.ay rfl rfl rfl rfl (aP rfl) ?_;refine RQ.ay rfl rfl rfl rfl (aO rfl) ?_;refine RQ.ay rfl rfl rfl rfl (af (off:=1) underlying116 rfl rfl H.bV rfl) ?_;refine RQ.ay rfl rfl rfl rfl (ai H.cK rfl (hk.cell (i:=1) rfl)) ?_;refine RQ.ay rfl rfl rfl rfl (aP rfl) ?_;refine RQ.ay rfl rfl rfl rfl (aO rfl) ?_;refine RQ.ay rfl rfl rfl rfl (af (off:=0) underlying116 rfl rfl H.iA rfl) ?_;refine RQ.ay rfl rfl rfl rfl (ai H.iE rfl (hk.cell (i:=0) rfl)) ?_;refine RQ.ay rfl rfl rfl rfl (aj.aS underlying111 rfl) ?_;refine RQ.ay rfl rfl rfl rfl (lC rfl rfl) ?_;refine RQ.ay rfl rfl rfl rfl (aj.nF rfl rfl) ?_;refine RQ.ay rfl rfl rfl rfl (aP rfl) ?_;refine RQ.cS (d:=24) (b':=false) rfl (decide_eq_false ((by omega))) ?_;refine RQ.ay rfl rfl rfl rfl (aP rfl) ?_;refine RQ.ay rfl rfl rfl rfl (aO rfl) ?_;refine RQ.ay rfl rfl rfl rfl (af (off:=0) underlying116 rfl rfl H.iA rfl) ?_;refine RQ.ay rfl rfl rfl rfl (ai H.iE rfl (hk.cell (i:=0) rfl)) ?_;refine RQ.ay rfl rfl rfl rfl (aP rfl) ?_;refine RQ.ay rfl rfl rfl rfl (aO rfl) ?_;refine RQ.ay rfl rfl rfl rfl (af (off:=1) underlying116 rfl rfl H.bV rfl) ?_;refine RQ.ay rfl rfl rfl rfl (ai H.cK rfl (hk.cell (i:=1) rfl)) ?_;refine RQ.ay rfl rfl rfl rfl (aj.aH underlying111 H.jX rfl rfl i rfl hua (by omega)) ?_;refine RQ.ay rfl rfl rfl rfl (af (off:=0) underlying188 rfl rfl H.bV rfl) ?_;refine RQ.ay rfl rfl rfl rfl (ai H.cK rfl c0) ?_;refine RQ.ay rfl rfl rfl rfl (aP rfl) ?_;refine RQ.ay rfl rfl rfl rfl (aj.Bq rfl rfl) ?_;refine RQ.ay rfl rfl rfl rfl (aj.nF rfl rfl) ?_;refine RQ.ay rfl rfl rfl rfl (aP rfl) ?_;refine AO (d:=39) rfl (fun hkk=>?_) (fun hkk=>?_)
   · have hkk:=of_decide_eq_true hkk;refine RQ.aU rfl rfl rfl rfl ?_;refine RQ.aU rfl rfl rfl rfl ?_;refine RQ.aU rfl rfl rfl rfl ?_;refine RQ.aU rfl rfl rfl rfl ?_;refine RQ.aU rfl rfl rfl rfl ?_;refine RQ.aU rfl rfl rfl rfl ?_;refine RQ.aU rfl rfl rfl rfl ?_;refine RQ.aU rfl rfl rfl rfl ?_;refine RQ.aU rfl rfl rfl rfl ?_;refine RQ.aU rfl rfl rfl rfl ?_;refine RQ.aU rfl rfl rfl rfl ?_;refine RQ.aU rfl rfl rfl rfl ?_;refine RQ.aU rfl rfl rfl rfl ?_;refine RQ.aU rfl rfl rfl rfl ?_;refine RQ.ay rfl rfl rfl rfl (aj.lX rfl rfl) ?_;refine dw rfl ?_;refine xu [0,1,2,6,7,54] rfl ?_;refine aJ rfl rfl (fun _=>?_) (fun hc=>absurd hc (by simp[hkk]));refine bf func43 2 [0,1,2,6,7,54] rfl ?_;refine G.ret func43 rfl rfl ?_;have hno:dL k ts (.ok (u::r))=(none,.ok (u::r)):=by rw[mq,if_neg (fun q=>hkk (by rw[q.1]))]
     exact⟨_,rfl,by rw[hno];rfl,by rw[hno];exact hp,Ext.refl _ _⟩
   · have hkk:=of_decide_eq_false hkk;have hkk:u.1=k:=by simpa using hkk
     refine RQ.ay rfl rfl rfl rfl (aP rfl) ?_;refine RQ.ay rfl rfl rfl rfl (aP rfl) ?_;refine RQ.ay rfl rfl rfl rfl (aO rfl) ?_;refine RQ.ay rfl rfl rfl rfl (af (off:=0) underlying116 rfl rfl H.iA rfl) ?_;refine RQ.ay rfl rfl rfl rfl (ai H.iE rfl (hk.cell (i:=0) rfl)) ?_;refine RQ.ay rfl rfl rfl rfl (aP rfl) ?_;refine RQ.ay rfl rfl rfl rfl (aO rfl) ?_;refine RQ.ay rfl rfl rfl rfl (af (off:=1) underlying116 rfl rfl H.bV rfl) ?_;refine RQ.ay rfl rfl rfl rfl (ai H.cK rfl (hk.cell (i:=1) rfl)) ?_;refine RQ.ay rfl rfl rfl rfl (aj.aH underlying111 H.jX rfl rfl i rfl hua (by omega)) ?_;refine RQ.ay rfl rfl rfl rfl (af (off:=1) underlying188 rfl rfl H.eG rfl) ?_;refine RQ.ay rfl rfl rfl rfl (ai H.fu rfl c1) ?_;refine RQ.IG (vs:=[_,_]) rfl rfl rfl rfl rfl func90 rfl H.Jm rfl (ow ht u.2.1) ?_;refine RQ.ay rfl rfl rfl rfl (aj.E8 rfl) ?_;refine RQ.ay rfl rfl rfl rfl (aj.nF rfl rfl) ?_;refine dw rfl ?_;refine xu [0,1,2,6,7,54] rfl ?_;refine aJ rfl rfl (fun hin=>?_) (fun hin=>?_)
     · have hin:u.2.1∉ts:=by simpa using hin
       refine bf func43 2 [0,1,2,6,7,54] rfl ?_;refine G.ret func43 rfl rfl ?_;have hno:dL k ts (.ok (u::r))=(none,.ok (u::r)):=by rw[mq,if_neg (fun q=>hin q.2)]
       exact⟨_,rfl,by rw[hno];rfl,by rw[hno];exact hp,Ext.refl _ _⟩
     · have hin:u.2.1∈ts:=by simpa using hin
       refine aB rfl ?_;refine bl func43 2 rfl ?_;refine xp rfl (af (off:=1) underlying116 rfl rfl H.bV rfl) ?_;refine xp rfl (ai H.cK rfl (hk.cell (i:=1) rfl)) ?_;refine xp rfl (aj.bJ rfl rfl ⟨by omega,by omega⟩) ?_;refine cI 1 rfl rfl (af (off:=1) underlying116 rfl rfl H.bV rfl) ?_;refine RW.bB rfl rfl rfl (az.bA H.bV rfl rfl hk (by first|decide|exact of_decide_eq_true rfl|(simp;done)|(simp;omega)) rfl) ?_;rintro _ h1 ⟨rfl,k1,x1,z1⟩;refine xd [0,1,2,6,7,54] rfl ?_;refine av rfl ?_;refine G.gF func43 H.mixed rfl (by kernel_rfl) ?_;refine RQ.ay rfl rfl rfl rfl (aP rfl) ?_;refine RQ.ay rfl rfl rfl rfl (aO rfl) ?_;refine RQ.ay rfl rfl rfl rfl (af (off:=0) underlying116 rfl rfl H.iA rfl) ?_;have hls1:=hls.mv (Mv.cY x1 fun b _ ho=>⟨fun q=>ho (.inl q),ho⟩);obtain⟨b2,o2,u2,hua2,hub2,hu2,hrow2⟩:=hls1.zK hil;rw[hu] at hu2;cases hu2;refine RQ.ay rfl rfl rfl rfl (ai H.iE rfl (k1.cell (i:=0) rfl)) ?_;refine RQ.ay rfl rfl rfl rfl (aP rfl) ?_;refine RQ.ay rfl rfl rfl rfl (aO rfl) ?_;refine RQ.ay rfl rfl rfl rfl (af (off:=1) underlying116 rfl rfl H.bV rfl) ?_;refine RQ.ay rfl rfl rfl rfl (ai H.cK rfl (k1.cell (i:=1) rfl)) ?_;refine RQ.ay rfl rfl rfl rfl (aj.j9 rfl rfl ⟨by omega,by omega⟩) ?_;refine RQ.ay rfl rfl rfl rfl (aj.aH underlying111 H.jX rfl rfl i (by omega) hua2 (by omega)) ?_;refine RQ.ay rfl rfl rfl rfl (af (off:=1) underlying188 rfl rfl H.eG rfl) ?_;refine RQ.ay rfl rfl rfl rfl (ai H.fu rfl (hrow2 1 _ rfl)) ?_;refine RQ.ay rfl rfl rfl rfl (aj.assign rfl) ?_;refine RQ.ay rfl rfl rfl rfl (aj.assign rfl) ?_;refine dw rfl ?_;refine xu [0,1,2,6,7,54] rfl ?_;refine G.ret func43 rfl rfl ?_;have hyes:dL k ts (.ok (u::r))=(some u.2.1,.ok r):=by rw[mq,if_pos ⟨hkk,hin⟩]
       refine⟨_,rfl,by rw[hyes];rfl,?_,x1⟩;rw[hyes];exact⟨i+1,false,m,k1,hls1.shut,hil,⟨rfl,hr'⟩,hpn,by have:=x1.size;dsimp only;omega⟩
abbrev Ni:Value:=.agg #[.int .i64 0,.string (bs []),.slice none 0 0]
theorem eH {c:PC}(hp:p8 c h s) :
 ah Tryz.prog 44 #[ptr c.pb] h (cM fun r h'=>r=Ni/\p8 c h' (dM c.e s)/\Ext (fun b=>b=c.pb) h h'):=by
 obtain⟨pb,lv,n0,us,e⟩:=c;obtain⟨i,b,m,hk,hl,hi,hs,hpn,hn0⟩:=id hp;dsimp only at hk hl hi hs hpn hn0 ⊢;obtain⟨la,ln,lc,rfl,hls⟩:=hl.open;have hln:us.length=ln:=hls.len;subst hln;have hlm:=hls.cap;have hlc:=hls.le;simp only[maxLen] at hlm;have hpl:=hk.lt;cases s with
 |bad q =>
  obtain⟨rfl,rfl⟩:=hs;refine ah.of func44 rfl rfl ?_;refine xr func44 rfl ?_;refine xo rfl (az.aQ H.fL) ?_;rintro _ h1 ⟨rfl,k1,e1,z1⟩;refine xd [0,2] rfl ?_;refine av rfl ?_;refine bl func44 2 rfl ?_;refine xp rfl (af (off:=3) underlying116 rfl rfl H.lN rfl) ?_;refine xp rfl (ai H.uJ rfl ((hk.ax e1).cell (i:=3) rfl)) ?_;refine aN 1 [0,2,7] rfl ?_;refine aJ rfl rfl (fun hc=>absurd hc (by simp)) (fun _=>?_);refine aB rfl ?_;refine xr func44 rfl ?_;refine xp rfl (aG (H.Gd ) rfl) ?_;refine RW.bB rfl rfl rfl (az.au H.aY rfl rfl k1 (by first|rfl|(simp;done)|(simp;omega)) (by first|decide|exact of_decide_eq_true rfl|(simp;done)|(simp;omega)) (by first|decide|simp[Value.oneCell'])) ?_;rintro _ h2 ⟨rfl,k2,x2,z2⟩;refine xd [0,2,7] rfl ?_;refine G.br func44 rfl (.cons (aI.bp H.bN H.aY rfl (k2.row) (by first|rfl|(simp;done)|(simp;omega))) (.nil)) ?_;exact⟨_,rfl,rfl,(hp.ax e1).ext x2 (fun y (hy:y<n0) q=>by omega),e1.of.ct x2 (fun y _ q=>by omega)⟩
  |ok r =>
  obtain⟨rfl,hr⟩:=hs;refine ah.of func44 rfl rfl ?_;refine xr func44 rfl ?_;refine xo rfl (az.aQ H.fL) ?_;rintro _ h1 ⟨rfl,k1,e1,z1⟩;refine xd [0,2] rfl ?_;refine av rfl ?_;refine bl func44 2 rfl ?_;refine xp rfl (af (off:=3) underlying116 rfl rfl H.lN rfl) ?_;refine xp rfl (ai H.uJ rfl ((hk.ax e1).cell (i:=3) rfl)) ?_;refine aN 1 [0,2,7] rfl ?_;have hk1:=hk.ax e1;refine aJ rfl rfl (fun _=>?_) (fun hc=>absurd hc (by simp));refine bl func44 4 rfl ?_;refine xp rfl (af (off:=2) underlying116 rfl rfl H.bV rfl) ?_;refine xp rfl (ai H.cK rfl (hk1.cell (i:=2) rfl)) ?_;refine cI 1 rfl rfl (af (off:=3) underlying116 rfl rfl H.lN rfl) ?_;refine RW.bB rfl rfl rfl (az.bA H.lN rfl rfl hk1 (by first|decide|exact of_decide_eq_true rfl|(simp;done)|(simp;omega)) rfl) ?_;rintro _ h2 ⟨rfl,k2,x2,z2⟩;refine cI 1 rfl rfl (af (off:=4) underlying116 rfl rfl H.bV rfl) ?_;refine RW.bB rfl rfl rfl (az.bA H.bV rfl rfl k2 (by first|decide|exact of_decide_eq_true rfl|(simp;done)|(simp;omega)) rfl) ?_;rintro _ h3 ⟨rfl,k3,x3,z3⟩;refine xd [0,2,7] rfl ?_;refine av rfl ?_;refine G.gF func44 H.mixed rfl (by kernel_rfl) ?_;refine RQ.ay rfl rfl rfl rfl (aP rfl) ?_;refine RQ.ay rfl rfl rfl rfl (aO rfl) ?_;refine RQ.ay rfl rfl rfl rfl (af (off:=1) underlying116 rfl rfl H.bV rfl) ?_;have x13:=x2.trans x3;have hls3:=(hls.mv (Mv.ax e1)).mv (Mv.cY x13 fun b _ ho=>⟨fun q=>ho (.inl q),ho⟩);have k13:=k1.ext x13 (show ¬h.size=pb by omega);refine RQ.ay rfl rfl rfl rfl (ai H.cK rfl (k3.cell (i:=1) rfl)) ?_;refine RQ.ay rfl rfl rfl rfl (aP rfl) ?_;refine RQ.ay rfl rfl rfl rfl (aO rfl) ?_;refine RQ.ay rfl rfl rfl rfl (af (off:=0) underlying116 rfl rfl H.iA rfl) ?_;refine RQ.ay rfl rfl rfl rfl (ai H.iE rfl (k3.cell (i:=0) rfl)) ?_;refine RQ.ay rfl rfl rfl rfl (aj.aS underlying111 rfl) ?_;refine RQ.ay rfl rfl rfl rfl (CP rfl rfl) ?_;refine dw rfl ?_;refine xu [0,2,7,27] rfl ?_;refine aM rfl rfl (fun hlt=>?_) (fun hlt=>?_)
  · have hil:i<us.length:=by omega
    obtain⟨b1,o1,u,hua,hub,hu,hrow⟩:=hls3.zK hil;refine bQ (fun b=>Array.size h3<=b) (fun i=>Nat.blt i 14) (sz:=15) (listed:= #[false,false,false,false,false,false,false,false,false,false,false,false,false,false,false]) func44 H.mixed rfl rfl rfl ?_;refine cu 0 1 (by kernel_rfl) rfl ?_;refine cu 1 3 (by kernel_rfl) rfl ?_;refine cu 2 7 (by kernel_rfl) rfl ?_;refine bP 3 15 (by kernel_rfl) rfl (fun h' e=>af (off:=0) underlying116 rfl rfl H.iA rfl) ?_;refine bP 4 31 (by kernel_rfl) rfl (fun h' e=>ai H.iE rfl (e.old (k3.cell (i:=0) rfl))) ?_;refine cu 5 63 (by kernel_rfl) rfl ?_;refine cu 6 127 (by kernel_rfl) rfl ?_;refine bP 7 255 (by kernel_rfl) rfl (fun h' e=>af (off:=1) underlying116 rfl rfl H.bV rfl) ?_;refine bP 8 511 (by kernel_rfl) rfl (fun h' e=>ai H.cK rfl (e.old (k3.cell (i:=1) rfl))) ?_;refine bP 9 1023 (by kernel_rfl) rfl (fun h' e=>aj.aH underlying111 H.jX rfl rfl i rfl hua (by omega)) ?_;refine bP 10 2047 (by kernel_rfl) rfl (fun h' e=>af (off:=2) underlying188 rfl rfl H.bV rfl) ?_;refine bP 11 4095 (by kernel_rfl) rfl (fun h' e=>ai H.cK rfl (e.old (hrow 2 _ rfl))) ?_;refine dZ 12 8191 (by kernel_rfl) rfl (aj.bq (aO rfl)) ?_;rintro _ hq_ ⟨rfl,hqe_⟩;replace hqe_:=hqe_.symm;subst hqe_;refine⟨fun _=>Ext.refl _ _,?_⟩;refine bP 13 16383 (by kernel_rfl) rfl (fun h' e=>af (off:=4) underlying116 rfl rfl H.bV rfl) ?_;refine jG 14 32767 (by kernel_rfl) rfl (az.bA H.bV rfl rfl k3 (by first|decide|exact of_decide_eq_true rfl|(simp;done)|(simp;omega)) rfl) ?_;rintro _ h4 ⟨rfl,k4,x4,z4⟩;refine⟨fun hk=>(nomatch hk),?_⟩;refine bu (by kernel_rfl) ?_;refine xu [0,2,7,27] rfl ?_;refine xr func44 rfl ?_;refine xp rfl (aG (H.Gd ) rfl) ?_;refine RW.bB rfl rfl rfl (az.au H.aY rfl rfl (k13.ext x4 (show ¬h.size=pb by omega)) (by first|rfl|(simp;done)|(simp;omega)) (by first|decide|exact of_decide_eq_true rfl|(simp;done)|(simp;omega)) (by first|decide|simp[Value.oneCell'])) ?_;rintro _ h5 ⟨rfl,k5,x5,z5⟩;refine xd [0,2,7,27] rfl ?_;refine G.br func44 rfl (.cons (aI.bp H.bN H.aY rfl (k5.row) (by first|rfl|(simp;done)|(simp;omega))) (.nil)) ?_;have hr2:r=u::us.drop (i+1):=by rw[hr,List.drop_eq_getElem_cons hil];congr 1;rw[List.getElem?_eq_getElem hil] at hu;exact Option.some.inj hu
    subst hr2;have hls4:=hls3.mv (Mv.cY x4 fun b _ ho=>⟨fun q=>ho (.inl q),ho⟩);refine⟨_,rfl,rfl,BZ.ext (c:=⟨pb,_,n0,us,e⟩) (M:=fun b=>b=h.size) ⟨i,true,u.2.2,k4,hls4.shut,hi,⟨rfl,rfl⟩,hpn,by dsimp only;omega⟩ x5 (fun y (hy:y<n0) q=>by omega),((e1.of.trans x13).trans x4).ct x5 (fun y _ q=>by omega)⟩
  · refine aB rfl ?_;refine xr func44 rfl ?_;refine xp rfl (aG (H.Gd ) rfl) ?_;refine RW.bB rfl rfl rfl (az.au H.aY rfl rfl k13 (by first|rfl|(simp;done)|(simp;omega)) (by first|decide|exact of_decide_eq_true rfl|(simp;done)|(simp;omega)) (by first|decide|simp[Value.oneCell'])) ?_;rintro _ h5 ⟨rfl,k5,x5,z5⟩;refine xd [0,2,7,27] rfl ?_;refine G.br func44 rfl (.cons (aI.bp H.bN H.aY rfl (k5.row) (by first|rfl|(simp;done)|(simp;omega))) (.nil)) ?_;have hil:i=us.length:=by omega
    have hr2:r=[]:=by rw[hr,hil,List.drop_length]
    subst hr2;refine⟨_,rfl,rfl,BZ.ext (c:=⟨pb,_,n0,us,e⟩) (M:=fun b=>b=h.size) ⟨i,true,e,k3,hls3.shut,hi,⟨rfl,rfl⟩,hpn,by dsimp only;omega⟩ x5 (fun y (hy:y<n0) q=>by omega),(e1.of.trans x13).ct x5 (fun y _ q=>by omega)⟩
theorem gk {c:PC}(hp:p8 c h s) (k:Int) (t:By) :
 ah Tryz.prog 128 #[ptr c.pb,.int .i64 k,.string (bs t)] h (cM fun r h'=>p8 c h' (eI c.e k t s)/\Ext (fun b=>b=c.pb) h h'):=by
 have hpl:=hp.lt;refine ah.of func128 rfl rfl ?_;refine bl func128 3 rfl ?_;refine xo rfl (az.bg (us:=[_]) underlying87 H.rO rfl rfl (by decide) (by simp[Value.oneCell'])) ?_;rintro _ h1 ⟨rfl,hh1⟩;have e1:aC h h1:=by rw[hh1];exact Ext.push _ _ _
 have La:bX ny h1 (fun _=>False) (.slice (some ⟨h.size,0,none⟩) 1 1) [t]:=by rw[hh1];exact cg h [t] _ rfl (by simp[maxLen]) rfl
 refine xo rfl (aq (vs:=[_,_,_]) func43 rfl H.iZ rfl (ah.bq (b9 (hp.ax e1) k La))) ?_;rintro _ h2 ⟨rfl,hp2,x2⟩;refine aN 5 [0,1,2,7] rfl ?_;refine bf func128 2 [0,1,2,7,17] rfl ?_;refine aJ rfl rfl (fun hq=>?_) (fun hq=>?_)
 · have hq:(dL k [t] s).1=none:=by simpa using hq
   have hm:eI c.e k t s=dM c.e (dL k [t] s).2:=by unfold eI;rw[hq]
   refine G.cz func128 rfl ?_;refine aV 1 rfl ?_;refine xo rfl (aq (vs:=[_]) func44 rfl H.vq rfl (ah.bq (eH hp2))) ?_;rintro _ h3 ⟨rfl,hp3,x3⟩;refine xd [0,1,2,7,17] rfl ?_;refine G.xV func128 rfl ?_;exact⟨_,rfl,by rw[hm];exact hp3,e1.of.trans (x2.trans x3)⟩
 · refine aB rfl ?_;refine G.xV func128 rfl ?_
   have hm:eI c.e k t s=(dL k [t] s).2:=by
    unfold eI;cases hs:(dL k [t] s).1 with
    |some x=>rfl
    |none=>rw[hs] at hq;simp at hq
   exact⟨_,rfl,by rw[hm];exact hp2,e1.of.trans x2⟩
theorem qK {c:PC}(hp:p8 c h s) :
 ah Tryz.prog 127 #[ptr c.pb] h (cM fun r h'=>r= .string (bs (dV c.e s).1)/\p8 c h' (dV c.e s).2/\Ext (fun b=>b=c.pb) h h'):=by
 obtain⟨pb,lv,n0,us,e⟩:=c;obtain⟨i,b,m,hk,hl,hi,hs,hpn,hn0⟩:=id hp;dsimp only at hk hl hi hs hpn hn0 ⊢;obtain⟨la,ln,lc,rfl,hls⟩:=hl.open;have hln:us.length=ln:=hls.len;subst hln;have hlm:=hls.cap;have hlc:=hls.le;simp only[maxLen] at hlm;have hf:=eH hp;dsimp only at hf;cases s with
 |bad q =>
  obtain⟨rfl,rfl⟩:=hs;refine ah.of func127 rfl rfl ?_;refine bf func127 1 [0,2] rfl ?_;refine av rfl ?_;refine av rfl ?_;refine G.gF func127 H.mixed rfl (by kernel_rfl) ?_;refine RQ.ay rfl rfl rfl rfl (aP rfl) ?_;refine RQ.ay rfl rfl rfl rfl (aO rfl) ?_;refine RQ.ay rfl rfl rfl rfl (af (off:=3) underlying116 rfl rfl H.lN rfl) ?_;refine RQ.ay rfl rfl rfl rfl (ai H.uJ rfl (hk.cell (i:=3) rfl)) ?_;refine RQ.ay rfl rfl rfl rfl (aP rfl) ?_;refine RQ.cS (d:=7) (b':=true) rfl (rfl) ?_;refine RQ.aU rfl rfl rfl rfl ?_;refine RQ.aU rfl rfl rfl rfl ?_;refine RQ.aU rfl rfl rfl rfl ?_;refine RQ.aU rfl rfl rfl rfl ?_;refine RQ.aU rfl rfl rfl rfl ?_;refine RQ.aU rfl rfl rfl rfl ?_;refine RQ.aU rfl rfl rfl rfl ?_;refine RQ.aU rfl rfl rfl rfl ?_;refine RQ.aU rfl rfl rfl rfl ?_;refine RQ.aU rfl rfl rfl rfl ?_;refine RQ.ay rfl rfl rfl rfl (aj.lX rfl rfl) ?_;refine RQ.ay rfl rfl rfl rfl (aP rfl) ?_;refine RQ.aU rfl rfl rfl rfl ?_;refine RQ.aU rfl rfl rfl rfl ?_;refine RQ.aU rfl rfl rfl rfl ?_;refine RQ.aU rfl rfl rfl rfl ?_;refine RQ.aU rfl rfl rfl rfl ?_;refine RQ.aU rfl rfl rfl rfl ?_;refine RQ.aU rfl rfl rfl rfl ?_;refine RQ.aU rfl rfl rfl rfl ?_;refine RQ.aU rfl rfl rfl rfl ?_;refine RQ.aU rfl rfl rfl rfl ?_;refine RQ.aU rfl rfl rfl rfl ?_;refine RQ.aU rfl rfl rfl rfl ?_;refine RQ.ay rfl rfl rfl rfl (aj.lX rfl rfl) ?_;refine dw rfl ?_;refine xu [0,2,32] rfl ?_;refine aJ rfl rfl (fun _=>?_) (fun hc=>absurd hc (by simp));refine bl func127 1 rfl ?_;refine xo rfl (aq (vs:=[_]) func44 rfl H.vq rfl (ah.bq (hf))) ?_;rintro _ h2 ⟨rfl,hp2,x2⟩;refine xd [0,2,32] rfl ?_;refine bf func127 1 [0,2,32] rfl ?_;refine G.ret func127 rfl rfl ?_;exact⟨_,rfl,rfl,hp2,x2⟩
  |ok r =>
  obtain⟨rfl,hr⟩:=hs;cases r with
  |nil =>
   have hie:=A6 hr hi;refine ah.of func127 rfl rfl ?_;refine bf func127 1 [0,2] rfl ?_;refine av rfl ?_;refine av rfl ?_;refine G.gF func127 H.mixed rfl (by kernel_rfl) ?_;refine RQ.ay rfl rfl rfl rfl (aP rfl) ?_;refine RQ.ay rfl rfl rfl rfl (aO rfl) ?_;refine RQ.ay rfl rfl rfl rfl (af (off:=3) underlying116 rfl rfl H.lN rfl) ?_;refine RQ.ay rfl rfl rfl rfl (ai H.uJ rfl (hk.cell (i:=3) rfl)) ?_;refine RQ.ay rfl rfl rfl rfl (aP rfl) ?_;refine RQ.cS (d:=7) (b':=false) rfl (rfl) ?_;refine RQ.ay rfl rfl rfl rfl (aP rfl) ?_;refine RQ.ay rfl rfl rfl rfl (aO rfl) ?_;refine RQ.ay rfl rfl rfl rfl (af (off:=1) underlying116 rfl rfl H.bV rfl) ?_;refine RQ.ay rfl rfl rfl rfl (ai H.cK rfl (hk.cell (i:=1) rfl)) ?_;refine RQ.ay rfl rfl rfl rfl (aP rfl) ?_;refine RQ.ay rfl rfl rfl rfl (aO rfl) ?_;refine RQ.ay rfl rfl rfl rfl (af (off:=0) underlying116 rfl rfl H.iA rfl) ?_;refine RQ.ay rfl rfl rfl rfl (ai H.iE rfl (hk.cell (i:=0) rfl)) ?_;refine RQ.ay rfl rfl rfl rfl (aj.aS underlying111 rfl) ?_;refine RQ.ay rfl rfl rfl rfl (lC rfl rfl) ?_;refine RQ.ay rfl rfl rfl rfl (aj.nF rfl rfl) ?_;refine RQ.ay rfl rfl rfl rfl (aP rfl) ?_;refine RQ.cS (d:=19) (b':=true) rfl (decide_eq_true ((by omega))) ?_;refine RQ.aU rfl rfl rfl rfl ?_;refine RQ.aU rfl rfl rfl rfl ?_;refine RQ.aU rfl rfl rfl rfl ?_;refine RQ.aU rfl rfl rfl rfl ?_;refine RQ.aU rfl rfl rfl rfl ?_;refine RQ.aU rfl rfl rfl rfl ?_;refine RQ.aU rfl rfl rfl rfl ?_;refine RQ.aU rfl rfl rfl rfl ?_;refine RQ.aU rfl rfl rfl rfl ?_;refine RQ.aU rfl rfl rfl rfl ?_;refine RQ.aU rfl rfl rfl rfl ?_;refine RQ.aU rfl rfl rfl rfl ?_;refine RQ.ay rfl rfl rfl rfl (aj.lX rfl rfl) ?_;refine dw rfl ?_;refine xu [0,2,32] rfl ?_;refine aJ rfl rfl (fun _=>?_) (fun hc=>absurd hc (by simp));refine bl func127 1 rfl ?_;refine xo rfl (aq (vs:=[_]) func44 rfl H.vq rfl (ah.bq (hf))) ?_;rintro _ h2 ⟨rfl,hp2,x2⟩;refine xd [0,2,32] rfl ?_;refine bf func127 1 [0,2,32] rfl ?_;refine G.ret func127 rfl rfl ?_;exact⟨_,rfl,rfl,hp2,x2⟩
   |cons u r =>
   obtain⟨hu,hil,hr'⟩:=Eo hls hr;obtain⟨b1,o1,u',hua,hub,hu',hrow⟩:=hls.zK hil;rw[hu] at hu';cases hu';have c0:=hrow 0 _ rfl;refine ah.of func127 rfl rfl ?_;refine bf func127 1 [0,2] rfl ?_;refine av rfl ?_;refine av rfl ?_;refine G.gF func127 H.mixed rfl (by kernel_rfl) ?_;refine RQ.ay rfl rfl rfl rfl (aP rfl) ?_;refine RQ.ay rfl rfl rfl rfl (aO rfl) ?_;refine RQ.ay rfl rfl rfl rfl (af (off:=3) underlying116 rfl rfl H.lN rfl) ?_;refine RQ.ay rfl rfl rfl rfl (ai H.uJ rfl (hk.cell (i:=3) rfl)) ?_;refine RQ.ay rfl rfl rfl rfl (aP rfl) ?_;refine RQ.cS (d:=7) (b':=false) rfl (rfl) ?_;refine RQ.ay rfl rfl rfl rfl (aP rfl) ?_;refine RQ.ay rfl rfl rfl rfl (aO rfl) ?_;refine RQ.ay rfl rfl rfl rfl (af (off:=1) underlying116 rfl rfl H.bV rfl) ?_;refine RQ.ay rfl rfl rfl rfl (ai H.cK rfl (hk.cell (i:=1) rfl)) ?_;refine RQ.ay rfl rfl rfl rfl (aP rfl) ?_;refine RQ.ay rfl rfl rfl rfl (aO rfl) ?_;refine RQ.ay rfl rfl rfl rfl (af (off:=0) underlying116 rfl rfl H.iA rfl) ?_;refine RQ.ay rfl rfl rfl rfl (ai H.iE rfl (hk.cell (i:=0) rfl)) ?_;refine RQ.ay rfl rfl rfl rfl (aj.aS underlying111 rfl) ?_;refine RQ.ay rfl rfl rfl rfl (lC rfl rfl) ?_;refine RQ.ay rfl rfl rfl rfl (aj.nF rfl rfl) ?_;refine RQ.ay rfl rfl rfl rfl (aP rfl) ?_;refine RQ.cS (d:=19) (b':=false) rfl (decide_eq_false ((by omega))) ?_;refine RQ.ay rfl rfl rfl rfl (aP rfl) ?_;refine RQ.ay rfl rfl rfl rfl (aO rfl) ?_;refine RQ.ay rfl rfl rfl rfl (af (off:=0) underlying116 rfl rfl H.iA rfl) ?_;refine RQ.ay rfl rfl rfl rfl (ai H.iE rfl (hk.cell (i:=0) rfl)) ?_;refine RQ.ay rfl rfl rfl rfl (aP rfl) ?_;refine RQ.ay rfl rfl rfl rfl (aO rfl) ?_;refine RQ.ay rfl rfl rfl rfl (af (off:=1) underlying116 rfl rfl H.bV rfl) ?_;refine RQ.ay rfl rfl rfl rfl (ai H.cK rfl (hk.cell (i:=1) rfl)) ?_;refine RQ.ay rfl rfl rfl rfl (aj.aH underlying111 H.jX rfl rfl i rfl hua (by omega)) ?_;refine RQ.ay rfl rfl rfl rfl (af (off:=0) underlying188 rfl rfl H.bV rfl) ?_;refine RQ.ay rfl rfl rfl rfl (ai H.cK rfl c0) ?_;refine RQ.ay rfl rfl rfl rfl (aj.Bq rfl rfl) ?_;refine RQ.ay rfl rfl rfl rfl (aj.nF rfl rfl) ?_;refine dw rfl ?_;refine xu [0,2,32] rfl ?_;refine aJ rfl rfl (fun hkk=>?_) (fun hkk=>?_)
   · have hkk:¬u.1=3:=by simpa using hkk
     refine bl func127 1 rfl ?_;refine xo rfl (aq (vs:=[_]) func44 rfl H.vq rfl (ah.bq (hf))) ?_;rintro _ h2 ⟨rfl,hp2,x2⟩;refine xd [0,2,32] rfl ?_;refine bf func127 1 [0,2,32] rfl ?_;refine G.ret func127 rfl rfl ?_;have hno:dV e (.ok (u::r))=([],dM e (.ok (u::r))):=by rw[og,if_neg hkk]
     rw[hno];exact⟨_,rfl,rfl,hp2,x2⟩
   · have hkk:u.1=3:=by simpa using hkk
     refine aB rfl ?_;refine bl func127 2 rfl ?_;refine xp rfl (af (off:=1) underlying116 rfl rfl H.bV rfl) ?_;refine xp rfl (ai H.cK rfl (hk.cell (i:=1) rfl)) ?_;refine xp rfl (aj.bJ rfl rfl ⟨by omega,by omega⟩) ?_;refine cI 1 rfl rfl (af (off:=1) underlying116 rfl rfl H.bV rfl) ?_;refine RW.bB rfl rfl rfl (az.bA H.bV rfl rfl hk (by first|decide|exact of_decide_eq_true rfl|(simp;done)|(simp;omega)) rfl) ?_;rintro _ h1 ⟨rfl,k1,x1,z1⟩;refine xd [0,2,32] rfl ?_;refine av rfl ?_;refine G.gF func127 H.mixed rfl (by kernel_rfl) ?_;refine RQ.ay rfl rfl rfl rfl (aP rfl) ?_;refine RQ.ay rfl rfl rfl rfl (aO rfl) ?_;refine RQ.ay rfl rfl rfl rfl (af (off:=0) underlying116 rfl rfl H.iA rfl) ?_;have hls1:=hls.mv (Mv.cY x1 fun b _ ho=>⟨fun q=>ho (.inl q),ho⟩);obtain⟨b2,o2,u2,hua2,hub2,hu2,hrow2⟩:=hls1.zK hil;rw[hu] at hu2;cases hu2;refine RQ.ay rfl rfl rfl rfl (ai H.iE rfl (k1.cell (i:=0) rfl)) ?_;refine RQ.ay rfl rfl rfl rfl (aP rfl) ?_;refine RQ.ay rfl rfl rfl rfl (aO rfl) ?_;refine RQ.ay rfl rfl rfl rfl (af (off:=1) underlying116 rfl rfl H.bV rfl) ?_;refine RQ.ay rfl rfl rfl rfl (ai H.cK rfl (k1.cell (i:=1) rfl)) ?_;refine RQ.ay rfl rfl rfl rfl (aj.j9 rfl rfl ⟨by omega,by omega⟩) ?_;refine RQ.ay rfl rfl rfl rfl (aj.aH underlying111 H.jX rfl rfl i (by omega) hua2 (by omega)) ?_;refine RQ.ay rfl rfl rfl rfl (af (off:=1) underlying188 rfl rfl H.eG rfl) ?_;refine RQ.ay rfl rfl rfl rfl (ai H.fu rfl (hrow2 1 _ rfl)) ?_;refine RQ.ay rfl rfl rfl rfl (aj.assign rfl) ?_;refine dw rfl ?_;refine xu [0,2,32] rfl ?_;refine G.ret func127 rfl rfl ?_;have hyes:dV e (.ok (u::r))=(u.2.1,.ok r):=by rw[og,if_pos hkk]
     rw[hyes];exact⟨_,rfl,rfl,⟨i+1,false,m,k1,hls1.shut,hil,⟨rfl,hr'⟩,hpn,by have:=x1.size;dsimp only;omega⟩,x1⟩
def ey (c:PC) (h h':aA) (s':PS) (t:Tr) (r:Value):Prop :=
 Ext (fun b=>b=c.pb) h h'/\p8 c h' s'/\∃t',fq h' (fun b=>b<h.size) r t'/\(s'.dm=false->t'=t)
def Ct (f:FuncId) (ex:List Value) (j:JQ) (n:Nat):Prop :=
 ∀(c:PC) (h:aA) (s:PS) (t:Tr) (s':PS),p8 c h s->pM c.e n j s=some (t,s')->ah Tryz.prog f (ptr c.pb::ex).toArray h (cM fun r h'=>ey c h h' s' t r)
structure yL (n:Nat):Prop where
 stmt:Ct 42 [] .stmt n
 expr:Ct 89 [] .expr n
 lt:∀a,Ct 88 [.bool a] (.lt a) n
 choice:Ct 129 [] .choice n
 fn:Ct 130 [] .fn n
 block:Ct 161 [] .block n
 p0:Ct 131 [] (.part 0) n
 p1:Ct 162 [] (.part 1) n
 p2:Ct 181 [] (.part 2) n
 p3:Ct 196 [] (.part 3) n
 p4:Ct 205 [] (.part 4) n
 p5:Ct 210 [] (.part 5) n
 p6:Ct 212 [] (.part 6) n
 p7:Ct 213 [] (.part 7) n
 atom:Ct 214 [] .atom n
theorem ey.ret {c:PC}{g g2 g3:aA}{b2:Nat}{s0:PS}{r:Value}(k:ey c g g2 s' t r) (hp:p8 c h s0) (x:Ext (fun b=>b=c.pb) h g) (x3:Ext (fun b=>b=b2) g2 g3) (h1:h.size<=b2) (h2:b2<g.size):ey c h g3 s' t r:=by
 obtain⟨e1,k1,t',k2,k3⟩:=k;obtain⟨o1,o2⟩:=hp.old;have:=x.size;have:=e1.size;exact⟨(x.trans e1).ct x3 (fun i hi q=>by omega),k1.ext x3 (fun b hb q=>by omega),t',k2.ext x3 (fun b hb q=>⟨fun q2=>q (by omega),fun q2=>q (by omega)⟩),k3⟩
theorem yP (ih:∀m,m<=n->yL m):Ct 42 [] .stmt (n+1):=by
 intro c h s t s' hp hm;have hpl:=hp.lt;rw[pM] at hm;refine ah.of func42 rfl rfl ?_;refine xr func42 rfl ?_;refine xo rfl (az.aQ H.fL) ?_;rintro _ h1 ⟨rfl,k1,e1,z1⟩;refine xd [0,2] rfl ?_;refine av rfl ?_;refine bl func42 1 rfl ?_;refine xo rfl (az.bg (us:=[_]) underlying87 H.rO rfl rfl (by decide) (by simp[Value.oneCell'])) ?_;rintro _ w2 ⟨rfl,hw2⟩;have y2:aC h1 w2:=by rw[hw2];exact Ext.push _ _ _
 have ts2:bX ny w2 (fun _=>False) (.slice (some ⟨Array.size h1,0,none⟩) 1 1) [vh]:=by rw[hw2];exact cg _ [vh] _ rfl (by simp[maxLen]) rfl
 refine xo rfl (aq (vs:=[_,_,_]) func43 rfl H.iZ rfl (ah.bq (b9 ((hp.ax e1).ax y2) 4 ts2))) ?_;rintro _ h2 ⟨rfl,hp2,x2⟩;have x2:=y2.of.trans x2
 rcases hq2:dL 4 [vh] s with ⟨o2,s2⟩
 rw[hq2] at hp2 hm;have k2:=k1.ext x2 (show ¬h.size=c.pb by omega);have x02:=e1.of.trans x2
 rcases o2 with _|v2
 · simp only at hm;refine aN 5 [0,2,4] rfl ?_;refine bf func42 1 [0,2,4,11] rfl ?_;refine aJ rfl rfl (fun hc=>absurd hc (by simp)) (fun _=>?_);refine aB rfl ?_;refine bl func42 1 rfl ?_;refine xo rfl (aq (vs:=[_]) func89 rfl H.Bn rfl (ah.bq ((ih n (Nat.le_refl _)).expr _ _ _ _ _ hp2 hm))) ?_;rintro r9 g9 ⟨y9,hp9,t9,hn9,ht9⟩;have k9:=(k2).ext y9 (show ¬h.size=c.pb by omega);obtain⟨nk,nt,na,nn,nc,rfl,_⟩:=hn9.get;refine RW.bB rfl rfl rfl (az.au H.aY rfl rfl k9 (by first|rfl|(simp;done)|(simp;omega)) (by first|decide|exact of_decide_eq_true rfl|(simp;done)|(simp;omega)) (by first|decide|simp[Value.oneCell'])) ?_;rintro _ g10 ⟨rfl,k10,x10,z10⟩;refine xd [0,2,4,11] rfl ?_;refine G.br func42 rfl (.cons (aI.bp H.bN H.aY rfl (k10.row) (by first|rfl|(simp;done)|(simp;omega))) (.nil)) ?_;exact⟨_,rfl,ey.ret ⟨y9,hp9,t9,hn9,ht9⟩ hp (x02) x10 (Nat.le_refl _) (k2).lt⟩
 · simp only at hm;refine aN 5 [0,2,4] rfl ?_;refine bf func42 1 [0,2,4,11] rfl ?_;refine aJ rfl rfl (fun _=>?_) (fun hc=>absurd hc (by simp));refine bl func42 1 rfl ?_;refine xo rfl (aq (vs:=[_,_]) func88 rfl H.Kq rfl (ah.bq ((ih n (Nat.le_refl _)).lt true _ _ _ _ _ hp2 hm))) ?_;rintro r9 g9 ⟨y9,hp9,t9,hn9,ht9⟩;have k9:=(k2).ext y9 (show ¬h.size=c.pb by omega);obtain⟨nk,nt,na,nn,nc,rfl,_⟩:=hn9.get;refine RW.bB rfl rfl rfl (az.au H.aY rfl rfl k9 (by first|rfl|(simp;done)|(simp;omega)) (by first|decide|exact of_decide_eq_true rfl|(simp;done)|(simp;omega)) (by first|decide|simp[Value.oneCell'])) ?_;rintro _ g10 ⟨rfl,k10,x10,z10⟩;refine xd [0,2,4,11] rfl ?_;refine G.br func42 rfl (.cons (aI.bp H.bN H.aY rfl (k10.row) (by first|rfl|(simp;done)|(simp;omega))) (.nil)) ?_;exact⟨_,rfl,ey.ret ⟨y9,hp9,t9,hn9,ht9⟩ hp (x02) x10 (Nat.le_refl _) (k2).lt⟩
theorem yQ (ih:∀m,m<=n->yL m):Ct 89 [] .expr (n+1):=by
 intro c h s t s' hp hm;have hpl:=hp.lt;rw[pM] at hm;refine ah.of func89 rfl rfl ?_;refine xr func89 rfl ?_;refine xo rfl (az.aQ H.fL) ?_;rintro _ h1 ⟨rfl,k1,e1,z1⟩;refine xd [0,2] rfl ?_;refine av rfl ?_;refine bl func89 1 rfl ?_;refine xo rfl (az.bg (us:=[_]) underlying87 H.rO rfl rfl (by decide) (by simp[Value.oneCell'])) ?_;rintro _ w2 ⟨rfl,hw2⟩;have y2:aC h1 w2:=by rw[hw2];exact Ext.push _ _ _
 have ts2:bX ny w2 (fun _=>False) (.slice (some ⟨Array.size h1,0,none⟩) 1 1) [vh]:=by rw[hw2];exact cg _ [vh] _ rfl (by simp[maxLen]) rfl
 refine xo rfl (aq (vs:=[_,_,_]) func43 rfl H.iZ rfl (ah.bq (b9 ((hp.ax e1).ax y2) 4 ts2))) ?_;rintro _ h2 ⟨rfl,hp2,x2⟩;have x2:=y2.of.trans x2
 rcases hq2:dL 4 [vh] s with ⟨o2,s2⟩
 rw[hq2] at hp2 hm;have k2:=k1.ext x2 (show ¬h.size=c.pb by omega);have x02:=e1.of.trans x2
 rcases o2 with _|v2
 · simp only at hm;refine aN 5 [0,2,4] rfl ?_;refine bf func89 1 [0,2,4,15] rfl ?_;refine aJ rfl rfl (fun hc=>absurd hc (by simp)) (fun _=>?_);refine aB rfl ?_;refine av rfl ?_;refine bl func89 1 rfl ?_;refine xo rfl (az.bg (us:=[_]) underlying87 H.rO rfl rfl (by decide) (by simp[Value.oneCell'])) ?_;rintro _ w3 ⟨rfl,hw3⟩;have y3:aC h2 w3:=by rw[hw3];exact Ext.push _ _ _
   have ts3:bX ny w3 (fun _=>False) (.slice (some ⟨Array.size h2,0,none⟩) 1 1) [Gx]:=by rw[hw3];exact cg _ [Gx] _ rfl (by simp[maxLen]) rfl
   refine xo rfl (aq (vs:=[_,_,_]) func43 rfl H.iZ rfl (ah.bq (b9 ((hp2).ax y3) 4 ts3))) ?_;rintro _ h3 ⟨rfl,hp3,x3⟩;have x3:=y3.of.trans x3
   rcases hq3:dL 4 [Gx] s2 with ⟨o3,s3⟩
   rw[hq3] at hp3 hm;have k3:=k2.ext x3 (show ¬h.size=c.pb by omega);have x03:=x02.trans x3
   rcases o3 with _|v3
   · simp only at hm;refine aN 5 [0,2,4,6,15] rfl ?_;refine bf func89 1 [0,2,4,6,15,24] rfl ?_;refine aJ rfl rfl (fun hc=>absurd hc (by simp)) (fun _=>?_);refine aB rfl ?_;refine av rfl ?_;refine bl func89 1 rfl ?_;refine xo rfl (az.bg (us:=[_]) underlying87 H.rO rfl rfl (by decide) (by simp[Value.oneCell'])) ?_;rintro _ w4 ⟨rfl,hw4⟩;have y4:aC h3 w4:=by rw[hw4];exact Ext.push _ _ _
     have ts4:bX ny w4 (fun _=>False) (.slice (some ⟨Array.size h3,0,none⟩) 1 1) [Ew]:=by rw[hw4];exact cg _ [Ew] _ rfl (by simp[maxLen]) rfl
     refine xo rfl (aq (vs:=[_,_,_]) func43 rfl H.iZ rfl (ah.bq (b9 ((hp3).ax y4) 4 ts4))) ?_;rintro _ h4 ⟨rfl,hp4,x4⟩;have x4:=y4.of.trans x4
     rcases hq4:dL 4 [Ew] s3 with ⟨o4,s4⟩
     rw[hq4] at hp4 hm;have k4:=k3.ext x4 (show ¬h.size=c.pb by omega);have x04:=x03.trans x4
     rcases o4 with _|v4
     · simp only at hm;refine aN 5 [0,2,4,6,8,15,24] rfl ?_;refine bf func89 1 [0,2,4,6,8,15,24,33] rfl ?_;refine aJ rfl rfl (fun hc=>absurd hc (by simp)) (fun _=>?_);refine aB rfl ?_;refine bl func89 1 rfl ?_;refine xo rfl (aq (vs:=[_]) func131 rfl H.KR rfl (ah.bq ((ih n (Nat.le_refl _)).p0 _ _ _ _ _ hp4 hm))) ?_;rintro r9 g9 ⟨y9,hp9,t9,hn9,ht9⟩;have k9:=(k4).ext y9 (show ¬h.size=c.pb by omega);obtain⟨nk,nt,na,nn,nc,rfl,_⟩:=hn9.get;refine RW.bB rfl rfl rfl (az.au H.aY rfl rfl k9 (by first|rfl|(simp;done)|(simp;omega)) (by first|decide|exact of_decide_eq_true rfl|(simp;done)|(simp;omega)) (by first|decide|simp[Value.oneCell'])) ?_;rintro _ g10 ⟨rfl,k10,x10,z10⟩;refine xd [0,2,4,6,8,15,24,33] rfl ?_;refine G.br func89 rfl (.cons (aI.bp H.bN H.aY rfl (k10.row) (by first|rfl|(simp;done)|(simp;omega))) (.nil)) ?_;exact⟨_,rfl,ey.ret ⟨y9,hp9,t9,hn9,ht9⟩ hp (x04) x10 (Nat.le_refl _) (k4).lt⟩
     · simp only at hm;refine aN 5 [0,2,4,6,8,15,24] rfl ?_;refine bf func89 1 [0,2,4,6,8,15,24,33] rfl ?_;refine aJ rfl rfl (fun _=>?_) (fun hc=>absurd hc (by simp));refine bl func89 1 rfl ?_;refine xo rfl (aq (vs:=[_]) func130 rfl H.Ip rfl (ah.bq ((ih n (Nat.le_refl _)).fn _ _ _ _ _ hp4 hm))) ?_;rintro r9 g9 ⟨y9,hp9,t9,hn9,ht9⟩;have k9:=(k4).ext y9 (show ¬h.size=c.pb by omega);obtain⟨nk,nt,na,nn,nc,rfl,_⟩:=hn9.get;refine RW.bB rfl rfl rfl (az.au H.aY rfl rfl k9 (by first|rfl|(simp;done)|(simp;omega)) (by first|decide|exact of_decide_eq_true rfl|(simp;done)|(simp;omega)) (by first|decide|simp[Value.oneCell'])) ?_;rintro _ g10 ⟨rfl,k10,x10,z10⟩;refine xd [0,2,4,6,8,15,24,33] rfl ?_;refine G.br func89 rfl (.cons (aI.bp H.bN H.aY rfl (k10.row) (by first|rfl|(simp;done)|(simp;omega))) (.nil)) ?_;exact⟨_,rfl,ey.ret ⟨y9,hp9,t9,hn9,ht9⟩ hp (x04) x10 (Nat.le_refl _) (k4).lt⟩
   · simp only at hm;refine aN 5 [0,2,4,6,15] rfl ?_;refine bf func89 1 [0,2,4,6,15,24] rfl ?_;refine aJ rfl rfl (fun _=>?_) (fun hc=>absurd hc (by simp));refine bl func89 1 rfl ?_;refine xo rfl (aq (vs:=[_]) func129 rfl H.Iq rfl (ah.bq ((ih n (Nat.le_refl _)).choice _ _ _ _ _ hp3 hm))) ?_;rintro r9 g9 ⟨y9,hp9,t9,hn9,ht9⟩;have k9:=(k3).ext y9 (show ¬h.size=c.pb by omega);obtain⟨nk,nt,na,nn,nc,rfl,_⟩:=hn9.get;refine RW.bB rfl rfl rfl (az.au H.aY rfl rfl k9 (by first|rfl|(simp;done)|(simp;omega)) (by first|decide|exact of_decide_eq_true rfl|(simp;done)|(simp;omega)) (by first|decide|simp[Value.oneCell'])) ?_;rintro _ g10 ⟨rfl,k10,x10,z10⟩;refine xd [0,2,4,6,15,24] rfl ?_;refine G.br func89 rfl (.cons (aI.bp H.bN H.aY rfl (k10.row) (by first|rfl|(simp;done)|(simp;omega))) (.nil)) ?_;exact⟨_,rfl,ey.ret ⟨y9,hp9,t9,hn9,ht9⟩ hp (x03) x10 (Nat.le_refl _) (k3).lt⟩
 · simp only at hm;refine aN 5 [0,2,4] rfl ?_;refine bf func89 1 [0,2,4,15] rfl ?_;refine aJ rfl rfl (fun _=>?_) (fun hc=>absurd hc (by simp));refine bl func89 1 rfl ?_;refine xo rfl (aq (vs:=[_,_]) func88 rfl H.Kq rfl (ah.bq ((ih n (Nat.le_refl _)).lt false _ _ _ _ _ hp2 hm))) ?_;rintro r9 g9 ⟨y9,hp9,t9,hn9,ht9⟩;have k9:=(k2).ext y9 (show ¬h.size=c.pb by omega);obtain⟨nk,nt,na,nn,nc,rfl,_⟩:=hn9.get;refine RW.bB rfl rfl rfl (az.au H.aY rfl rfl k9 (by first|rfl|(simp;done)|(simp;omega)) (by first|decide|exact of_decide_eq_true rfl|(simp;done)|(simp;omega)) (by first|decide|simp[Value.oneCell'])) ?_;rintro _ g10 ⟨rfl,k10,x10,z10⟩;refine xd [0,2,4,15] rfl ?_;refine G.br func89 rfl (.cons (aI.bp H.bN H.aY rfl (k10.row) (by first|rfl|(simp;done)|(simp;omega))) (.nil)) ?_;exact⟨_,rfl,ey.ret ⟨y9,hp9,t9,hn9,ht9⟩ hp (x02) x10 (Nat.le_refl _) (k2).lt⟩
theorem fh {j:JQ}(h:pM e n j s=some (t,s')) (hb:s'.dm=false):s.dm=false:=by
 cases s with
 |ok r=>rfl
 |bad m=>rw[EV h] at hb;cases hb
theorem cx {o:Option By}(h:dL k ts s=(o,s')) (hb:s'.dm=false):s.dm=false:=by
 cases s with
 |ok r=>rfl
 |bad m=>rw[He] at h;cases h;cases hb
theorem oA:(dM e s).dm=true:=by cases s<;>rfl
theorem oh {t:By}(hb:(eI e k t s).dm=false):s.dm=false:=by
 cases s with
 |ok r=>rfl
 |bad m=>cases hb
theorem ck {c:PC}{g g3:aA}{s0:PS}{t':Tr}(hp:p8 c h s0) (x:Ext (fun b=>b=c.pb) h g) (k:p8 c g s') (hn:fq g (fun b=>b<=h.size) v t') (ht:s'.dm=false->t'=t) (x3:Ext (fun b=>b=h.size) g g3):ey c h g3 s' t v:=by
 obtain⟨o1,o2⟩:=hp.old;have:=x.size;exact⟨x.ct x3 (fun i hi q=>by omega),k.ext x3 (fun b hb q=>by omega),t',hn.ext x3 (fun b hb q=>⟨fun q2=>q (by omega),fun q2=>q (by omega)⟩),ht⟩
theorem iY {g c b:Nat}(h:(Value.slice (some ⟨g,0,none⟩) n c).ownBlock=some b):b=g:=(Option.some.inj h).symm
theorem kr {t:ByteArray}{a:Option Addr}{c:Nat}:∀v∈[Value.int .i64 k,.string t,.slice a n c],v.oneCell'=true:=fun v hv=>by simp at hv;rcases hv with rfl|rfl|rfl<;>rfl
theorem rW {base:Nat}{e:TypeId}{size:Nat}{xs:List Value}(k:aT h base e size v n xs):∃a m c,v= .slice a m c:=by
 rcases k.2 with ⟨rfl,_⟩|⟨g,cap,cur,rfl,_⟩
 · exact⟨_,_,_,rfl⟩
 · exact⟨_,_,_,rfl⟩
theorem AZ (ih:∀m,m<=n->yL m) (al:Bool):Ct 88 [.bool al] (.lt al) (n+1):=by
 intro c h s t s' hp hm;have hpl:=hp.lt;obtain⟨o1,o2⟩:=hp.old;rw[pM] at hm;obtain⟨v,s1,hv,hm⟩:=aX hm;refine ah.of func88 rfl rfl ?_;refine xr func88 rfl ?_;refine xo rfl (az.aQ H.fL) ?_;rintro _ h1 ⟨rfl,k1,e1,z1⟩;refine xd [0,1,4] rfl ?_;refine bl func88 1 rfl ?_;refine xo rfl (aq (vs:=[_]) func127 rfl H.Ir rfl (ah.bq (qK (hp.ax e1)))) ?_;rintro _ h2 ⟨rfl,hp2,x2⟩;refine xp rfl (aG (H.kE _ _) rfl) ?_;refine xo rfl (az.aQ H.fL) ?_;rintro _ h3 ⟨rfl,k3,e3,z3⟩;refine RW.bB rfl rfl rfl (az.au H.aY rfl rfl k3 (by first|rfl|(simp;done)|(simp;omega)) (by first|decide|exact of_decide_eq_true rfl|(simp;done)|(simp;omega)) (by first|decide|simp[Value.oneCell'])) ?_;rintro _ h4 ⟨rfl,k4,x4,z4⟩;have z2:=x2.size;have hp4:=(hp2.ax e3).ext x4 (fun b hb q=>by omega);refine xd [0,1,4,5] rfl ?_;refine bl func88 1 rfl ?_;refine xo rfl (aq (vs:=[_,_,_]) func128 rfl H.vU rfl (ah.bq (gk hp4 6 [61]))) ?_;rintro _ h5 ⟨hp5,x5⟩;have z5:=x5.size;refine xd [0,1,4,5] rfl ?_;refine bl func88 1 rfl ?_;refine xo rfl (aq (vs:=[_]) func89 rfl H.Bn rfl (ah.bq ((ih n (Nat.le_refl _)).expr _ _ _ _ _ hp5 hv))) ?_;rintro r6 h6 ⟨y6,hp6,t6,hn6,ht6⟩;have z6:=y6.size;obtain⟨nk,nt,na,nn,nc,rfl,hr6⟩:=hn6.get;have k6:=(k4.ext x5 (show ¬h2.size=c.pb by omega)).ext y6 (show ¬h2.size=c.pb by omega);refine xo rfl (az.cE (cs:=[_,_,_]) underlying23 H.kZ rfl rfl (by decide)) ?_;rintro _ h7 ⟨rfl,hh7⟩;have e7:aC h6 h7:=by rw[hh7];exact Ext.push _ _ _
 have z7:h7.size=h6.size+1:=by rw[hh7];simp
 have ho7:dx eN (fun b=>b<h5.size) h7 h6.size 25 (.slice (some ⟨h6.size,0,none⟩) 1 1) [t6]:=by rw[hh7];exact dx.nH hr6 (Nat.le_refl _)
 refine xp rfl (af (off:=2) underlying25 rfl rfl H.eX rfl) ?_;refine RW.bB rfl rfl rfl (az.bA H.eX rfl rfl (k6.ax e7) (by first|decide|exact of_decide_eq_true rfl|(simp;done)|(simp;omega)) rfl) ?_;rintro _ h8 ⟨rfl,k8,x8,z8⟩;have k8:bh h8 h2.size 25 [.int .i64 7,.string (bs (dV c.e s).1),.slice (some ⟨h6.size,0,none⟩) 1 1]:=k8;have ho8:dx eN (fun b=>b<h5.size) h8 h6.size 25 (.slice (some ⟨h6.size,0,none⟩) 1 1) [t6]:=ho7.qd x8 (fun b q q2=>by have:=iY q;omega) (fun b hb q=>by omega) (fun _ _ q=>q);have hp8:=(hp6.ax e7).ext x8 (fun b hb q=>by omega);have x08:Ext (fun b=>b=c.pb) h h8:=((((((e1.of.trans x2).trans e3.of).ct x4 (fun i hi q=>by omega)).trans x5).trans y6).trans e7.of).ct x8 (fun i hi q=>by omega);have q8:=(((((((k1.ext x2 (show ¬h.size=c.pb by omega)).ax e3).ext x4 (show ¬h.size=h2.size by omega)).ext x5 (show ¬h.size=c.pb by omega)).ext y6 (show ¬h.size=c.pb by omega)).ax e7).ext x8 (show ¬h.size=h2.size by omega))
 refine xd [0,1,4,5] rfl ?_;refine av rfl ?_;refine bl func88 1 rfl ?_;refine xo rfl (az.bg (us:=[_]) underlying87 H.rO rfl rfl (by decide) (by simp[Value.oneCell'])) ?_;rintro _ w9 ⟨rfl,hw9⟩;have y9:aC h8 w9:=by rw[hw9];exact Ext.push _ _ _
 have ts9:bX ny w9 (fun _=>False) (.slice (some ⟨Array.size h8,0,none⟩) 1 1) [J5]:=by rw[hw9];exact cg _ [J5] _ rfl (by simp[maxLen]) rfl
 refine xo rfl (aq (vs:=[_,_,_]) func43 rfl H.iZ rfl (ah.bq (b9 ((hp8).ax y9) 4 ts9))) ?_;rintro _ h9 ⟨rfl,hp9,x9⟩;have x9:=y9.of.trans x9
 rcases hq9:dL 4 [J5] s1 with ⟨o9,s9⟩
 rw[hq9] at hp9 hm;have z9:=x9.size;have k9:=k8.ext x9 (show ¬h2.size=c.pb by omega);have q9:=q8.ext x9 (show ¬h.size=c.pb by omega);have x09:=x08.trans x9;have ho9:dx eN (fun b=>b<h5.size) h9 h6.size 25 (.slice (some ⟨h6.size,0,none⟩) 1 1) [t6]:=ho8.qd x9 (fun b q q2=>by have:=iY q;omega) (fun b hb q=>by omega) (fun _ _ q=>q)
 rcases o9 with _|v9
 · simp only at hm;have e9:=eD hq9;have hs9:bX eN h9 (fun b=>b<=h.size) _ [t6]:=ho9.Cn (fun b q q2=>by have:=iY q;omega) (fun b hb q=>by omega);refine aN 5 [0,1,4,5,7] rfl ?_;refine bf func88 1 [0,1,4,5,7,23] rfl ?_;refine aJ rfl rfl (fun hc=>absurd hc (by simp)) (fun _=>?_);refine bf func88 2 [0,1,4,5,7,23,32] rfl ?_;refine aJ rfl rfl (fun ha=>?_) (fun ha=>?_)
   · have ha:al=false:=by simpa using ha
     subst ha;simp only[Bool.false_eq_true,if_false] at hm;obtain⟨rfl,rfl⟩:Tr.mk 7 (dV c.e s).1 [v]=t/\dM c.e s9=s':=by cases hm;exact⟨rfl,rfl⟩
     refine G.cz func88 rfl ?_;refine aV 1 rfl ?_;refine xo rfl (aq (vs:=[_]) func44 rfl H.vq rfl (ah.bq (eH hp9))) ?_;rintro _ h10 ⟨rfl,hp10,x10⟩;refine xd [0,1,4,5,7,23,32] rfl ?_;refine xr func88 rfl ?_;refine xp rfl (aj.aE H.bN H.aY rfl (k9.ext x10 (show ¬h2.size=c.pb by omega)).row (by first|rfl|(simp;done)|(simp;omega))) ?_;refine RW.bB rfl rfl rfl (az.au H.aY rfl rfl (q9.ext x10 (show ¬h.size=c.pb by omega)) (by first|rfl|(simp;done)|(simp;omega)) (by first|decide|exact of_decide_eq_true rfl|(simp;done)|(simp;omega)) (kr)) ?_;rintro _ hz ⟨rfl,kz,xz,zz⟩;refine xd [0,1,4,5,7,23,32] rfl ?_;refine G.br func88 rfl (.cons (aI.bp H.bN H.aY rfl (kz.row) (by first|rfl|(simp;done)|(simp;omega))) (.nil)) ?_;exact⟨_,rfl,ck hp (x09.trans x10) hp10 (fq.shut (hs9.mv (Mv.cY x10 fun b hb q=>⟨fun q2=>q (by omega),q⟩))) (fun q=>by rw[oA] at q;cases q) xz⟩
   · have ha:al=true:=by simpa using ha
     subst ha;simp only[if_true] at hm;obtain⟨rfl,rfl⟩:Tr.mk 7 (dV c.e s).1 [v]=t/\s9=s':=by cases hm;exact⟨rfl,rfl⟩
     refine aB rfl ?_;refine xr func88 rfl ?_;refine xp rfl (aj.aE H.bN H.aY rfl (k9).row (by first|rfl|(simp;done)|(simp;omega))) ?_;refine RW.bB rfl rfl rfl (az.au H.aY rfl rfl (q9) (by first|rfl|(simp;done)|(simp;omega)) (by first|decide|exact of_decide_eq_true rfl|(simp;done)|(simp;omega)) (kr)) ?_;rintro _ hz ⟨rfl,kz,xz,zz⟩;refine xd [0,1,4,5,7,23,32] rfl ?_;refine G.br func88 rfl (.cons (aI.bp H.bN H.aY rfl (kz.row) (by first|rfl|(simp;done)|(simp;omega))) (.nil)) ?_;exact⟨_,rfl,ck hp x09 hp9 (fq.shut hs9) (fun q=>by rw[ht6 (cx hq9 q)]) xz⟩
 · simp only at hm;obtain⟨w,s3,hw,hm⟩:=aX hm;obtain⟨rfl,rfl⟩:Tr.mk 7 (dV c.e s).1 [v,w]=t/\s3=s':=by cases hm;exact⟨rfl,rfl⟩
   refine aN 5 [0,1,4,5,7] rfl ?_;refine bf func88 1 [0,1,4,5,7,23] rfl ?_;refine aJ rfl rfl (fun _=>?_) (fun hc=>absurd hc (by simp));refine bQ (fun b=>b=c.pb\/b=h6.size\/Array.size h9<=b) (fun i=>Nat.blt i 7) (sz:=8) (listed:= #[false,false,false,false,false,false,false,false]) func88 H.mixed rfl rfl rfl ?_;refine bP 0 1 (by kernel_rfl) rfl (fun h' e=>af (off:=2) underlying25 rfl rfl H.eX rfl) ?_;refine bP 1 3 (by kernel_rfl) rfl (fun h' e=>ai H.jm rfl (e.cell (by dsimp only;omega) (k9.cell (i:=2) rfl))) ?_;refine cu 2 7 (by kernel_rfl) rfl ?_;refine dZ 3 15 (by kernel_rfl) rfl (aq (vs:=[_]) func89 rfl H.Bn rfl (ah.bq ((ih n (Nat.le_refl _)).expr _ _ _ _ _ hp9 hw))) ?_;rintro r10 h10 ⟨y10,hp10,t10,hn10,ht10⟩;refine⟨fun _=>y10.mono (fun _ _ q=>.inl q),?_⟩;have z10:=y10.size;obtain⟨mk,mt,ma,mn,mc,rfl,hr10⟩:=hn10.get;have ho10:dx eN (fun b=>b<h5.size) h10 h6.size 25 (.slice (some ⟨h6.size,0,none⟩) 1 1) [t6]:=ho9.qd y10 (fun b q q2=>by have:=iY q;omega) (fun b hb q=>by omega) (fun _ _ q=>q);obtain⟨css,hc1,hc2,hc3⟩:=id ho10;have hc2:aT h10 h6.size 25 3 (.slice (some ⟨h6.size,0,none⟩) 1 1) 1 css.flatten:=hc2;refine dZ 4 31 (by kernel_rfl) rfl (az.cE (cs:=[_,_,_]) underlying23 H.kZ rfl rfl (by decide)) ?_;rintro _ _ ⟨rfl,rfl⟩;refine⟨fun _=>by first|exact Ext.push _ _ _|assumption,?_⟩;refine dZ 5 63 (by kernel_rfl) rfl (az.bU underlying23 H.kZ rfl rfl (hc2) rfl rfl (by first|decide|simp[Value.oneCell']) (by omega) (by decide) (by omega)) ?_;rintro v12 h12 ⟨ho12,hx12,hx12',hv12⟩;refine⟨fun _=>hx12'.mono (fun b _ q=>.inr (.inl (Option.some.inj q))),?_⟩;have k12:=(k9.ext y10 (show ¬h2.size=c.pb by omega)).ext hx12 (fun q=>by have:=iY (Eq.symm q);omega);obtain⟨va,vm,vc,rfl⟩:=rW ho12;refine bP 6 127 (by kernel_rfl) rfl (fun h' e=>af (off:=2) underlying25 rfl rfl H.eX rfl) ?_;refine jG 7 255 (by kernel_rfl) rfl (az.bA H.eX rfl rfl k12 (by first|decide|exact of_decide_eq_true rfl|(simp;done)|(simp;omega)) rfl) ?_;rintro _ h13 ⟨rfl,k13,x13,z13⟩;refine⟨fun hk=>(nomatch hk),?_⟩;refine bu (by kernel_rfl) ?_;refine xu [0,1,4,5,7,23] rfl ?_;refine xr func88 rfl ?_;have k13:bh h13 h2.size 25 [.int .i64 7,.string (bs (dV c.e s).1),.slice va vm vc]:=k13;have z12:=hx12.size
   have hr10':eN.R h10 (fun b=>cV (Value.slice (some ⟨h6.size,0,none⟩) 1 1).ownBlock b\/b<h5.size) [.int .i64 mk,.string (bs mt),.slice ma mn mc] t10:=cy hr10 (Ext.refl (fun _=>False) _) (fun b hb q=>⟨fun k=>k,fun q2=>by
    rcases q2 with q2|q2
    · have:=iY (Eq.symm q2);omega
    · omega⟩)
   have ho12x:dx eN (fun b=>b<h5.size) h12 h6.size 25 (.slice va vm vc) [t6,t10]:=dx.gz hc1 hc3 ho12 hx12 hv12 hr10';have q13:=((q9.ext y10 (show ¬h.size=c.pb by omega)).ext hx12 (fun q=>by have:=iY (Eq.symm q);omega)).ext x13 (show ¬h.size=h2.size by omega);have hs13:bX eN h13 (fun b=>b<=h.size) (.slice va vm vc) [t6,t10]:=(ho12x.qd x13 (fun b q q2=>by have:=(ho12.lt q).1;omega) (fun b hb q=>by omega) (fun _ _ q=>q)).read (fun b hb q=>by omega) (fun b hb q=>by omega);have x013:Ext (fun b=>b=c.pb) h h13:=((x09.trans y10).ct hx12 (fun i hi q=>by have:=iY (Eq.symm q);omega)).ct x13 (fun i hi q=>by omega);have hp13:p8 c h13 s3:=(hp10.ext hx12 (fun b hb q=>by have:=iY (Eq.symm q);omega)).ext x13 (fun b hb q=>by omega);refine xp rfl (aj.aE H.bN H.aY rfl (k13).row (by first|rfl|(simp;done)|(simp;omega))) ?_;refine RW.bB rfl rfl rfl (az.au H.aY rfl rfl (q13) (by first|rfl|(simp;done)|(simp;omega)) (by first|decide|exact of_decide_eq_true rfl|(simp;done)|(simp;omega)) (kr)) ?_;rintro _ hz ⟨rfl,kz,xz,zz⟩;refine xd [0,1,4,5,7,23] rfl ?_;refine G.br func88 rfl (.cons (aI.bp H.bN H.aY rfl (kz.row) (by first|rfl|(simp;done)|(simp;omega))) (.nil)) ?_;exact⟨_,rfl,ck hp x013 hp13 (fq.shut hs13) (fun q=>by rw[ht6 (cx hq9 (fh hw q)),ht10 q]) xz⟩
theorem A0 (ih:∀m,m<=n->yL m):Ct 130 [] .fn (n+1):=by
 intro c h s t s' hp hm;have hpl:=hp.lt;obtain⟨o1,o2⟩:=hp.old;rw[pM] at hm;refine ah.of func130 rfl rfl ?_;refine xr func130 rfl ?_;refine xo rfl (az.aQ H.fL) ?_;rintro _ h1 ⟨rfl,k1,e1,z1⟩;refine xd [0,2] rfl ?_;refine bl func130 1 rfl ?_;refine xo rfl (aq (vs:=[_]) func127 rfl H.Ir rfl (ah.bq (qK (hp.ax e1)))) ?_;rintro _ h2 ⟨rfl,hp2,x2⟩;refine xp rfl (aG (H.kE _ _) rfl) ?_;refine xo rfl (az.aQ H.fL) ?_;rintro _ h3 ⟨rfl,k3,e3,z3⟩;refine RW.bB rfl rfl rfl (az.au H.aY rfl rfl k3 (by first|rfl|(simp;done)|(simp;omega)) (by first|decide|exact of_decide_eq_true rfl|(simp;done)|(simp;omega)) (by first|decide|simp[Value.oneCell'])) ?_;rintro _ h4 ⟨rfl,k4,x4,z4⟩;have z2:=x2.size;have hp4:=(hp2.ax e3).ext x4 (fun b hb q=>by omega);have x04:Ext (fun b=>b=c.pb) h h4:=((e1.of.trans x2).trans e3.of).ct x4 (fun i hi q=>by omega);have q4:=((k1.ext x2 (show ¬h.size=c.pb by omega)).ax e3).ext x4 (show ¬h.size=h2.size by omega);refine xd [0,2,3] rfl ?_;refine av rfl ?_;refine bl func130 1 rfl ?_;refine xo rfl (az.bg (us:=[_]) underlying87 H.rO rfl rfl (by decide) (by simp[Value.oneCell'])) ?_;rintro _ w5 ⟨rfl,hw5⟩;have y5:aC h4 w5:=by rw[hw5];exact Ext.push _ _ _
 have ts5:bX ny w5 (fun _=>False) (.slice (some ⟨Array.size h4,0,none⟩) 1 1) [[44]]:=by rw[hw5];exact cg _ [[44]] _ rfl (by simp[maxLen]) rfl
 refine xo rfl (aq (vs:=[_,_,_]) func43 rfl H.iZ rfl (ah.bq (b9 ((hp4).ax y5) 6 ts5))) ?_;rintro _ h5 ⟨rfl,hp5,x5⟩;have x5:=y5.of.trans x5
 rcases hq5:dL 6 [[44]] (dV c.e s).2 with ⟨o5,s5⟩
 rw[hq5] at hp5 hm;have z5:=x5.size;have k5:=k4.ext x5 (show ¬h2.size=c.pb by omega);have q5:=q4.ext x5 (show ¬h.size=c.pb by omega);have x05:=x04.trans x5
 rcases o5 with _|v5
 · simp only at hm;obtain⟨v,s1,hv,hm⟩:=aX hm;obtain⟨rfl,rfl⟩:Tr.mk 8 (dV c.e s).1 [v]=t/\s1=s':=by cases hm;exact⟨rfl,rfl⟩
   refine aN 5 [0,2,3,5] rfl ?_;refine bf func130 1 [0,2,3,5,15] rfl ?_;refine aJ rfl rfl (fun hc=>absurd hc (by simp)) (fun _=>?_);refine aB rfl ?_;refine bl func130 1 rfl ?_;refine xo rfl (aq (vs:=[_,_,_]) func128 rfl H.vU rfl (ah.bq (gk hp5 6 [45,62]))) ?_;rintro _ hb ⟨hpb,xb⟩;have zb:=xb.size;refine xd [0,2,3,5,15] rfl ?_;refine bl func130 1 rfl ?_;refine xo rfl (aq (vs:=[_]) func89 rfl H.Bn rfl (ah.bq ((ih n (Nat.le_refl _)).expr _ _ _ _ _ hpb hv))) ?_;rintro r6 h6 ⟨y6,hp6,t6,hn6,ht6⟩;have z6:=y6.size;obtain⟨nk,nt,na,nn,nc,rfl,hr6⟩:=hn6.get;refine xo rfl (az.cE (cs:=[_,_,_]) underlying23 H.kZ rfl rfl (by decide)) ?_;rintro _ h7 ⟨rfl,hh7⟩;have e7:aC h6 h7:=by rw[hh7];exact Ext.push _ _ _
   have z7:h7.size=h6.size+1:=by rw[hh7];simp
   have hs7:bX eN h7 (fun b=>b<Array.size hb) (.slice (some ⟨h6.size,0,none⟩) 1 1) [t6]:=by rw[hh7];exact me hr6 (by omega)
   refine xp rfl (af (off:=2) underlying25 rfl rfl H.eX rfl) ?_;refine RW.bB rfl rfl rfl (az.bA H.eX rfl rfl (((k5.ext xb (show ¬h2.size=c.pb by omega)).ext y6 (show ¬h2.size=c.pb by omega)).ax e7) (by first|decide|exact of_decide_eq_true rfl|(simp;done)|(simp;omega)) rfl) ?_;rintro _ h8 ⟨rfl,k8,x8,z8⟩;have k8:bh h8 h2.size 25 [.int .i64 8,.string (bs (dV c.e s).1),.slice (some ⟨h6.size,0,none⟩) 1 1]:=k8;refine xd [0,2,3,5,15] rfl ?_;refine xr func130 rfl ?_;refine xp rfl (aj.aE H.bN H.aY rfl (k8).row (by first|rfl|(simp;done)|(simp;omega))) ?_;refine RW.bB rfl rfl rfl (az.au H.aY rfl rfl ((((q5.ext xb (show ¬h.size=c.pb by omega)).ext y6 (show ¬h.size=c.pb by omega)).ax e7).ext x8 (show ¬h.size=h2.size by omega)) (by first|rfl|(simp;done)|(simp;omega)) (by first|decide|exact of_decide_eq_true rfl|(simp;done)|(simp;omega)) (kr)) ?_;rintro _ hz ⟨rfl,kz,xz,zz⟩;refine xd [0,2,3,5,15] rfl ?_;refine G.br func130 rfl (.cons (aI.bp H.bN H.aY rfl (kz.row) (by first|rfl|(simp;done)|(simp;omega))) (.nil)) ?_;exact⟨_,rfl,ck hp ((((x05.trans xb).trans y6).trans e7.of).ct x8 (fun i hi q=>by omega)) ((hp6.ax e7).ext x8 (fun b hb q=>by omega)) (fq.shut (hs7.mv (Mv.cY x8 fun b hb q=>⟨fun q2=>q (by omega),fun q2=>q (by omega)⟩))) (fun q=>by rw[ht6 q]) xz⟩
 · simp only at hm;obtain⟨v,s1,hv,hm⟩:=aX hm;obtain⟨rfl,rfl⟩:Tr.mk 8 (dV c.e s).1 [v]=t/\s1=s':=by cases hm;exact⟨rfl,rfl⟩
   refine aN 5 [0,2,3,5] rfl ?_;refine bf func130 1 [0,2,3,5,15] rfl ?_;refine aJ rfl rfl (fun _=>?_) (fun hc=>absurd hc (by simp));refine bl func130 1 rfl ?_;refine xo rfl (aq (vs:=[_]) func130 rfl H.Ip rfl (ah.bq ((ih n (Nat.le_refl _)).fn _ _ _ _ _ hp5 hv))) ?_;rintro r6 h6 ⟨y6,hp6,t6,hn6,ht6⟩;have z6:=y6.size;obtain⟨nk,nt,na,nn,nc,rfl,hr6⟩:=hn6.get;refine xo rfl (az.cE (cs:=[_,_,_]) underlying23 H.kZ rfl rfl (by decide)) ?_;rintro _ h7 ⟨rfl,hh7⟩;have e7:aC h6 h7:=by rw[hh7];exact Ext.push _ _ _
   have z7:h7.size=h6.size+1:=by rw[hh7];simp
   have hs7:bX eN h7 (fun b=>b<Array.size h5) (.slice (some ⟨h6.size,0,none⟩) 1 1) [t6]:=by rw[hh7];exact me hr6 (by omega)
   refine xp rfl (af (off:=2) underlying25 rfl rfl H.eX rfl) ?_;refine RW.bB rfl rfl rfl (az.bA H.eX rfl rfl ((k5.ext y6 (show ¬h2.size=c.pb by omega)).ax e7) (by first|decide|exact of_decide_eq_true rfl|(simp;done)|(simp;omega)) rfl) ?_;rintro _ h8 ⟨rfl,k8,x8,z8⟩;have k8:bh h8 h2.size 25 [.int .i64 8,.string (bs (dV c.e s).1),.slice (some ⟨h6.size,0,none⟩) 1 1]:=k8;refine xd [0,2,3,5,15] rfl ?_;refine xr func130 rfl ?_;refine xp rfl (aj.aE H.bN H.aY rfl (k8).row (by first|rfl|(simp;done)|(simp;omega))) ?_;refine RW.bB rfl rfl rfl (az.au H.aY rfl rfl (((q5.ext y6 (show ¬h.size=c.pb by omega)).ax e7).ext x8 (show ¬h.size=h2.size by omega)) (by first|rfl|(simp;done)|(simp;omega)) (by first|decide|exact of_decide_eq_true rfl|(simp;done)|(simp;omega)) (kr)) ?_;rintro _ hz ⟨rfl,kz,xz,zz⟩;refine xd [0,2,3,5,15] rfl ?_;refine G.br func130 rfl (.cons (aI.bp H.bN H.aY rfl (kz.row) (by first|rfl|(simp;done)|(simp;omega))) (.nil)) ?_;exact⟨_,rfl,ck hp (((x05.trans y6).trans e7.of).ct x8 (fun i hi q=>by omega)) ((hp6.ax e7).ext x8 (fun b hb q=>by omega)) (fq.shut (hs7.mv (Mv.cY x8 fun b hb q=>⟨fun q2=>q (by omega),fun q2=>q (by omega)⟩))) (fun q=>by rw[ht6 q]) xz⟩
theorem fT {va vb:Value}{a b:Tr}(op:By) (hO:∀b,O b->b<h.size) (ha:fq h O va a) (hb:fq h O vb b) :
 ah Tryz.prog 163 #[.string (bs op),va,vb] h (cM fun r h'=>fq h' O r (.mk 5 op [a,b])/\aC h h'):=by
 obtain⟨k1,t1,a1,n1,c1,rfl,hr1⟩:=ha.get;obtain⟨k2,t2,a2,n2,c2,rfl,hr2⟩:=hb.get;refine ah.of func163 rfl rfl ?_;refine xr func163 rfl ?_;refine xo rfl (az.eR rfl) ?_;rintro _ h1 ⟨rfl,b1,e1,z1⟩;refine xo rfl (az.eR rfl) ?_;rintro _ h2 ⟨rfl,b2,e2,z2⟩;refine xo rfl (az.aQ H.fL) ?_;rintro _ h3 ⟨rfl,b3,e3,z3⟩;have b13:bh h3 h.size 25 [.int .i64 k1,.string (bs t1),.slice a1 n1 c1]:=(b1.ax e2).ax e3;have b23:bh h3 h1.size 25 [.int .i64 k2,.string (bs t2),.slice a2 n2 c2]:=b2.ax e3;have e03:=(e1.trans e2).trans e3;refine xd [0,1,2,4,5,6] rfl ?_;refine bl func163 1 rfl ?_;refine xp rfl (aj.aE H.bN H.aY rfl b13.row (by first|rfl|(simp;done)|(simp;omega))) ?_;refine xp rfl (aj.aE H.bN H.aY rfl b23.row (by first|rfl|(simp;done)|(simp;omega))) ?_;refine xo rfl (az.ng underlying23 H.kZ ([[.int .i64 k1,.string (bs t1),.slice a1 n1 c1],[.int .i64 k2,.string (bs t2),.slice a2 n2 c2]]) rfl rfl (by decide) (by simp<;>repeat' (first|rfl|constructor))) ?_;rintro _ h4 ⟨rfl,hh4⟩;have e4:aC h3 h4:=by rw[hh4];exact Ext.push _ _ _
 have g1:=e1.size;have g2:=e2.size;have m3:Mv O (fun x=>O x\/h.size<=x) h h3:=⟨e03.size,fun x hx q=>⟨e03.block x hx (fun k=>k),fun q2=>by rcases q2 with q2|q2;exact q q2;omega⟩⟩
 have hs4:dx eN (fun x=>O x\/h.size<=x) h4 h3.size 25 (.slice (some ⟨h3.size,0,none⟩) 2 2) [a,b]:=by
  rw[hh4];exact s7 (eN.mv hr1 m3) (eN.mv hr2 m3) (Nat.le_refl _)
 refine xp rfl (aG (H.lu _ _ _ _ _) rfl) ?_;refine RW.bB rfl rfl rfl (az.au H.aY rfl rfl (b3.ax e4) (by first|rfl|(simp;done)|(simp;omega)) (by first|decide|exact of_decide_eq_true rfl|(simp;done)|(simp;omega)) (kr)) ?_;rintro _ h5 ⟨rfl,b5,x5,z5⟩;refine xd [0,1,2,4,5,6] rfl ?_;refine G.br func163 rfl (.cons (aI.bp H.bN H.aY rfl (b5.row) (by first|rfl|(simp;done)|(simp;omega))) (.nil)) ?_
 have hs4':bX eN h4 (fun x=>O x\/x=h2.size) (.slice (some ⟨h3.size,0,none⟩) 2 2) [a,b]:=hs4.read (fun x hx q=>by
  rcases q with q|q
  · have:=hO x q;omega
  · omega) (fun x hx q=>by
  rcases q with q|q
  · exact .inl q
  · exact .inr (by omega))
 exact⟨_,rfl,fq.shut (hs4'.mv (Mv.cY x5 fun x hx q=>⟨fun q2=>q (.inr q2),fun q2=>q (.inl q2)⟩)),aC.only (e03.trans e4) x5 (by omega)⟩
end
end Go.Proofs.YtmehdcdbeafljaaGreatDoor

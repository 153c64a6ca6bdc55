/- What the proof of the statement leans on (part 24). -/
import Derived.Lib.ParseIntB
import Derived.Lib.Bytealg
import Derived.Lib.ConvBytes
import Derived.Lib.AtoiErrMem
import Derived.Laws.Runes
import Derived.Test.YtdgckfkoihcmjaaGreatDoorQw

namespace Go.Proofs.YtdgckfkoihcmjaaGreatDoor
open Go Go.Lw
section
variable {h:aj}{O:Nat->Prop}{k n:Int}{s f:By}{b:Nat}{v:Value}
inductive Vl where
  |mk (k n:Int) (s self:By) (body:Tr) (env:List (By×Vl))
def Vl.kind:Vl->Int|.mk k _ _ _ _ _=>k
def Vl.num:Vl->Int|.mk _ n _ _ _ _=>n
def Vl.fO:Vl->By|.mk _ _ s _ _ _=>s
def Vl.self:Vl->By|.mk _ _ _ f _ _=>f
def Vl.body:Vl->Tr|.mk _ _ _ _ b _=>b
def Vl.env:Vl->List (By×Vl)|.mk _ _ _ _ _ e=>e
abbrev Bd:=By×Vl
def cj:Tr:=.mk 0 [] []
def gp:Vl:=.mk 0 0 [] [] cj []
def fT (n:Int):Vl:=.mk 1 n [] [] cj []
def dF (b:Bool):Vl:=.mk 2 (if b then 1 else 0) [] [] cj []
def IB (s:By):Vl:=.mk 3 0 s [] cj []
def dZ (t:By):List Bd->Vl×Int
  | []=>(gp,4)
  |b::r=>if (dZ t r).2=0 then dZ t r else if b.1=t then (b.2,0) else (gp,4)
def mG (v:Vl) (name:By):Vl:=if v.kind=4/\v.self=[] then .mk v.kind v.num v.fO name v.body v.env else v
def fE (op:By) (way:Int):Vl×Int :=
  if op=[61,61] then (dF (decide (way=0)),0) else if op=[33,61] then (dF (decide (¬way=0)),0)
  else if op=[60] then (dF (decide (way<0)),0) else if op=[60,61] then (dF (decide (way<=0)),0)
  else if op=[62] then (dF (decide (0<way)),0) else if op=[62,61] then (dF (decide (0<=way)),0) else (gp,2)
def wrap64 (n:Int):Int:=IntKind.i64.wrap n
def bJ (op:By) (a b:Int):Vl×Int :=
  if op=[43] then (let c:=wrap64 (a+b);if decide (c>a)=decide (b>0) then (fT c,0) else (gp,2))
  else if op=[45] then (let c:=wrap64 (a-b);if decide (c<a)=decide (b>0) then (fT c,0) else (gp,2))
  else if op=[42] then (let c:=wrap64 (a*b);if a=0\/wrap64 (c.tdiv a)=b/\(a≠ -1\/b≠ -9223372036854775808) then (fT c,0) else (gp,2))
  else if op=[47]\/op=[37] then (if b=0\/a= -9223372036854775808/\b= -1 then (gp,2) else (fT (if op=[37] then a.tmod b else wrap64 (a.tdiv b)),0))
  else fE op (if a<b then -1 else if a=b then 0 else 1)
def Iz (op:By) (v:Vl):Vl×Int :=
  if op=nM/\v.kind=2 then (dF (decide (v.num=0)),0) else if op=[45]/\v.kind=1/\v.num≠ -9223372036854775808 then (fT (wrap64 (0-v.num)),0) else (gp,2)
def gQ (op:By) (a b:Vl):Vl×Int :=
  if a.kind≠b.kind\/a.kind=4 then (gp,2)
  else if a.kind=1 then bJ op a.num b.num
  else if a.kind=3/\op=[43] then (if 1000<a.fO.length+b.fO.length then (gp,3) else (IB (a.fO++b.fO),0))
  else if a.kind=3 then fE op (Lib.compareBytes a.fO b.fO)
  else if op=[61,61] then (dF (decide (a.num=b.num)),0)
  else if op=[33,61] then (dF (decide (¬a.num=b.num)),0)
  else (gp,2)
abbrev Out:=Vl×Int×Nat
abbrev Ev:=Nat->List Bd->Tr->Out
def kD (ev:Ev):Nat->List Bd->List Tr->Vl->Out
  |m,_,[],v=>(v,0,m)
  |m,env,n::r,_=>match ev m env n with
    |(v,e,m')=>if e≠0 then (gp,e,m') else
      if n.kind=7/\n.kids.length=1 then kD ev m' (env++[(n.text,mG v n.text)]) r (mG v n.text) else kD ev m' env r v
def I0 (ev:Ev) (m:Nat) (env:List Bd) (t:By) (l:List Tr):Out:=match ev m env (l.getD 0 cj) with
  |(v,e,m')=>if e≠0\/l.length=1 then (v,e,m') else ev m' (env++[(t,mG v t)]) (l.getD 1 cj)
def Nw (ev:Ev) (m:Nat) (env:List Bd) (l:List Tr):Out:=match ev m env (l.getD 0 cj) with
  |(v,e,m')=>if e≠0 then (gp,e,m') else if v.kind≠2 then (gp,2,m') else if v.num≠0 then ev m' env (l.getD 1 cj) else ev m' env (l.getD 2 cj)
def DK (ev:Ev) (m:Nat) (env:List Bd) (l:List Tr):Out:=match ev m env (l.getD 0 cj) with
  |(f,e,m1)=>if e≠0 then (gp,e,m1) else match ev m1 env (l.getD 1 cj) with
    |(x,e,m2)=>if e≠0 then (gp,e,m2) else if f.kind≠4 then (gp,2,m2) else if bQ aS f.body=false then (gp,10,m2) else
      ev m2 ((if f.self≠[] then f.env++[(f.self,f)] else f.env)++[(f.fO,x)]) f.body
def Kv (ev:Ev) (m:Nat) (env:List Bd) (t:By) (l:List Tr):Out:=match ev m env (l.getD 0 cj) with
  |(v,e,m')=>if e≠0 then (gp,e,m') else ((Iz t v).1,(Iz t v).2,m')
def D3 (ev:Ev) (m:Nat) (env:List Bd) (t:By) (l:List Tr):Out:=match ev m env (l.getD 0 cj) with
  |(a,e,m1)=>if e≠0 then (gp,e,m1) else
    if t=l9\/t=jb then (if a.kind≠2 then (gp,2,m1) else if decide (a.num≠0)=decide (t=l9) then (a,0,m1) else match ev m1 env (l.getD 1 cj) with
      |(b,e,m2)=>if e=0/\b.kind≠2 then (gp,2,m2) else (b,e,m2))
    else match ev m1 env (l.getD 1 cj) with
      |(b,e,m2)=>if e≠0 then (gp,e,m2) else ((gQ t a b).1,(gQ t a b).2,m2)
def bp:Nat->Ev
  | 0,m,_,_=>(gp,60,m)
  |d+1,m,env,.mk k t l=>match m with
    | 0=>(gp,60,0)
    |m+1 =>
      if k=0 then (match Lib.parseIntB 64 t with|.ok v=>(fT v,0,m)|_=>(gp,2,m))
      else if k=1 then (if 1000<t.length then (gp,3,m) else (IB t,0,m))
      else if k=2 then (dF (decide (t=iq)),0,m)
      else if k=3 then ((dZ t env).1,(dZ t env).2,m)
      else if k=8 then (.mk 4 0 t [] (l.getD 0 cj) env,0,m)
      else if k=10 then kD (bp d) m env l gp
      else if k=7 then I0 (bp d) m env t l
      else if k=6 then Nw (bp d) m env l
      else if k=9 then DK (bp d) m env l
      else if k=4 then Kv (bp d) m env t l
      else D3 (bp d) m env t l
def vU:Nat->aj->(Nat->Prop)->List Value->Vl->Prop
  | 0,_,_,_,_=>False
  |d+1,h,O,cs,v=>∃nk nt nv oa n c,cs=[.int .i64 v.kind,.int .i64 v.num,.string (bs v.fO),.string (bs v.self),nk,nt,nv,.slice oa n c]/\eN.R h O [nk,nt,nv] v.body/\v.env.length=n/\n<=c/\c<=maxLen /\
      ∀i y,v.env[i]? =some y->∃b o cs',oa=some ⟨b,o,none⟩/\¬O b/\Lw.rowAt h b (o+i*9) (.string (bs y.1)::cs')/\vU d h O cs' y.2
theorem FJ:∀{d:Nat}{h:aj}{O:Nat->Prop}{cs:List Value}{x:Vl},vU d h O cs x->cs.length=8
  | 0,_,_,_,_,k=>k.elim
  |_+1,_,_,_,_,⟨_,_,_,_,_,_,hc,_⟩=>by rw[hc];rfl
theorem FI:∀{d:Nat}{h:aj}{O:Nat->Prop}{cs:List Value}{x:Vl},vU d h O cs x->∀v∈cs,v.oneCell'=true
  | 0,_,_,_,_,k=>k.elim
  |_+1,_,_,_,_,⟨nk,nt,nv,_,_,_,hc,hn,_⟩=>by
    have h3:=eN.one hn;intro v hv;rw[hc] at hv;simp only[List.mem_cons,List.not_mem_nil,or_false] at hv
    rcases hv with rfl|rfl|rfl|rfl|rfl|rfl|rfl|rfl<;>first|rfl|exact h3 _ (by simp)
theorem Dh:∀{d:Nat}{h h':aj}{O O':Nat->Prop}{cs:List Value}{x:Vl},vU d h O cs x->Mv O O' h h'->vU d h' O' cs x
  | 0,_,_,_,_,_,_,k,_=>k.elim
  |d+1,h,h',O,O',cs,x,⟨nk,nt,nv,oa,n,c,hc,hb,hl,hn,hm,hk⟩,m=>by
    refine⟨nk,nt,nv,oa,n,c,hc,eN.mv hb m,hl,hn,hm,fun i y hy=>?_⟩;obtain⟨b,o,cs',h1,h2,h3,h4⟩:=hk i y hy;exact⟨b,o,cs',h1,(m.block b (cS h3 (by simp)) h2).2,m.rowAt h2 h3,Dh h4 m⟩
theorem xV:∀{d d':Nat}{h:aj}{O:Nat->Prop}{cs:List Value}{x:Vl},vU d h O cs x->d<=d'->vU d' h O cs x
  | 0,_,_,_,_,_,k,_=>k.elim
  |d+1,0,_,_,_,_,_,hd=>by omega
  |d+1,d'+1,h,O,cs,x,⟨nk,nt,nv,oa,n,c,hc,hb,hl,hn,hm,hk⟩,hd=>by
    refine⟨nk,nt,nv,oa,n,c,hc,hb,hl,hn,hm,fun i y hy=>?_⟩;obtain⟨b,o,cs',h1,h2,h3,h4⟩:=hk i y hy;exact⟨b,o,cs',h1,h2,h3,xV h4 (by omega)⟩
def eV:gD Vl where
  sz:=8
  pos:=by decide
  R:=fun h O cs x=>∃d,vU d h O cs x
  len:=fun⟨_,k⟩=>FJ k
  one:=fun⟨_,k⟩=>FI k
  mv:=fun⟨d,k⟩ m=>⟨d,Dh k m⟩
def eB:gD Bd where
  sz:=9
  pos:=by decide
  R:=fun h O cs y=>∃cs',cs= .string (bs y.1)::cs'/\eV.R h O cs' y.2
  len:=fun⟨_,h,k⟩=>by rw[h,List.length_cons,eV.len k];rfl
  one:=fun⟨_,h,k⟩ v hv=>by
    rw[h] at hv
    rcases List.mem_cons.1 hv with rfl|hv
    · rfl
    · exact eV.one k v hv
  mv:=fun⟨c,h,k⟩ m=>⟨c,h,eV.mv k m⟩
theorem DE {cs:List Value}{x:Vl}(q:eV.R h O cs x) :
    ∃nk nt nv v,cs=[.int .i64 x.kind,.int .i64 x.num,.string (bs x.fO),.string (bs x.self),nk,nt,nv,v]/\eN.R h O [nk,nt,nv] x.body/\aY eB h O v x.env:=by
  obtain⟨d,q⟩:=q;cases d with
  |zero=>exact q.elim
  |succ d =>
    obtain⟨nk,nt,nv,oa,n,c,hc,hb,hl,hn,hm,hk⟩:=q;refine⟨nk,nt,nv,_,hc,hb,oa,n,c,rfl,hl,hn,hm,fun i y hy=>?_⟩;obtain⟨b,o,cs',h1,h2,h3,h4⟩:=hk i y hy;exact⟨b,o,_,h1,h2,h3,cs',rfl,d,h4⟩
theorem qg {b:Tr}{e:List Bd}{nk nt nv:Value}(hb:eN.R h O [nk,nt,nv] b) (q:aY eB h O v e) :
    eV.R h O [.int .i64 k,.int .i64 n,.string (bs s),.string (bs f),nk,nt,nv,v] (.mk k n s f b e):=by
  obtain⟨oa,m,c,rfl,hl,hn,hm,hk⟩:=q
  have:∃d,∀i y,e[i]? =some y->∃b o cs,oa=some ⟨b,o,none⟩/\¬O b/\Lw.rowAt h b (o+i*9) (.string (bs y.1)::cs)/\vU d h O cs y.2:=by
    have key:∀j:Nat,∃d,∀i y,i<j->e[i]? =some y->∃b o cs,oa=some ⟨b,o,none⟩/\¬O b/\Lw.rowAt h b (o+i*9) (.string (bs y.1)::cs)/\vU d h O cs y.2:=by
      intro j
      induction j with
      |zero=>exact⟨0,fun i y hi=>by omega⟩
      |succ j ih =>
        obtain⟨d,hd⟩:=ih;cases hj:e[j]? with
        |none =>
          refine⟨d,fun i y hi hy=>hd i y ?_ hy⟩
          rcases Nat.lt_or_ge i j with q|q
          · exact q
          · have:i=j:=by omega
            subst this;rw[hj] at hy;cases hy
        |some z =>
          obtain⟨b,o,_,h1,h2,h3,cs,rfl,d2,h4⟩:=hk j z hj;refine⟨max d d2,fun i y hi hy=>?_⟩
          rcases Nat.lt_or_ge i j with q|q
          · obtain⟨b',o',cs',g1,g2,g3,g4⟩:=hd i y q hy;exact⟨b',o',cs',g1,g2,g3,xV g4 (by omega)⟩
          · have:i=j:=by omega
            subst this;rw[hj] at hy;cases hy;exact⟨b,o,cs,h1,h2,h3,xV h4 (by omega)⟩
    obtain⟨d,hd⟩:=key e.length;exact⟨d,fun i y hy=>hd i y (List.getElem?_eq_some_iff.1 hy).1 hy⟩
  obtain⟨d,hd⟩:=this;exact⟨d+1,nk,nt,nv,oa,m,c,rfl,hb,hl,hn,hm,hd⟩
def cG (h:aj) (O:Nat->Prop) (v:Value) (x:Vl):Prop:=∃cs,v= .agg cs.toArray/\eV.R h O cs x
theorem cG.get {x:Vl}(q:cG h O v x) :
    ∃nk nt a n c ea en ec,v= .agg #[.int .i64 x.kind,.int .i64 x.num,.string (bs x.fO),.string (bs x.self),.int .i64 nk,.string (bs nt),.slice a n c,.slice ea en ec]/\eN.R h O [.int .i64 nk,.string (bs nt),.slice a n c] x.body /\
      eV.R h O [.int .i64 x.kind,.int .i64 x.num,.string (bs x.fO),.string (bs x.self),.int .i64 nk,.string (bs nt),.slice a n c,.slice ea en ec] x/\aY eB h O (.slice ea en ec) x.env:=by
  obtain⟨cs,rfl,q⟩:=q;obtain⟨nk,nt,nv,v,rfl,hb,he⟩:=DE q;obtain⟨k,t,l,hx⟩:∃k t l,x.body= .mk k t l:=by cases x.body with|mk k t l=>exact⟨k,t,l,rfl⟩
  have hb':=hb;rw[hx] at hb';obtain⟨w,hw,hl⟩:=iR hb';simp only[List.cons.injEq,and_true] at hw;obtain⟨rfl,rfl,rfl⟩:=hw;obtain⟨a,n,c,rfl,_⟩:=hl.open;obtain⟨ea,en,ec,rfl,_⟩:=he.open;exact⟨k,t,a,n,c,ea,en,ec,rfl,hb,q,he⟩
theorem cG.of {cs:List Value}{x:Vl}(q:eV.R h O cs x):cG h O (.agg cs.toArray) x:=⟨cs,rfl,q⟩
theorem KR (h:aj) (O:Nat->Prop):eN.R h O [.int .i64 0,.string (bs []),.slice none 0 0] cj:=jU (aY.nil _ _ _)
theorem yW (h:aj) (O:Nat->Prop) (k n:Int) (s f:By):eV.R h O [.int .i64 k,.int .i64 n,.string (bs s),.string (bs f),.int .i64 0,.string (bs []),.slice none 0 0,.slice none 0 0] (.mk k n s f cj []):=qg (KR h O) (aY.nil _ _ _)
theorem KN {b:Tr}{e:List Bd}{nk nt nv:Value}(q:eV.R h O [.int .i64 k,.int .i64 n,.string (bs s),.string (bs f),nk,nt,nv,v] (.mk k n s f b e)) (g:By) :
    eV.R h O [.int .i64 k,.int .i64 n,.string (bs s),.string (bs g),nk,nt,nv,v] (.mk k n s g b e):=by
  obtain⟨nk',nt',nv',v',hc,hb,he⟩:=DE q;simp only[List.cons.injEq,and_true] at hc;obtain⟨_,_,_,_,rfl,rfl,rfl,rfl⟩:=hc;exact qg hb he
def Im:Nat->Nat->Vl->Prop
  | 0,_,_=>True
  |d+1,b,x=>x.fO.length<=1000000/\x.body.wt<=1000000/\x.env.length<=b/\∀p∈x.env,Im d b p.2
def okV (b:Nat) (x:Vl):Prop:=∀d,Im d b x
def vZ (b:Nat) (l:List Bd):Prop:=l.length<=b/\∀p∈l,okV b p.2
theorem GA {b b':Nat}(hb:b<=b'):∀{d:Nat}{x:Vl},Im d b x->Im d b' x
  | 0,_,_=>trivial
  |d+1,_,⟨h1,h2,h3,h4⟩=>⟨h1,h2,Nat.le_trans h3 hb,fun p hp=>GA hb (h4 p hp)⟩
theorem okV.le {b':Nat}{x:Vl}(h:okV b x) (hb:b<=b'):okV b' x:=fun d=>GA hb (h d)
theorem vZ.le {b b':Nat}{l:List Bd}(h:vZ b l) (hb:b<=b'):vZ b' l:=⟨Nat.le_trans h.1 hb,fun p hp=>(h.2 p hp).le hb⟩
theorem Cu {t:Tr}{e:List Bd}(hs:s.length<=1000000) (ht:t.wt<=1000000) (he:vZ b e):okV b (.mk k n s f t e)
  | 0=>trivial
  |d+1=>⟨hs,ht,he.1,fun p hp=>he.2 p hp d⟩
theorem okV.get {x:Vl}(h:okV b x):x.fO.length<=1000000/\x.body.wt<=1000000/\vZ b x.env :=
  ⟨(h 1).1,(h 1).2.1,(h 1).2.2.1,fun p hp d=>(h (d+1)).2.2.2 p hp⟩
theorem vZ.nil (b:Nat):vZ b []:=⟨Nat.zero_le _,fun _ h=>by cases h⟩
theorem kL (b:Nat) (k n:Int) (f:By) (hs:s.length<=1000000):okV b (.mk k n s f cj []):=Cu hs (by decide) (vZ.nil b)
theorem nB {x:Vl}(h:okV b x) (t:By):okV b (mG x t):=by
  obtain⟨h1,h2,h3⟩:=h.get;unfold mG;split
  · exact Cu h1 h2 h3
  · exact h
end
end Go.Proofs.YtdgckfkoihcmjaaGreatDoor
namespace Go.Proofs.YtdgckfkoihcmjaaGreatDoor
open Go.Proofs.Tryz
open Go Go.Lw
set_option maxRecDepth 20000 set_option maxHeartbeats 4000000
section
variable {n:Nat}{h:aj}{O:Nat->Prop}{v:Value}{ts:List By}{T:TypeId}{eU:gD Un}{s s':PS}{t:Tr}{e k:Int}
theorem bw (h:aj) (ts:List By) (T:TypeId) (hn:ts.length=n) (hm:n<=maxLen){us:List Value}(hu:us=ts.map wj):aY nG (h.push (.cells us.toArray T)) (fun _=>False) (.slice (some ⟨h.size,0,none⟩) n n) ts :=
 cn.read (h1:=fun _=>rfl) (kW wj h T ts n hn hm 0 (Nat.zero_le _) hu) (fun _ _ k=>k)
theorem yR (hv:aY nG h O v ts) (s:By) :
 av Tryz.prog 115 #[v,.string (bs s)] h (bq fun r h'=>(∃i:Int,r= .int .i64 i/\decide (0<=i)=decide (s∈ts))/\h'=h):=by
 obtain⟨va,vn,vc,rfl,hvs⟩:=hv.open;have hvl:ts.length=vn:=hvs.len;subst hvl;have hvm:=hvs.cap;have hvc:=hvs.le;simp only[maxLen] at hvm;refine bP ?_;refine af ?_;refine gJ (σ:=Nat) (fun i=>[(8,.int .i64 (i:Nat))]) (fun i h'=>h'=h/\i<=ts.length/\s∉ts.take i) (fun i=>ts.length-i) (0) ⟨rfl,Nat.zero_le _,by simp⟩ rfl ?_;rintro i g ⟨rfl,hi,hin⟩ ih;refine af ?_;refine aP (fun hlt=>?_) (fun hlt=>?_)
 · have hil:i<ts.length:=by omega
   obtain⟨b,o,x,ha,_,hx,hc⟩:=hvs.at hil
   iterate 4 refine aR ?_
   refine de ?_
   iterate 2 refine aZ ?_
   refine cV ?_;refine aR ?_;refine de ?_
   iterate 3 refine aZ ?_
   refine xp rfl (cK rfl rfl i rfl ha) ?_;refine xp rfl (az rfl hc) ?_;refine af ?_;refine aP (fun he=>?_) (fun he=>?_)
   · have he:s=x:=aI he;refine af ?_;refine bh ?_;exact⟨_,rfl,⟨i,rfl,by rw[decide_eq_true (by omega),decide_eq_true (by rw[he];exact List.mem_of_getElem? hx)]⟩,rfl⟩
   · refine af ?_;exact ih (i+1) ⟨rfl,by omega,by rw[List.take_add_one,hx,List.mem_append,not_or];exact⟨hin,by simpa using fun q=>he (by rw[q])⟩⟩
 · refine af ?_;refine bh ?_;have hil:i=ts.length:=by omega
   rw[hil,List.take_length] at hin;exact⟨_,rfl,⟨-1,rfl,by rw[decide_eq_false hin];rfl⟩,rfl⟩
theorem oK (hv:aY nG h O v ts) (s:By) :
 av Tryz.prog 76 #[v,.string (bs s)] h (bq fun r h'=>r= .bool (decide (s∈ts))/\h'=h):=by
 refine bP ?_;refine af ?_;refine xo rfl (aF rfl (yR hv s)) ?_;rintro _ h ⟨⟨i,rfl,hi⟩,rfl⟩;refine af ?_;refine bh ?_;exact⟨_,rfl,by rw[hi];rfl,rfl⟩
def qP (u:Un):List Value:=[.int .i64 u.1,.string (bs u.2.1),.int .i64 u.2.2]
theorem xW (u:Un):∀v∈qP u,v.oneCell'=true:=fun v hv=>by simp[qP] at hv;rcases hv with rfl|rfl|rfl<;>rfl
abbrev OR:gD Un:=.record 3 (by decide) qP (fun _=>rfl) xW
def OT (us:List Un) (i:Nat) (b:Bool) (m:Int):PS->Prop
 |.ok r=>b=false/\r=us.drop i
 |.bad k=>b=true/\m=k
structure PC where
 pb:Nat
 lv:Value
 n0:Nat
 us:List Un
 e:Int
def C8 (T:TypeId) (eU:gD Un) (c:PC) (h:aj) (s:PS):Prop :=
 ∃i b m,aC h c.pb T [c.lv,.int .i64 (i:Nat),.int .i64 c.e,.bool b,.int .i64 m]/\aY eU h (fun x=>x=c.pb\/c.n0<=x) c.lv c.us/\i<=c.us.length/\OT c.us i b m s/\c.pb<c.n0/\c.n0<=h.size/\c.us.length<=1000
theorem C8.ext {T:TypeId}{eU:gD Un}{c:PC}{h h':aj}{s:PS}{M:Nat->Prop}(k:C8 T eU c h s) (x:Ext M h h') (hM:∀b,b<c.n0->¬M b):C8 T eU c h' s:=by
 obtain⟨i,b,m,hk,hl,hi,hs,hp,hn⟩:=k;exact⟨i,b,m,hk.ext x (hM _ hp),hl.mv (Mv.cg x fun b _ ho=>⟨hM b (by omega),ho⟩),hi,hs,hp,Nat.le_trans hn.1 x.size,hn.2⟩
theorem C8.ah {c:PC}{h':aj}(k:C8 T eU c h s) (x:aq h h'):C8 T eU c h' s:=k.ext x (fun _ _ k=>k)
theorem C8.lt {T:TypeId}{eU:gD Un}{c:PC}{h:aj}{s:PS}(k:C8 T eU c h s):c.pb<h.size:=by
 obtain⟨i,b,m,hk,_⟩:=k;exact hk.lt
theorem C8.old {c:PC}(k:C8 T eU c h s):c.pb<c.n0/\c.n0<=h.size:=by
 obtain⟨i,b,m,_,_,_,_,h1,h2⟩:=k;exact⟨h1,h2.1⟩
theorem C8.short {c:PC}(k:C8 T eU c h s):c.us.length<=1000/\s.len<=c.us.length:=by
 obtain⟨i,b,m,_,_,_,hs,_,h2⟩:=k;refine⟨h2.2,?_⟩;cases s with
 |bad q=>exact Nat.zero_le _
 |ok r=>obtain⟨_,rfl⟩:=hs;simp[PS.len]
abbrev qw:=C8 100 OR
theorem FN {oa:Option Addr}{c:Nat}{us:List Un}{i:Nat}{u:Un}{r:List Un}(_:Sl eU h O oa n c us) (hi:u::r=us.drop i):us[i]? =some u/\i<us.length/\r=us.drop (i+1):=by
 have h0:(us.drop i)[0]? =some u:=by rw[<-hi];rfl
 rw[List.getElem?_drop,Nat.add_zero] at h0;refine⟨h0,(List.getElem?_eq_some_iff.1 h0).1,?_⟩;rw[<-List.tail_drop,<-hi];rfl
theorem Cb {us:List Un}{i:Nat}(hi:[]=us.drop i) (hl:i<=us.length):i=us.length:=by
 have:=List.drop_eq_nil_iff.1 hi.symm;omega
abbrev ptr (b:Nat):Value:=.pointer (some ⟨b,0,none⟩)
abbrev Pz (o:Option By):Value:=packed [.string (bs (o.getD [])),.bool o.isSome]
theorem bu {c:PC}(hp:qw c h s) (k:Int){tv:Value}(ht:aY nG h O tv ts) :
 av Tryz.prog 32 #[ptr c.pb,.int .i64 k,tv] h (bq fun r h'=>r=Pz (cY k ts s).1/\qw c h' (cY k ts s).2/\Ext (fun b=>b=c.pb) h h'):=by
 obtain⟨pb,lv,n0,us,e⟩:=c;obtain⟨i,b,m,hk,hl,hi,hs,hpn,hn0⟩:=id hp;dsimp only at hk hl hi hs hpn hn0 ⊢;obtain⟨la,ln,lc,rfl,hls⟩:=hl.open;have hln:us.length=ln:=hls.len;subst hln;have hlm:=hls.cap;have hlc:=hls.le;simp only[maxLen] at hlm;cases s with
 |bad q =>
  obtain⟨rfl,rfl⟩:=hs;refine bP ?_;refine aR ?_;refine de ?_
  iterate 2 refine aZ ?_
  refine cV ?_
  iterate 2 refine aR ?_
  refine FE ?_
  iterate 3 refine BX ?_
  refine eO rfl (az rfl (hk.cell (i:=3) rfl)) ?_;refine BX ?_;refine RQ.ck (d:=12) (b':=true) rfl (rfl) ?_;refine af ?_;refine eu rfl (by simp) ?_;refine af ?_;refine bh ?_;exact⟨_,rfl,rfl,hp,Ext.refl _ _⟩
  |ok r =>
  obtain⟨rfl,hr⟩:=hs;cases r with
  |nil =>
   have hie:=Cb hr hi;refine bP ?_;refine aR ?_;refine de ?_
   iterate 2 refine aZ ?_
   refine cV ?_
   iterate 2 refine aR ?_
   refine FE ?_;refine af ?_;refine eO rfl (az rfl (hk.cell (i:=3) rfl)) ?_;refine af ?_;refine RQ.ck (d:=12) (b':=false) rfl (rfl) ?_;refine af ?_;refine eO rfl (az rfl (hk.cell (i:=1) rfl)) ?_;refine af ?_;refine eO rfl (az rfl (hk.cell (i:=0) rfl)) ?_;refine af ?_;refine RQ.ck (d:=24) (b':=true) rfl (decide_eq_true ((by omega))) ?_;refine af ?_;refine eu rfl (by simp) ?_;refine af ?_;refine bh ?_;exact⟨_,rfl,rfl,hp,Ext.refl _ _⟩
   |cons u r =>
   obtain⟨hu,hil,hr'⟩:=FN hls hr;obtain⟨b1,o1,u',hua,hub,hu',hrow⟩:=hls.Az hil;rw[hu] at hu';cases hu';have c0:=hrow 0 _ rfl;have c1:=hrow 1 _ rfl;refine bP ?_;refine aR ?_;refine de ?_
   iterate 2 refine aZ ?_
   refine cV ?_
   iterate 2 refine aR ?_
   refine FE ?_;refine af ?_;refine eO rfl (az rfl (hk.cell (i:=3) rfl)) ?_;refine af ?_;refine RQ.ck (d:=12) (b':=false) rfl (rfl) ?_;refine af ?_;refine eO rfl (az rfl (hk.cell (i:=1) rfl)) ?_;refine af ?_;refine eO rfl (az rfl (hk.cell (i:=0) rfl)) ?_;refine af ?_;refine RQ.ck (d:=24) (b':=false) rfl (decide_eq_false ((by omega))) ?_;refine af ?_;refine eO rfl (az rfl (hk.cell (i:=0) rfl)) ?_;refine af ?_;refine eO rfl (az rfl (hk.cell (i:=1) rfl)) ?_;refine eO rfl (cK rfl rfl i rfl hua) ?_;refine af ?_;refine eO rfl (az rfl c0) ?_;refine af ?_;refine OY 39 (fun hkk=>?_) (fun hkk=>?_)
   · have hkk:=of_decide_eq_true hkk;refine af ?_;refine eu rfl (by simp[hkk]) ?_;refine af ?_;refine bh ?_;have hno:cY k ts (.ok (u::r))=(none,.ok (u::r)):=by rw[mN,if_neg (fun q=>hkk (by rw[q.1]))]
     exact⟨_,rfl,by rw[hno];rfl,by rw[hno];exact hp,Ext.refl _ _⟩
   · have hkk:=of_decide_eq_false hkk;have hkk:u.1=k:=by simpa using hkk
     refine af ?_;refine eO rfl (az rfl (hk.cell (i:=0) rfl)) ?_;refine af ?_;refine eO rfl (az rfl (hk.cell (i:=1) rfl)) ?_;refine eO rfl (cK rfl rfl i rfl hua) ?_;refine af ?_;refine eO rfl (az rfl c1) ?_;refine OL (oK ht u.2.1) ?_;refine af ?_;refine fF (fun hin=>?_) (fun hin=>?_)
     · have hin:u.2.1∉ts:=by simpa using hin
       refine af ?_;refine bh ?_;have hno:cY k ts (.ok (u::r))=(none,.ok (u::r)):=by rw[mN,if_neg (fun q=>hin q.2)]
       exact⟨_,rfl,by rw[hno];rfl,by rw[hno];exact hp,Ext.refl _ _⟩
     · have hin:u.2.1∈ts:=by simpa using hin
       refine af ?_;refine xp rfl (az rfl (hk.cell (i:=1) rfl)) ?_;refine af ?_;refine aH rfl (kY rfl rfl hk) ?_;rintro _ h1 ⟨rfl,k1,x1,z1⟩;refine af ?_;have hls1:=hls.mv (Mv.cg x1 fun b _ ho=>⟨fun q=>ho (.inl q),ho⟩);obtain⟨b2,o2,u2,hua2,hub2,hu2,hrow2⟩:=hls1.Az hil;rw[hu] at hu2;cases hu2;refine eO rfl (az rfl (k1.cell (i:=0) rfl)) ?_;refine af ?_;refine eO rfl (az rfl (k1.cell (i:=1) rfl)) ?_;refine BX ?_;refine eO rfl (cK rfl rfl i (by omega) hua2) ?_;refine af ?_;refine eO rfl (az rfl (hrow2 1 _ rfl)) ?_;refine af ?_;refine bh ?_;have hyes:cY k ts (.ok (u::r))=(some u.2.1,.ok r):=by rw[mN,if_pos ⟨hkk,hin⟩]
       refine⟨_,rfl,by rw[hyes];rfl,?_,x1⟩;rw[hyes];exact⟨i+1,false,m,k1,hls1.shut,hil,⟨rfl,hr'⟩,hpn,by have:=x1.size;dsimp only;omega⟩
abbrev OO:Value:=.agg #[.int .i64 0,.string (bs []),.slice none 0 0]
theorem dR {c:PC}(hp:qw c h s) :
 av Tryz.prog 33 #[ptr c.pb] h (bq fun r h'=>r=OO/\qw c h' (cZ c.e s)/\Ext (fun b=>b=c.pb) h h'):=by
 obtain⟨pb,lv,n0,us,e⟩:=c;obtain⟨i,b,m,hk,hl,hi,hs,hpn,hn0⟩:=id hp;dsimp only at hk hl hi hs hpn hn0 ⊢;obtain⟨la,ln,lc,rfl,hls⟩:=hl.open;have hln:us.length=ln:=hls.len;subst hln;have hlm:=hls.cap;have hlc:=hls.le;simp only[maxLen] at hlm;have hpl:=hk.lt;cases s with
 |bad q =>
  obtain⟨rfl,rfl⟩:=hs;refine bP ?_;refine af ?_;refine xo rfl (cm) ?_;rintro _ h1 ⟨rfl,k1,e1,z1⟩;refine af ?_;refine xp rfl (az rfl ((hk.ah e1).cell (i:=3) rfl)) ?_;refine af ?_;refine eC rfl (by simp) ?_;refine af ?_;refine xp rfl (au (H.HP ) rfl) ?_;refine aH rfl (aK rfl rfl k1) ?_;rintro _ h2 ⟨rfl,k2,x2,z2⟩;refine af ?_;refine bF (br rfl k2.row bE) ?_;exact⟨_,rfl,rfl,(hp.ah e1).ext x2 (fun y (hy:y<n0) q=>by omega),e1.of.aW x2 (fun y _ q=>by omega)⟩
  |ok r =>
  obtain⟨rfl,hr⟩:=hs;refine bP ?_;refine af ?_;refine xo rfl (cm) ?_;rintro _ h1 ⟨rfl,k1,e1,z1⟩;refine af ?_;refine xp rfl (az rfl ((hk.ah e1).cell (i:=3) rfl)) ?_;refine af ?_;have hk1:=hk.ah e1;refine eu rfl (by simp) ?_;refine af ?_;refine xp rfl (az rfl (hk1.cell (i:=2) rfl)) ?_;refine af ?_;refine aH rfl (kY rfl rfl hk1) ?_;rintro _ h2 ⟨rfl,k2,x2,z2⟩;refine af ?_;refine aH rfl (kY rfl rfl k2) ?_;rintro _ h3 ⟨rfl,k3,x3,z3⟩;refine af ?_;have x13:=x2.trans x3;have hls3:=(hls.mv (Mv.ah e1)).mv (Mv.cg x13 fun b _ ho=>⟨fun q=>ho (.inl q),ho⟩);have k13:=k1.ext x13 (show ¬h.size=pb by omega);refine eO rfl (az rfl (k3.cell (i:=1) rfl)) ?_;refine af ?_;refine eO rfl (az rfl (k3.cell (i:=0) rfl)) ?_;refine af ?_;refine aP (fun hlt=>?_) (fun hlt=>?_)
  · have hil:i<us.length:=by omega
    obtain⟨b1,o1,u,hua,hub,hu,hrow⟩:=hls3.Az hil;refine Ij 15 14 ?_;refine aG 0 ?_;refine aG 1 ?_;refine aG 2 ?_;refine aG 3 ?_;refine bC 4 rfl (fun h' e=>az rfl (e.old (k3.cell (i:=0) rfl))) ?_;refine aG 5 ?_;refine aG 6 ?_;refine aG 7 ?_;refine bC 8 rfl (fun h' e=>az rfl (e.old (k3.cell (i:=1) rfl))) ?_;refine bC 9 rfl (fun h' e=>cK rfl rfl i rfl hua) ?_;refine aG 10 ?_;refine bC 11 rfl (fun h' e=>az rfl (e.old (hrow 2 _ rfl))) ?_;refine Iu 12 ?_;refine aG 13 ?_;refine iA 14 rfl (kY rfl rfl k3) ?_;rintro _ h4 ⟨rfl,k4,x4,z4⟩;refine⟨nofun,?_⟩;refine gV ?_;refine af ?_;refine xp rfl (au (H.HP ) rfl) ?_;refine aH rfl (aK rfl rfl ((k13.ext x4 (show ¬h.size=pb by omega)))) ?_;rintro _ h5 ⟨rfl,k5,x5,z5⟩;refine af ?_;refine bF (br rfl k5.row bE) ?_;have hr2:r=u::us.drop (i+1):=by rw[hr,List.drop_eq_getElem_cons hil];congr 1;rw[List.getElem?_eq_getElem hil] at hu;exact Option.some.inj hu
    subst hr2;have hls4:=hls3.mv (Mv.cg x4 fun b _ ho=>⟨fun q=>ho (.inl q),ho⟩);refine⟨_,rfl,rfl,C8.ext (c:=⟨pb,_,n0,us,e⟩) (M:=fun b=>b=h.size) ⟨i,true,u.2.2,k4,hls4.shut,hi,⟨rfl,rfl⟩,hpn,by dsimp only;omega⟩ x5 (fun y (hy:y<n0) q=>by omega),((e1.of.trans x13).trans x4).aW x5 (fun y _ q=>by omega)⟩
  · refine af ?_;refine xp rfl (au (H.HP ) rfl) ?_;refine aH rfl (aK rfl rfl k13) ?_;rintro _ h5 ⟨rfl,k5,x5,z5⟩;refine af ?_;refine bF (br rfl k5.row bE) ?_;have hil:i=us.length:=by omega
    have hr2:r=[]:=by rw[hr,hil,List.drop_length]
    subst hr2;refine⟨_,rfl,rfl,C8.ext (c:=⟨pb,_,n0,us,e⟩) (M:=fun b=>b=h.size) ⟨i,true,e,k3,hls3.shut,hi,⟨rfl,rfl⟩,hpn,by dsimp only;omega⟩ x5 (fun y (hy:y<n0) q=>by omega),(e1.of.trans x13).aW x5 (fun y _ q=>by omega)⟩
theorem gi {c:PC}(hp:qw c h s) (k:Int) (t:By) :
 av Tryz.prog 111 #[ptr c.pb,.int .i64 k,.string (bs t)] h (bq fun r h'=>qw c h' (dS c.e k t s)/\Ext (fun b=>b=c.pb) h h'):=by
 have hpl:=hp.lt;refine bP ?_;refine af ?_;refine xo rfl (jG [_]) ?_;rintro _ h1 ⟨rfl,hh1⟩;have e1:aq h h1:=by rw[hh1];exact Ext.push _ _ _
 have Mp:aY nG h1 (fun _=>False) (.slice (some ⟨h.size,0,none⟩) 1 1) [t]:=by rw[hh1];exact bw h [t] _ rfl (by simp[maxLen]) rfl
 refine xo rfl (aF rfl (bu (hp.ah e1) k Mp)) ?_;rintro _ h2 ⟨rfl,hp2,x2⟩;refine af ?_;refine fF (fun hq=>?_) (fun hq=>?_)
 · have hq:(cY k [t] s).1=none:=by simpa using hq
   have hm:dS c.e k t s=cZ c.e (cY k [t] s).2:=by unfold dS;rw[hq]
   refine af ?_;refine xo rfl (aF rfl (dR hp2)) ?_;rintro _ h3 ⟨rfl,hp3,x3⟩;refine af ?_;refine Ir ?_;exact⟨_,rfl,by rw[hm];exact hp3,e1.of.trans (x2.trans x3)⟩
 · refine af ?_;refine Ir ?_
   have hm:dS c.e k t s=(cY k [t] s).2:=by
    unfold dS;cases hs:(cY k [t] s).1 with
    |some x=>rfl
    |none=>rw[hs] at hq;simp at hq
   exact⟨_,rfl,by rw[hm];exact hp2,e1.of.trans x2⟩
theorem ri {c:PC}(hp:qw c h s) :
 av Tryz.prog 110 #[ptr c.pb] h (bq fun r h'=>r= .string (bs (dz c.e s).1)/\qw c h' (dz c.e s).2/\Ext (fun b=>b=c.pb) h h'):=by
 obtain⟨pb,lv,n0,us,e⟩:=c;obtain⟨i,b,m,hk,hl,hi,hs,hpn,hn0⟩:=id hp;dsimp only at hk hl hi hs hpn hn0 ⊢;obtain⟨la,ln,lc,rfl,hls⟩:=hl.open;have hln:us.length=ln:=hls.len;subst hln;have hlm:=hls.cap;have hlc:=hls.le;simp only[maxLen] at hlm;have hf:=dR hp;dsimp only at hf;cases s with
 |bad q =>
  obtain⟨rfl,rfl⟩:=hs;refine bP ?_;refine aR ?_;refine de ?_;refine aZ ?_;refine cV ?_
  iterate 2 refine aR ?_
  refine FE ?_
  iterate 3 refine BX ?_
  refine eO rfl (az rfl (hk.cell (i:=3) rfl)) ?_;refine BX ?_;refine RQ.ck (d:=7) (b':=true) rfl (rfl) ?_;refine af ?_;refine eu rfl (by simp) ?_;refine af ?_;refine xo rfl (aF rfl hf) ?_;rintro _ h2 ⟨rfl,hp2,x2⟩;refine af ?_;refine bh ?_;exact⟨_,rfl,rfl,hp2,x2⟩
  |ok r =>
  obtain⟨rfl,hr⟩:=hs;cases r with
  |nil =>
   have hie:=Cb hr hi;refine bP ?_;refine aR ?_;refine de ?_;refine aZ ?_;refine cV ?_
   iterate 2 refine aR ?_
   refine FE ?_
   iterate 3 refine BX ?_
   refine eO rfl (az rfl (hk.cell (i:=3) rfl)) ?_;refine af ?_;refine RQ.ck (d:=7) (b':=false) rfl (rfl) ?_;refine af ?_;refine eO rfl (az rfl (hk.cell (i:=1) rfl)) ?_;refine af ?_;refine eO rfl (az rfl (hk.cell (i:=0) rfl)) ?_;refine af ?_;refine RQ.ck (d:=19) (b':=true) rfl (decide_eq_true ((by omega))) ?_;refine af ?_;refine eu rfl (by simp) ?_;refine af ?_;refine xo rfl (aF rfl hf) ?_;rintro _ h2 ⟨rfl,hp2,x2⟩;refine af ?_;refine bh ?_;exact⟨_,rfl,rfl,hp2,x2⟩
   |cons u r =>
   obtain⟨hu,hil,hr'⟩:=FN hls hr;obtain⟨b1,o1,u',hua,hub,hu',hrow⟩:=hls.Az hil;rw[hu] at hu';cases hu';have c0:=hrow 0 _ rfl;refine bP ?_;refine aR ?_;refine de ?_;refine aZ ?_;refine cV ?_
   iterate 2 refine aR ?_
   refine FE ?_
   iterate 3 refine BX ?_
   refine eO rfl (az rfl (hk.cell (i:=3) rfl)) ?_;refine af ?_;refine RQ.ck (d:=7) (b':=false) rfl (rfl) ?_;refine af ?_;refine eO rfl (az rfl (hk.cell (i:=1) rfl)) ?_;refine af ?_;refine eO rfl (az rfl (hk.cell (i:=0) rfl)) ?_;refine af ?_;refine RQ.ck (d:=19) (b':=false) rfl (decide_eq_false ((by omega))) ?_;refine af ?_;refine eO rfl (az rfl (hk.cell (i:=0) rfl)) ?_;refine af ?_;refine eO rfl (az rfl (hk.cell (i:=1) rfl)) ?_;refine eO rfl (cK rfl rfl i rfl hua) ?_;refine af ?_;refine eO rfl (az rfl c0) ?_;refine af ?_;refine fF (fun hkk=>?_) (fun hkk=>?_)
   · have hkk:¬u.1=3:=by simpa using hkk
     refine af ?_;refine xo rfl (aF rfl hf) ?_;rintro _ h2 ⟨rfl,hp2,x2⟩;refine af ?_;refine bh ?_;have hno:dz e (.ok (u::r))=([],cZ e (.ok (u::r))):=by rw[oC,if_neg hkk]
     rw[hno];exact⟨_,rfl,rfl,hp2,x2⟩
   · have hkk:u.1=3:=by simpa using hkk
     refine af ?_;refine xp rfl (az rfl (hk.cell (i:=1) rfl)) ?_;refine af ?_;refine aH rfl (kY rfl rfl hk) ?_;rintro _ h1 ⟨rfl,k1,x1,z1⟩;refine af ?_;have hls1:=hls.mv (Mv.cg x1 fun b _ ho=>⟨fun q=>ho (.inl q),ho⟩);obtain⟨b2,o2,u2,hua2,hub2,hu2,hrow2⟩:=hls1.Az hil;rw[hu] at hu2;cases hu2;refine eO rfl (az rfl (k1.cell (i:=0) rfl)) ?_;refine af ?_;refine eO rfl (az rfl (k1.cell (i:=1) rfl)) ?_;refine BX ?_;refine eO rfl (cK rfl rfl i (by omega) hua2) ?_;refine af ?_;refine eO rfl (az rfl (hrow2 1 _ rfl)) ?_;refine af ?_;refine bh ?_;have hyes:dz e (.ok (u::r))=(u.2.1,.ok r):=by rw[oC,if_pos hkk]
     rw[hyes];exact⟨_,rfl,rfl,⟨i+1,false,m,k1,hls1.shut,hil,⟨rfl,hr'⟩,hpn,by have:=x1.size;dsimp only;omega⟩,x1⟩
def dL (c:PC) (h h':aj) (s':PS) (t:Tr) (r:Value):Prop :=
 Ext (fun b=>b=c.pb) h h'/\qw c h' s'/\∃t',cL h' (fun b=>b<h.size) r t'/\(s'.cJ=false->t'=t)
def Ct (f:FuncId) (ex:List Value) (j:Lv) (n:Nat):Prop :=
 ∀(c:PC) (h:aj) (s:PS) (t:Tr) (s':PS),qw c h s->pM c.e n j s=some (t,s')->av Tryz.prog f (ptr c.pb::ex).toArray h (bq fun r h'=>dL c h h' s' t r)
structure zM (n:Nat):Prop where
 stmt:Ct 31 [] .stmt n
 expr:Ct 75 [] .expr n
 lt:∀a,Ct 74 [.bool a] (.lt a) n
 choice:Ct 112 [] .choice n
 fn:Ct 113 [] .fn n
 block:Ct 145 [] .block n
 p0:Ct 114 [] (.part 0) n
 p1:Ct 146 [] (.part 1) n
 p2:Ct 169 [] (.part 2) n
 p3:Ct 182 [] (.part 3) n
 p4:Ct 195 [] (.part 4) n
 p5:Ct 201 [] (.part 5) n
 p6:Ct 203 [] (.part 6) n
 p7:Ct 205 [] (.part 7) n
 atom:Ct 206 [] .atom n
theorem dL.ret {c:PC}{g g2 g3:aj}{b2:Nat}{s0:PS}{r:Value}(k:dL c g g2 s' t r) (hp:qw c h s0) (x:Ext (fun b=>b=c.pb) h g) (x3:Ext (fun b=>b=b2) g2 g3) (h1:h.size<=b2) (h2:b2<g.size):dL c h g3 s' t r:=by
 obtain⟨e1,k1,t',k2,k3⟩:=k;obtain⟨o1,o2⟩:=hp.old;have:=x.size;have:=e1.size;exact⟨(x.trans e1).aW x3 (fun i hi q=>by omega),k1.ext x3 (fun b hb q=>by omega),t',k2.ext x3 (fun b hb q=>⟨fun q2=>q (by omega),fun q2=>q (by omega)⟩),k3⟩
theorem zO (ih:∀m,m<=n->zM m):Ct 31 [] .stmt (n+1):=by
 intro c h s t s' hp hm;have hpl:=hp.lt;rw[pM] at hm;refine bP ?_;refine af ?_;refine xo rfl (cm) ?_;rintro _ h1 ⟨rfl,k1,e1,z1⟩;refine af ?_;refine xo rfl (jG [_]) ?_;rintro _ w2 ⟨rfl,hw2⟩;have y2:aq h1 w2:=by rw[hw2];exact Ext.push _ _ _
 have ts2:aY nG w2 (fun _=>False) (.slice (some ⟨Array.size h1,0,none⟩) 1 1) [vX]:=by rw[hw2];exact bw _ [vX] _ rfl (by simp[maxLen]) rfl
 refine xo rfl (aF rfl (bu ((hp.ah e1).ah y2) 4 ts2)) ?_;rintro _ h2 ⟨rfl,hp2,x2⟩;have x2:=y2.of.trans x2
 rcases hq2:cY 4 [vX] s with ⟨o2,s2⟩
 rw[hq2] at hp2 hm;have k2:=k1.ext x2 (show ¬h.size=c.pb by omega);have x02:=e1.of.trans x2
 rcases o2 with _|v2
 · simp only at hm;refine af ?_;refine eC rfl (by simp) ?_;refine af ?_;refine xo rfl (aF rfl ((ih n (Nat.le_refl _)).expr _ _ _ _ _ hp2 hm)) ?_;rintro r9 g9 ⟨y9,hp9,t9,hn9,ht9⟩;have k9:=(k2).ext y9 (show ¬h.size=c.pb by omega);obtain⟨nk,nt,na,nn,nc,rfl,_⟩:=hn9.get;refine aH rfl (aK rfl rfl k9) ?_;rintro _ g10 ⟨rfl,k10,x10,z10⟩;refine af ?_;refine bF (br rfl k10.row bE) ?_;exact⟨_,rfl,dL.ret ⟨y9,hp9,t9,hn9,ht9⟩ hp (x02) x10 (Nat.le_refl _) (k2).lt⟩
 · simp only at hm;refine af ?_;refine eu rfl (by simp) ?_;refine af ?_;refine xo rfl (aF rfl ((ih n (Nat.le_refl _)).lt true _ _ _ _ _ hp2 hm)) ?_;rintro r9 g9 ⟨y9,hp9,t9,hn9,ht9⟩;have k9:=(k2).ext y9 (show ¬h.size=c.pb by omega);obtain⟨nk,nt,na,nn,nc,rfl,_⟩:=hn9.get;refine aH rfl (aK rfl rfl k9) ?_;rintro _ g10 ⟨rfl,k10,x10,z10⟩;refine af ?_;refine bF (br rfl k10.row bE) ?_;exact⟨_,rfl,dL.ret ⟨y9,hp9,t9,hn9,ht9⟩ hp (x02) x10 (Nat.le_refl _) (k2).lt⟩
theorem zP (ih:∀m,m<=n->zM m):Ct 75 [] .expr (n+1):=by
 intro c h s t s' hp hm;have hpl:=hp.lt;rw[pM] at hm;refine bP ?_;refine af ?_;refine xo rfl (cm) ?_;rintro _ h1 ⟨rfl,k1,e1,z1⟩;refine af ?_;refine xo rfl (jG [_]) ?_;rintro _ w2 ⟨rfl,hw2⟩;have y2:aq h1 w2:=by rw[hw2];exact Ext.push _ _ _
 have ts2:aY nG w2 (fun _=>False) (.slice (some ⟨Array.size h1,0,none⟩) 1 1) [vX]:=by rw[hw2];exact bw _ [vX] _ rfl (by simp[maxLen]) rfl
 refine xo rfl (aF rfl (bu ((hp.ah e1).ah y2) 4 ts2)) ?_;rintro _ h2 ⟨rfl,hp2,x2⟩;have x2:=y2.of.trans x2
 rcases hq2:cY 4 [vX] s with ⟨o2,s2⟩
 rw[hq2] at hp2 hm;have k2:=k1.ext x2 (show ¬h.size=c.pb by omega);have x02:=e1.of.trans x2
 rcases o2 with _|v2
 · simp only at hm;refine af ?_;refine eC rfl (by simp) ?_;refine af ?_;refine xo rfl (jG [_]) ?_;rintro _ w3 ⟨rfl,hw3⟩;have y3:aq h2 w3:=by rw[hw3];exact Ext.push _ _ _
   have ts3:aY nG w3 (fun _=>False) (.slice (some ⟨Array.size h2,0,none⟩) 1 1) [Il]:=by rw[hw3];exact bw _ [Il] _ rfl (by simp[maxLen]) rfl
   refine xo rfl (aF rfl (bu (hp2.ah y3) 4 ts3)) ?_;rintro _ h3 ⟨rfl,hp3,x3⟩;have x3:=y3.of.trans x3
   rcases hq3:cY 4 [Il] s2 with ⟨o3,s3⟩
   rw[hq3] at hp3 hm;have k3:=k2.ext x3 (show ¬h.size=c.pb by omega);have x03:=x02.trans x3
   rcases o3 with _|v3
   · simp only at hm;refine af ?_;refine eC rfl (by simp) ?_;refine af ?_;refine xo rfl (jG [_]) ?_;rintro _ w4 ⟨rfl,hw4⟩;have y4:aq h3 w4:=by rw[hw4];exact Ext.push _ _ _
     have ts4:aY nG w4 (fun _=>False) (.slice (some ⟨Array.size h3,0,none⟩) 1 1) [FT]:=by rw[hw4];exact bw _ [FT] _ rfl (by simp[maxLen]) rfl
     refine xo rfl (aF rfl (bu (hp3.ah y4) 4 ts4)) ?_;rintro _ h4 ⟨rfl,hp4,x4⟩;have x4:=y4.of.trans x4
     rcases hq4:cY 4 [FT] s3 with ⟨o4,s4⟩
     rw[hq4] at hp4 hm;have k4:=k3.ext x4 (show ¬h.size=c.pb by omega);have x04:=x03.trans x4
     rcases o4 with _|v4
     · simp only at hm;refine af ?_;refine eC rfl (by simp) ?_;refine af ?_;refine xo rfl (aF rfl ((ih n (Nat.le_refl _)).p0 _ _ _ _ _ hp4 hm)) ?_;rintro r9 g9 ⟨y9,hp9,t9,hn9,ht9⟩;have k9:=(k4).ext y9 (show ¬h.size=c.pb by omega);obtain⟨nk,nt,na,nn,nc,rfl,_⟩:=hn9.get;refine aH rfl (aK rfl rfl k9) ?_;rintro _ g10 ⟨rfl,k10,x10,z10⟩;refine af ?_;refine bF (br rfl k10.row bE) ?_;exact⟨_,rfl,dL.ret ⟨y9,hp9,t9,hn9,ht9⟩ hp (x04) x10 (Nat.le_refl _) (k4).lt⟩
     · simp only at hm;refine af ?_;refine eu rfl (by simp) ?_;refine af ?_;refine xo rfl (aF rfl ((ih n (Nat.le_refl _)).fn _ _ _ _ _ hp4 hm)) ?_;rintro r9 g9 ⟨y9,hp9,t9,hn9,ht9⟩;have k9:=(k4).ext y9 (show ¬h.size=c.pb by omega);obtain⟨nk,nt,na,nn,nc,rfl,_⟩:=hn9.get;refine aH rfl (aK rfl rfl k9) ?_;rintro _ g10 ⟨rfl,k10,x10,z10⟩;refine af ?_;refine bF (br rfl k10.row bE) ?_;exact⟨_,rfl,dL.ret ⟨y9,hp9,t9,hn9,ht9⟩ hp (x04) x10 (Nat.le_refl _) (k4).lt⟩
   · simp only at hm;refine af ?_;refine eu rfl (by simp) ?_;refine af ?_;refine xo rfl (aF rfl ((ih n (Nat.le_refl _)).choice _ _ _ _ _ hp3 hm)) ?_;rintro r9 g9 ⟨y9,hp9,t9,hn9,ht9⟩;have k9:=(k3).ext y9 (show ¬h.size=c.pb by omega);obtain⟨nk,nt,na,nn,nc,rfl,_⟩:=hn9.get;refine aH rfl (aK rfl rfl k9) ?_;rintro _ g10 ⟨rfl,k10,x10,z10⟩;refine af ?_;refine bF (br rfl k10.row bE) ?_;exact⟨_,rfl,dL.ret ⟨y9,hp9,t9,hn9,ht9⟩ hp (x03) x10 (Nat.le_refl _) (k3).lt⟩
 · simp only at hm;refine af ?_;refine eu rfl (by simp) ?_;refine af ?_;refine xo rfl (aF rfl ((ih n (Nat.le_refl _)).lt false _ _ _ _ _ hp2 hm)) ?_;rintro r9 g9 ⟨y9,hp9,t9,hn9,ht9⟩;have k9:=(k2).ext y9 (show ¬h.size=c.pb by omega);obtain⟨nk,nt,na,nn,nc,rfl,_⟩:=hn9.get;refine aH rfl (aK rfl rfl k9) ?_;rintro _ g10 ⟨rfl,k10,x10,z10⟩;refine af ?_;refine bF (br rfl k10.row bE) ?_;exact⟨_,rfl,dL.ret ⟨y9,hp9,t9,hn9,ht9⟩ hp (x02) x10 (Nat.le_refl _) (k2).lt⟩
theorem eF {j:Lv}(h:pM e n j s=some (t,s')) (hb:s'.cJ=false):s.cJ=false:=by
 cases s with
 |ok r=>rfl
 |bad m=>rw[Gv h] at hb;cases hb
theorem bK {o:Option By}(h:cY k ts s=(o,s')) (hb:s'.cJ=false):s.cJ=false:=by
 cases s with
 |ok r=>rfl
 |bad m=>rw[Je] at h;cases h;cases hb
theorem oO:(cZ e s).cJ=true:=by cases s<;>rfl
theorem oD {t:By}(hb:(dS e k t s).cJ=false):s.cJ=false:=by
 cases s with
 |ok r=>rfl
 |bad m=>cases hb
theorem bA {c:PC}{g g3:aj}{s0:PS}{t':Tr}(hp:qw c h s0) (x:Ext (fun b=>b=c.pb) h g) (k:qw c g s') (hn:cL g (fun b=>b<=h.size) v t') (ht:s'.cJ=false->t'=t) (x3:Ext (fun b=>b=h.size) g g3):dL c h g3 s' t v:=by
 obtain⟨o1,o2⟩:=hp.old;have:=x.size;exact⟨x.aW x3 (fun i hi q=>by omega),k.ext x3 (fun b hb q=>by omega),t',hn.ext x3 (fun b hb q=>⟨fun q2=>q (by omega),fun q2=>q (by omega)⟩),ht⟩
theorem jj {g c b:Nat}(h:(Value.slice (some ⟨g,0,none⟩) n c).ownBlock=some b):b=g:=(Option.some.inj h).symm
theorem jH {t:ByteArray}{a:Option Addr}{c:Nat}:∀v∈[Value.int .i64 k,.string t,.slice a n c],v.oneCell'=true:=fun v hv=>by simp at hv;rcases hv with rfl|rfl|rfl<;>rfl
theorem sL {base:Nat}{e:TypeId}{size:Nat}{xs:List Value}(k:aB h base e size v n xs):∃a m c,v= .slice a m c:=by
 rcases k.2 with ⟨rfl,_⟩|⟨g,cap,cur,rfl,_⟩
 · exact⟨_,_,_,rfl⟩
 · exact⟨_,_,_,rfl⟩
theorem B2 (ih:∀m,m<=n->zM m) (al:Bool):Ct 74 [.bool al] (.lt al) (n+1):=by
 intro c h s t s' hp hm;have hpl:=hp.lt;obtain⟨o1,o2⟩:=hp.old;rw[pM] at hm;obtain⟨v,s1,hv,hm⟩:=aD hm;refine bP ?_;refine af ?_;refine xo rfl (cm) ?_;rintro _ h1 ⟨rfl,k1,e1,z1⟩;refine af ?_;refine xo rfl (aF rfl (ri (hp.ah e1))) ?_;rintro _ h2 ⟨rfl,hp2,x2⟩;refine xp rfl (au (H.iz _ _) rfl) ?_;refine xo rfl (cm) ?_;rintro _ h3 ⟨rfl,k3,e3,z3⟩;refine aH rfl (aK rfl rfl k3) ?_;rintro _ h4 ⟨rfl,k4,x4,z4⟩;have z2:=x2.size;have hp4:=(hp2.ah e3).ext x4 (fun b hb q=>by omega);refine af ?_;refine xo rfl (aF rfl (gi hp4 6 [61])) ?_;rintro _ h5 ⟨hp5,x5⟩;have z5:=x5.size;refine af ?_;refine xo rfl (aF rfl ((ih n (Nat.le_refl _)).expr _ _ _ _ _ hp5 hv)) ?_;rintro r6 h6 ⟨y6,hp6,t6,hn6,ht6⟩;have z6:=y6.size;obtain⟨nk,nt,na,nn,nc,rfl,hr6⟩:=hn6.get;have k6:=(k4.ext x5 (show ¬h2.size=c.pb by omega)).ext y6 (show ¬h2.size=c.pb by omega);refine xo rfl (sH) ?_;rintro _ h7 ⟨rfl,hh7⟩;have e7:aq h6 h7:=by rw[hh7];exact Ext.push _ _ _
 have z7:h7.size=h6.size+1:=by rw[hh7];simp
 have ho7:cy eN (fun b=>b<h5.size) h7 h6.size 27 (.slice (some ⟨h6.size,0,none⟩) 1 1) [t6]:=by rw[hh7];exact cy.nY hr6 (Nat.le_refl _)
 refine af ?_;refine aH rfl (kY rfl rfl ((k6.ah e7))) ?_;rintro _ h8 ⟨rfl,k8,x8,z8⟩;have k8:aC h8 h2.size 27 [.int .i64 7,.string (bs (dz c.e s).1),.slice (some ⟨h6.size,0,none⟩) 1 1]:=k8;have ho8:cy eN (fun b=>b<h5.size) h8 h6.size 27 (.slice (some ⟨h6.size,0,none⟩) 1 1) [t6]:=ho7.oZ x8 (fun b q q2=>by have:=jj q;omega) (fun b hb q=>by omega) (fun _ _ q=>q);have hp8:=(hp6.ah e7).ext x8 (fun b hb q=>by omega);have x08:Ext (fun b=>b=c.pb) h h8:=((((((e1.of.trans x2).trans e3.of).aW x4 (fun i hi q=>by omega)).trans x5).trans y6).trans e7.of).aW x8 (fun i hi q=>by omega);have q8:=(((((((k1.ext x2 (show ¬h.size=c.pb by omega)).ah e3).ext x4 (show ¬h.size=h2.size by omega)).ext x5 (show ¬h.size=c.pb by omega)).ext y6 (show ¬h.size=c.pb by omega)).ah e7).ext x8 (show ¬h.size=h2.size by omega))
 refine af ?_;refine xo rfl (jG [_]) ?_;rintro _ w9 ⟨rfl,hw9⟩;have y9:aq h8 w9:=by rw[hw9];exact Ext.push _ _ _
 have ts9:aY nG w9 (fun _=>False) (.slice (some ⟨Array.size h8,0,none⟩) 1 1) [LL]:=by rw[hw9];exact bw _ [LL] _ rfl (by simp[maxLen]) rfl
 refine xo rfl (aF rfl (bu (hp8.ah y9) 4 ts9)) ?_;rintro _ h9 ⟨rfl,hp9,x9⟩;have x9:=y9.of.trans x9
 rcases hq9:cY 4 [LL] s1 with ⟨o9,s9⟩
 rw[hq9] at hp9 hm;have z9:=x9.size;have k9:=k8.ext x9 (show ¬h2.size=c.pb by omega);have q9:=q8.ext x9 (show ¬h.size=c.pb by omega);have x09:=x08.trans x9;have ho9:cy eN (fun b=>b<h5.size) h9 h6.size 27 (.slice (some ⟨h6.size,0,none⟩) 1 1) [t6]:=ho8.oZ x9 (fun b q q2=>by have:=jj q;omega) (fun b hb q=>by omega) (fun _ _ q=>q)
 rcases o9 with _|v9
 · simp only at hm;have e9:=dO hq9;have hs9:aY eN h9 (fun b=>b<=h.size) _ [t6]:=ho9.Dv (fun b q q2=>by have:=jj q;omega) (fun b hb q=>by omega);refine af ?_;refine eC rfl (by simp) ?_;refine af ?_;refine fF (fun ha=>?_) (fun ha=>?_)
   · have ha:al=false:=by simpa using ha
     subst ha;simp only[Bool.false_eq_true,if_false] at hm;obtain⟨rfl,rfl⟩:Tr.mk 7 (dz c.e s).1 [v]=t/\cZ c.e s9=s':=by cases hm;exact⟨rfl,rfl⟩
     refine af ?_;refine xo rfl (aF rfl (dR hp9)) ?_;rintro _ h10 ⟨rfl,hp10,x10⟩;refine af ?_;refine xp rfl (bV rfl (k9.ext x10 (show ¬h2.size=c.pb by omega)).row) ?_;refine aH rfl (aK rfl rfl ((q9.ext x10 (show ¬h.size=c.pb by omega))) jH) ?_;rintro _ hz ⟨rfl,kz,xz,zz⟩;refine af ?_;refine bF (br rfl kz.row bE) ?_;exact⟨_,rfl,bA hp (x09.trans x10) hp10 (cL.shut (hs9.mv (Mv.cg x10 fun b hb q=>⟨fun q2=>q (by omega),q⟩))) (fun q=>by rw[oO] at q;cases q) xz⟩
   · have ha:al=true:=by simpa using ha
     subst ha;simp only[if_true] at hm;obtain⟨rfl,rfl⟩:Tr.mk 7 (dz c.e s).1 [v]=t/\s9=s':=by cases hm;exact⟨rfl,rfl⟩
     refine af ?_;refine xp rfl (bV rfl k9.row) ?_;refine aH rfl (aK rfl rfl q9 jH) ?_;rintro _ hz ⟨rfl,kz,xz,zz⟩;refine af ?_;refine bF (br rfl kz.row bE) ?_;exact⟨_,rfl,bA hp x09 hp9 (cL.shut hs9) (fun q=>by rw[ht6 (bK hq9 q)]) xz⟩
 · simp only at hm;obtain⟨w,s3,hw,hm⟩:=aD hm;obtain⟨rfl,rfl⟩:Tr.mk 7 (dz c.e s).1 [v,w]=t/\s3=s':=by cases hm;exact⟨rfl,rfl⟩
   refine af ?_;refine eu rfl (by simp) ?_;refine kH 8 (fun b=>b=c.pb\/b=h6.size\/Array.size h9<=b) (fun i=>Nat.blt i 7) ?_;refine aG 0 ?_;refine bC 1 rfl (fun h' e=>az rfl (e.cell (by dsimp only;omega) (k9.cell (i:=2) rfl))) ?_;refine aG 2 ?_;refine cU 3 rfl (aF rfl ((ih n (Nat.le_refl _)).expr _ _ _ _ _ hp9 hw)) ?_;rintro r10 h10 ⟨y10,hp10,t10,hn10,ht10⟩;refine⟨fun _=>y10.mono (fun _ _ q=>.inl q),?_⟩;have z10:=y10.size;obtain⟨mk,mt,ma,mn,mc,rfl,hr10⟩:=hn10.get;have ho10:cy eN (fun b=>b<h5.size) h10 h6.size 27 (.slice (some ⟨h6.size,0,none⟩) 1 1) [t6]:=ho9.oZ y10 (fun b q q2=>by have:=jj q;omega) (fun b hb q=>by omega) (fun _ _ q=>q);obtain⟨css,hc1,hc2,hc3⟩:=id ho10;have hc2:aB h10 h6.size 27 3 (.slice (some ⟨h6.size,0,none⟩) 1 1) 1 css.flatten:=hc2;refine cU 4 rfl (sH) ?_;rintro _ _ ⟨rfl,rfl⟩;refine⟨fun _=>by first|exact Ext.push _ _ _|assumption,?_⟩;refine cU 5 rfl (wC rfl rfl hc2 rfl rfl) ?_;rintro v12 h12 ⟨ho12,hx12,hx12',hv12⟩;refine⟨fun _=>hx12'.mono (fun b _ q=>.inr (.inl (Option.some.inj q))),?_⟩;have k12:=(k9.ext y10 (show ¬h2.size=c.pb by omega)).ext hx12 (fun q=>by have:=jj (Eq.symm q);omega);obtain⟨va,vm,vc,rfl⟩:=sL ho12;refine aG 6 ?_;refine iA 7 rfl (kY rfl rfl k12) ?_;rintro _ h13 ⟨rfl,k13,x13,z13⟩;refine⟨nofun,?_⟩;refine gV ?_;refine af ?_;have k13:aC h13 h2.size 27 [.int .i64 7,.string (bs (dz c.e s).1),.slice va vm vc]:=k13;have z12:=hx12.size
   have hr10':eN.R h10 (fun b=>cu (Value.slice (some ⟨h6.size,0,none⟩) 1 1).ownBlock b\/b<h5.size) [.int .i64 mk,.string (bs mt),.slice ma mn mc] t10:=bH hr10 (Ext.refl (fun _=>False) _) (fun b hb q=>⟨fun k=>k,fun q2=>by
    rcases q2 with q2|q2
    · have:=jj (Eq.symm q2);omega
    · omega⟩)
   have ho12x:cy eN (fun b=>b<h5.size) h12 h6.size 27 (.slice va vm vc) [t6,t10]:=cy.fC hc1 hc3 ho12 hx12 hv12 hr10';have q13:=((q9.ext y10 (show ¬h.size=c.pb by omega)).ext hx12 (fun q=>by have:=jj (Eq.symm q);omega)).ext x13 (show ¬h.size=h2.size by omega);have hs13:aY eN h13 (fun b=>b<=h.size) (.slice va vm vc) [t6,t10]:=(ho12x.oZ x13 (fun b q q2=>by have:=(ho12.lt q).1;omega) (fun b hb q=>by omega) (fun _ _ q=>q)).read (fun b hb q=>by omega) (fun b hb q=>by omega);have x013:Ext (fun b=>b=c.pb) h h13:=((x09.trans y10).aW hx12 (fun i hi q=>by have:=jj (Eq.symm q);omega)).aW x13 (fun i hi q=>by omega);have hp13:qw c h13 s3:=(hp10.ext hx12 (fun b hb q=>by have:=jj (Eq.symm q);omega)).ext x13 (fun b hb q=>by omega);refine xp rfl (bV rfl k13.row) ?_;refine aH rfl (aK rfl rfl q13 jH) ?_;rintro _ hz ⟨rfl,kz,xz,zz⟩;refine af ?_;refine bF (br rfl kz.row bE) ?_;exact⟨_,rfl,bA hp x013 hp13 (cL.shut hs13) (fun q=>by rw[ht6 (bK hq9 (eF hw q)),ht10 q]) xz⟩
theorem B3 (ih:∀m,m<=n->zM m):Ct 113 [] .fn (n+1):=by
 intro c h s t s' hp hm;have hpl:=hp.lt;obtain⟨o1,o2⟩:=hp.old;rw[pM] at hm;refine bP ?_;refine af ?_;refine xo rfl (cm) ?_;rintro _ h1 ⟨rfl,k1,e1,z1⟩;refine af ?_;refine xo rfl (aF rfl (ri (hp.ah e1))) ?_;rintro _ h2 ⟨rfl,hp2,x2⟩;refine xp rfl (au (H.iz _ _) rfl) ?_;refine xo rfl (cm) ?_;rintro _ h3 ⟨rfl,k3,e3,z3⟩;refine aH rfl (aK rfl rfl k3) ?_;rintro _ h4 ⟨rfl,k4,x4,z4⟩;have z2:=x2.size;have hp4:=(hp2.ah e3).ext x4 (fun b hb q=>by omega);have x04:Ext (fun b=>b=c.pb) h h4:=((e1.of.trans x2).trans e3.of).aW x4 (fun i hi q=>by omega);have q4:=((k1.ext x2 (show ¬h.size=c.pb by omega)).ah e3).ext x4 (show ¬h.size=h2.size by omega);refine af ?_;refine xo rfl (jG [_]) ?_;rintro _ w5 ⟨rfl,hw5⟩;have y5:aq h4 w5:=by rw[hw5];exact Ext.push _ _ _
 have ts5:aY nG w5 (fun _=>False) (.slice (some ⟨Array.size h4,0,none⟩) 1 1) [[44]]:=by rw[hw5];exact bw _ [[44]] _ rfl (by simp[maxLen]) rfl
 refine xo rfl (aF rfl (bu (hp4.ah y5) 6 ts5)) ?_;rintro _ h5 ⟨rfl,hp5,x5⟩;have x5:=y5.of.trans x5
 rcases hq5:cY 6 [[44]] (dz c.e s).2 with ⟨o5,s5⟩
 rw[hq5] at hp5 hm;have z5:=x5.size;have k5:=k4.ext x5 (show ¬h2.size=c.pb by omega);have q5:=q4.ext x5 (show ¬h.size=c.pb by omega);have x05:=x04.trans x5
 rcases o5 with _|v5
 · simp only at hm;obtain⟨v,s1,hv,hm⟩:=aD hm;obtain⟨rfl,rfl⟩:Tr.mk 8 (dz c.e s).1 [v]=t/\s1=s':=by cases hm;exact⟨rfl,rfl⟩
   refine af ?_;refine eC rfl (by simp) ?_;refine af ?_;refine xo rfl (aF rfl (gi hp5 6 [45,62])) ?_;rintro _ hb ⟨hpb,xb⟩;have zb:=xb.size;refine af ?_;refine xo rfl (aF rfl ((ih n (Nat.le_refl _)).expr _ _ _ _ _ hpb hv)) ?_;rintro r6 h6 ⟨y6,hp6,t6,hn6,ht6⟩;have z6:=y6.size;obtain⟨nk,nt,na,nn,nc,rfl,hr6⟩:=hn6.get;refine xo rfl (sH) ?_;rintro _ h7 ⟨rfl,hh7⟩;have e7:aq h6 h7:=by rw[hh7];exact Ext.push _ _ _
   have z7:h7.size=h6.size+1:=by rw[hh7];simp
   have hs7:aY eN h7 (fun b=>b<Array.size hb) (.slice (some ⟨h6.size,0,none⟩) 1 1) [t6]:=by rw[hh7];exact mI hr6 (by omega)
   refine af ?_;refine aH rfl (kY rfl rfl ((((k5.ext xb (show ¬h2.size=c.pb by omega)).ext y6 (show ¬h2.size=c.pb by omega)).ah e7))) ?_;rintro _ h8 ⟨rfl,k8,x8,z8⟩;have k8:aC h8 h2.size 27 [.int .i64 8,.string (bs (dz c.e s).1),.slice (some ⟨h6.size,0,none⟩) 1 1]:=k8;refine af ?_;refine xp rfl (bV rfl k8.row) ?_;refine aH rfl (aK rfl rfl (((((q5.ext xb (show ¬h.size=c.pb by omega)).ext y6 (show ¬h.size=c.pb by omega)).ah e7).ext x8 (show ¬h.size=h2.size by omega))) jH) ?_;rintro _ hz ⟨rfl,kz,xz,zz⟩;refine af ?_;refine bF (br rfl kz.row bE) ?_;exact⟨_,rfl,bA hp ((((x05.trans xb).trans y6).trans e7.of).aW x8 (fun i hi q=>by omega)) ((hp6.ah e7).ext x8 (fun b hb q=>by omega)) (cL.shut (hs7.mv (Mv.cg x8 fun b hb q=>⟨fun q2=>q (by omega),fun q2=>q (by omega)⟩))) (fun q=>by rw[ht6 q]) xz⟩
 · simp only at hm;obtain⟨v,s1,hv,hm⟩:=aD hm;obtain⟨rfl,rfl⟩:Tr.mk 8 (dz c.e s).1 [v]=t/\s1=s':=by cases hm;exact⟨rfl,rfl⟩
   refine af ?_;refine eu rfl (by simp) ?_;refine af ?_;refine xo rfl (aF rfl ((ih n (Nat.le_refl _)).fn _ _ _ _ _ hp5 hv)) ?_;rintro r6 h6 ⟨y6,hp6,t6,hn6,ht6⟩;have z6:=y6.size;obtain⟨nk,nt,na,nn,nc,rfl,hr6⟩:=hn6.get;refine xo rfl (sH) ?_;rintro _ h7 ⟨rfl,hh7⟩;have e7:aq h6 h7:=by rw[hh7];exact Ext.push _ _ _
   have z7:h7.size=h6.size+1:=by rw[hh7];simp
   have hs7:aY eN h7 (fun b=>b<Array.size h5) (.slice (some ⟨h6.size,0,none⟩) 1 1) [t6]:=by rw[hh7];exact mI hr6 (by omega)
   refine af ?_;refine aH rfl (kY rfl rfl (((k5.ext y6 (show ¬h2.size=c.pb by omega)).ah e7))) ?_;rintro _ h8 ⟨rfl,k8,x8,z8⟩;have k8:aC h8 h2.size 27 [.int .i64 8,.string (bs (dz c.e s).1),.slice (some ⟨h6.size,0,none⟩) 1 1]:=k8;refine af ?_;refine xp rfl (bV rfl k8.row) ?_;refine aH rfl (aK rfl rfl ((((q5.ext y6 (show ¬h.size=c.pb by omega)).ah e7).ext x8 (show ¬h.size=h2.size by omega))) jH) ?_;rintro _ hz ⟨rfl,kz,xz,zz⟩;refine af ?_;refine bF (br rfl kz.row bE) ?_;exact⟨_,rfl,bA hp (((x05.trans y6).trans e7.of).aW x8 (fun i hi q=>by omega)) ((hp6.ah e7).ext x8 (fun b hb q=>by omega)) (cL.shut (hs7.mv (Mv.cg x8 fun b hb q=>⟨fun q2=>q (by omega),fun q2=>q (by omega)⟩))) (fun q=>by rw[ht6 q]) xz⟩
theorem fM {va vb:Value}{a b:Tr}(op:By) (hO:∀b,O b->b<h.size) (ha:cL h O va a) (hb:cL h O vb b) :
 av Tryz.prog 147 #[.string (bs op),va,vb] h (bq fun r h'=>cL h' O r (.mk 5 op [a,b])/\aq h h'):=by
 obtain⟨k1,t1,a1,n1,c1,rfl,hr1⟩:=ha.get;obtain⟨k2,t2,a2,n2,c2,rfl,hr2⟩:=hb.get;refine bP ?_;refine af ?_;refine xo rfl (iF) ?_;rintro _ h1 ⟨rfl,b1,e1,z1⟩;refine xo rfl (iF) ?_;rintro _ h2 ⟨rfl,b2,e2,z2⟩;refine xo rfl (cm) ?_;rintro _ h3 ⟨rfl,b3,e3,z3⟩;have b13:aC h3 h.size 27 [.int .i64 k1,.string (bs t1),.slice a1 n1 c1]:=(b1.ah e2).ah e3;have b23:aC h3 h1.size 27 [.int .i64 k2,.string (bs t2),.slice a2 n2 c2]:=b2.ah e3;have e03:=(e1.trans e2).trans e3;refine af ?_;refine xp rfl (bV rfl b13.row) ?_;refine xp rfl (bV rfl b23.row) ?_;refine xo rfl (aT.kR underlying25 H.Hw ([[.int .i64 k1,.string (bs t1),.slice a1 n1 c1],[.int .i64 k2,.string (bs t2),.slice a2 n2 c2]]) rfl rfl (by decide) (by simp<;>repeat' (first|rfl|constructor))) ?_;rintro _ h4 ⟨rfl,hh4⟩;have e4:aq h3 h4:=by rw[hh4];exact Ext.push _ _ _
 have g1:=e1.size;have g2:=e2.size;have m3:Mv O (fun x=>O x\/h.size<=x) h h3:=⟨e03.size,fun x hx q=>⟨e03.block x hx (fun k=>k),fun q2=>by rcases q2 with q2|q2;exact q q2;omega⟩⟩
 have hs4:cy eN (fun x=>O x\/h.size<=x) h4 h3.size 27 (.slice (some ⟨h3.size,0,none⟩) 2 2) [a,b]:=by
  rw[hh4];exact pQ (eN.mv hr1 m3) (eN.mv hr2 m3) (Nat.le_refl _)
 refine xp rfl (au (H.jA _ _ _ _ _) rfl) ?_;refine aH rfl (aK rfl rfl ((b3.ah e4)) jH) ?_;rintro _ h5 ⟨rfl,b5,x5,z5⟩;refine af ?_;refine bF (br rfl b5.row bE) ?_
 have hs4':aY eN h4 (fun x=>O x\/x=h2.size) (.slice (some ⟨h3.size,0,none⟩) 2 2) [a,b]:=hs4.read (fun x hx q=>by
  rcases q with q|q
  · have:=hO x q;omega
  · omega) (fun x hx q=>by
  rcases q with q|q
  · exact .inl q
  · exact .inr (by omega))
 exact⟨_,rfl,cL.shut (hs4'.mv (Mv.cg x5 fun x hx q=>⟨fun q2=>q (.inr q2),fun q2=>q (.inl q2)⟩)),aq.only (e03.trans e4) x5 (by omega)⟩
abbrev OP (k n:Int) (s f:By):List Value:=[.int .i64 k,.int .i64 n,.string (bs s),.string (bs f),.int .i64 0,.string (bs []),.slice none 0 0,.slice none 0 0]
abbrev Jf (k n:Int) (s:By):Value:=.agg #[.int .i64 k,.int .i64 n,.string (bs s),.string (bs []),.int .i64 0,.string (bs []),.slice none 0 0,.slice none 0 0]
theorem Bf (h:aj) (O:Nat->Prop) (k n:Int) (s:By):cG h O (Jf k n s) (.mk k n s [] cj []):=cG.of (yW h O k n s [])
abbrev iG (k n:Int) (s f:By) (nk:Int) (nt:By) (a:Option Addr) (m c:Nat) (ea:Option Addr) (en ec:Nat):List Value:=[.int .i64 k,.int .i64 n,.string (bs s),.string (bs f),.int .i64 nk,.string (bs nt),.slice a m c,.slice ea en ec]
theorem dX {n:Int}{s f:By}{nk:Int}{nt:By}{a:Option Addr}{m c:Nat}{ea:Option Addr}{en ec:Nat}:∀v∈iG k n s f nk nt a m c ea en ec,v.oneCell'=true:=by
 intro v hv;simp only[List.mem_cons,List.not_mem_nil,or_false] at hv
 rcases hv with rfl|rfl|rfl|rfl|rfl|rfl|rfl|rfl<;>rfl
theorem cQ (b:Bool):av Tryz.prog 39 #[.bool b] h (bq fun r h'=>r=Jf 2 (if b then 1 else 0) []/\aq h h'):=by
 refine bP ?_;refine af ?_;refine xo rfl (cm) ?_;rintro _ h1 ⟨rfl,k1,e1,z1⟩;refine af ?_;refine fF (fun hb=>?_) (fun hb=>?_)
 · refine af ?_;refine xp rfl (au (H.iy _ _) rfl) ?_;refine aH rfl (aK rfl rfl k1) ?_;rintro _ h2 ⟨rfl,k2,x2,z2⟩;refine af ?_;refine bF (br rfl k2.row bE) ?_;exact⟨_,rfl,by rw[hb];rfl,aq.only e1 x2 (Nat.le_refl _)⟩
 · refine af ?_;refine xp rfl (au (H.K9 _) rfl) ?_;refine aH rfl (aK rfl rfl k1) ?_;rintro _ h2 ⟨rfl,k2,x2,z2⟩;refine af ?_;refine bF (br rfl k2.row bE) ?_;exact⟨_,rfl,by rw[hb];rfl,aq.only e1 x2 (Nat.le_refl _)⟩
theorem nS (h:aj) (O:Nat->Prop) (b:Bool):cG h O (Jf 2 (if b then 1 else 0) []) (dF b):=Bf h O _ _ _
theorem gE (h:aj) (O:Nat->Prop):cG h O (Jf 0 0 []) gp:=Bf h O _ _ _
theorem tO (h:aj) (O:Nat->Prop) (n:Int):cG h O (Jf 1 n []) (fT n):=Bf h O _ _ _
theorem J1 (h:aj) (O:Nat->Prop) (s:By):cG h O (Jf 3 0 s) (IB s):=Bf h O _ _ _
theorem lN {xs:List Bd}(hv:aY eB h O v xs) (hx:xs.length<=1000000) :
 av Tryz.prog 41 #[v] h (bq fun r h'=>cy eB O h' h.size 32 r xs/\aq h h'):=by
 obtain⟨va,vn,vc,rfl,hvs⟩:=hv.open;have hl:xs.length=vn:=hvs.len;subst hl;refine bP ?_;refine aR ?_;refine de ?_;refine aZ ?_;refine cV ?_
 iterate 2 refine aR ?_
 refine de ?_;refine aZ ?_;refine xp rfl (ay.Jl underlying28 rfl rfl) ?_;refine af ?_;refine fF (fun hn=>?_) (fun hn=>?_)
 · refine af ?_;refine bh ?_
   have hx0:xs=[]:=by
    have hva:va=none:=by simpa using hn
    rcases xs with _|⟨x,xs⟩
    · rfl
    · obtain⟨b,o,cs,ha,_⟩:=hvs.get 0 x rfl;rw[hva] at ha;cases ha
   subst hx0;exact⟨_,rfl,cy.nil _ _ _ _ _,Ext.refl _ _⟩
 · refine af ?_;refine xo rfl (Pb) ?_;rintro _ h1 ⟨rfl,hh1⟩;have e1:aq h h1:=by rw[hh1];exact Ext.push _ _ _
   have z1:h1.size=h.size+1:=by rw[hh1];simp
   have ho1:aB h1 h.size 32 9 (.slice (some ⟨h.size,0,none⟩) 0 0) 0 []:=by rw[hh1];exact Da h _ 9 h.size (Nat.le_refl _)
   obtain⟨css,hc1,hc2,hc3,hc4,hc5⟩:=hvs.N5;have hrow:xs.length=0\/∃b o,va=some ⟨b,o,none⟩/\Lw.rowAt h1 b o css.flatten:=hc5.imp id fun⟨b,o,q1,q2⟩=>⟨b,o,q1,e1.rowAt (fun k=>k) q2⟩
   refine af ?_;refine xo rfl (aT.append underlying28 H.Jn rfl rfl ho1 hc3 hrow hc4 (by simp only[maxLen];omega) (by omega) (by omega)) ?_;rintro v2 h2 ⟨ho2,hx2,_,hv2⟩;refine af ?_;refine bh ?_;have e2:=Ext.own e1 ho1 (Nat.le_refl _) hx2;have ho2:aB h2 h.size 32 9 v2 (0+xs.length) ([]++css.flatten):=ho2;rw[Nat.zero_add,List.nil_append] at ho2;exact⟨_,rfl,Db hc1 hc2 rfl ho2 e2 (fun b q=>(ho2.lt q).1),e2⟩
end
end Go.Proofs.YtdgckfkoihcmjaaGreatDoor
namespace Go.Proofs.YtdgckfkoihcmjaaGreatDoor
open Go Go.Lw
section
variable {B m:Nat}
theorem cM (b:Nat):okV b gp:=kL b 0 0 [] (by decide)
theorem sM (b:Nat) (x:Bool):okV b (dF x):=kL b _ _ [] (by decide)
theorem yD (b:Nat) (n:Int):okV b (fT n):=kL b _ _ [] (by decide)
theorem Bg {b:Nat}(t:By):∀{l:List Bd},(∀p∈l,okV b p.2)->okV b (dZ t l).1
  | [],_=>cM b
  |p::r,h=>by
    have ih:=Bg t (l:=r) (fun q hq=>h q (by simp[hq]));rw[dZ];split
    · exact ih
    · split
      · exact h p (by simp)
      · exact cM b
theorem DI (b:Nat) (op:By) (w:Int):okV b (fE op w).1:=by
  unfold fE;repeat' split
  all_goals first|exact sM _ _|exact cM _
theorem GC (b:Nat) (op:By) (x y:Int):okV b (bJ op x y).1:=by
  unfold bJ;simp only;repeat' split
  all_goals first|exact yD _ _|exact cM _|exact DI _ _ _
theorem Kw (b:Nat) (op:By) (v:Vl):okV b (Iz op v).1:=by
  unfold Iz;repeat' split
  all_goals first|exact sM _ _|exact yD _ _|exact cM _
theorem Jy (b:Nat) (op:By) (x y:Vl):okV b (gQ op x y).1:=by
  unfold gQ;repeat' split
  all_goals first|exact sM _ _|exact cM _|exact DI _ _ _|exact GC _ _ _ _|(rename_i h;exact kL _ _ _ _ (by rw[List.length_append];omega))
def Ng (B m:Nat) (r:Out):Prop:=r.2.2<=m/\okV (B-2*r.2.2) r.1/\(r.2.1=0->r.2.2<m)
def H8 (B m:Nat) (r:Out):Prop:=r.2.2<=m/\okV (B-2*r.2.2) r.1
def Lp (B:Nat) (ev:Ev):Prop:=∀m env n,2*m<=B->vZ (B-2*m) env->n.wt<=1000000->Ng B m (ev m env n)
theorem cH {k:Int}{t:By}{l:List Tr}(h:(Tr.mk k t l).wt<=1000000) (i:Nat):(l.getD i cj).wt<=1000000:=by
  rw[List.getD_eq_getElem?_getD];cases hi:l[i]? with
  |none=>decide
  |some x =>
    have:=xS (List.mem_of_getElem? hi);rw[Tr.wt] at h
    show x.wt<=_
    omega
theorem iu {m':Nat}{l:List Bd}(h:vZ (B-2*m) l) (hm:m'<=m):vZ (B-2*m') l:=h.le (by omega)
theorem kM {m':Nat}{l:List Bd}(h:vZ (B-2*m) l) (hm:m'<m) (hB:2*m<=B){v:Vl}(hv:okV (B-2*m') v) (t:By):vZ (B-2*m') (l++[(t,v)]):=by
  refine⟨?_,fun p hp=>?_⟩
  · rw[List.length_append];have:=h.1;simp;omega
  · rcases List.mem_append.1 hp with hp|hp
    · exact(h.2 p hp).le (by omega)
    · simp at hp;subst hp;exact hv
theorem u6 {B:Nat}{ev:Ev}(hev:Lp B ev):∀(l:List Tr) (m:Nat) (env:List Bd) (v:Vl),2*m<=B->vZ (B-2*m) env->(∀x∈l,x.wt<=1000000)->okV (B-2*m) v->H8 B m (kD ev m env l v)
  | [],m,env,v,_,_,_,hv=>⟨Nat.le_refl _,hv⟩
  |n::r,m,env,v,hB,he,hl,hv=>by
    have h1:=hev m env n hB he (hl n (by simp));rw[kD];generalize ev m env n=o at h1;obtain⟨w,e,m'⟩:=o;obtain⟨a1,a2,a3⟩:=h1;dsimp only at a1 a2 a3 ⊢;have hr:∀x∈r,x.wt<=1000000:=fun x hx=>hl x (by simp[hx])
    split
    · exact⟨a1,cM _⟩
    · rename_i h0;have h0:e=0:=Classical.not_not.1 h0;have hlt:=a3 h0;split
      · have:=u6 hev r m' _ (mG w n.text) (by omega) (kM he hlt hB (nB a2 n.text) n.text) hr (nB a2 _);exact⟨Nat.le_trans this.1 a1,this.2⟩
      · have:=u6 hev r m' env w (by omega) (iu he a1) hr a2;exact⟨Nat.le_trans this.1 a1,this.2⟩
theorem Hs {d:Nat}(hev:Lp B (bp d)){env:List Bd}{n:Tr}(hB:2*(m+1)<=B) (he:vZ (B-2*(m+1)) env) (hn:n.wt<=1000000):H8 B m (bp (d+1) (m+1) env n):=by
  obtain⟨k,t,l⟩:=n;have hB':2*m<=B:=by omega
  have he':=iu he (Nat.le_succ m);have xm:=cH hn;have tt:t.length<=1000000:=by rw[Tr.wt] at hn;omega
  have k0:=hev m env (l.getD 0 cj) hB' he' (xm 0);rw[bp];split
  · split
    · exact⟨Nat.le_refl _,yD _ _⟩
    · exact⟨Nat.le_refl _,cM _⟩
  · split
    · split
      · exact⟨Nat.le_refl _,cM _⟩
      · exact⟨Nat.le_refl _,kL _ _ _ _ tt⟩
    · split
      · exact⟨Nat.le_refl _,sM _ _⟩
      · split
        · exact⟨Nat.le_refl _,Bg t he'.2⟩
        · split
          · exact⟨Nat.le_refl _,Cu tt (xm 0) he'⟩
          · split
            · exact u6 hev l m env gp hB' he' (fun x hx=>by have:=xS hx;rw[Tr.wt] at hn;omega) (cM _)
            · split
              · unfold I0;generalize bp d m env (l.getD 0 cj)=o at k0;obtain⟨w,e,m'⟩:=o;obtain⟨a1,a2,a3⟩:=k0;dsimp only at a1 a2 a3 ⊢;split
                · exact⟨a1,a2⟩
                · rename_i h0;have hlt:=a3 (Classical.not_not.1 (fun q=>h0 (.inl q)));have:=hev m' _ (l.getD 1 cj) (by omega) (kM he' hlt hB' (nB a2 t) t) (xm 1);exact⟨Nat.le_trans this.1 a1,this.2.1⟩
              · split
                · unfold Nw;generalize bp d m env (l.getD 0 cj)=o at k0;obtain⟨w,e,m'⟩:=o;obtain⟨a1,a2,a3⟩:=k0;dsimp only at a1 a2 a3 ⊢;split
                  · exact⟨a1,cM _⟩
                  · split
                    · exact⟨a1,cM _⟩
                    · split
                      · have:=hev m' env (l.getD 1 cj) (by omega) (iu he' a1) (xm 1);exact⟨Nat.le_trans this.1 a1,this.2.1⟩
                      · have:=hev m' env (l.getD 2 cj) (by omega) (iu he' a1) (xm 2);exact⟨Nat.le_trans this.1 a1,this.2.1⟩
                · split
                  · unfold DK;generalize bp d m env (l.getD 0 cj)=o at k0;obtain⟨f,e,m1⟩:=o;obtain⟨a1,a2,a3⟩:=k0;dsimp only at a1 a2 a3 ⊢;split
                    · exact⟨a1,cM _⟩
                    · rename_i h0;have hlt:=a3 (Classical.not_not.1 h0);have k1:=hev m1 env (l.getD 1 cj) (by omega) (iu he' a1) (xm 1);generalize bp d m1 env (l.getD 1 cj)=o at k1;obtain⟨x,e,m2⟩:=o;obtain⟨b1,b2,b3⟩:=k1;dsimp only at b1 b2 b3 ⊢;split
                      · exact⟨by dsimp only;omega,cM _⟩
                      · rename_i h1;have hlt2:=b3 (Classical.not_not.1 h1);split
                        · exact⟨by dsimp only;omega,cM _⟩
                        · split
                          · exact⟨by dsimp only;omega,cM _⟩
                          · obtain⟨_,f2,f3⟩:=a2.get
                            have hin:vZ (B-2*m2) ((if f.self≠[] then f.env++[(f.self,f)] else f.env)++[(f.fO,x)]):=by
                              split
                              · refine⟨?_,fun p hp=>?_⟩
                                · rw[List.length_append,List.length_append];have:=f3.1;simp;omega
                                · rcases List.mem_append.1 hp with hp|hp
                                  · rcases List.mem_append.1 hp with hp|hp
                                    · exact(f3.2 p hp).le (by omega)
                                    · simp at hp;subst hp;exact a2.le (by omega)
                                  · simp at hp;subst hp;exact b2
                              · exact kM f3 hlt2 (by omega) b2 f.fO
                            have:=hev m2 _ f.body (by omega) hin f2;exact⟨Nat.le_trans this.1 (by omega),this.2.1⟩
                  · split
                    · unfold Kv;generalize bp d m env (l.getD 0 cj)=o at k0;obtain⟨w,e,m'⟩:=o;obtain⟨a1,a2,a3⟩:=k0;dsimp only at a1 a2 a3 ⊢;split
                      · exact⟨a1,cM _⟩
                      · exact⟨a1,Kw _ _ _⟩
                    · unfold D3;generalize bp d m env (l.getD 0 cj)=o at k0;obtain⟨a,e,m1⟩:=o;obtain⟨a1,a2,a3⟩:=k0;dsimp only at a1 a2 a3 ⊢;split
                      · exact⟨a1,cM _⟩
                      · have k1:=hev m1 env (l.getD 1 cj) (by omega) (iu he' a1) (xm 1);generalize bp d m1 env (l.getD 1 cj)=o at k1;obtain⟨x,e,m2⟩:=o;obtain⟨b1,b2,b3⟩:=k1;dsimp only at b1 b2 b3 ⊢;split
                        · split
                          · exact⟨a1,cM _⟩
                          · split
                            · exact⟨a1,a2⟩
                            · split
                              · exact⟨by dsimp only;omega,cM _⟩
                              · exact⟨by dsimp only;omega,b2⟩
                        · split
                          · exact⟨by dsimp only;omega,cM _⟩
                          · exact⟨by dsimp only;omega,Jy _ _ _ _⟩
theorem iQ (B:Nat):∀d,Lp B (bp d)
  | 0=>fun m env n hB he hn=>⟨Nat.le_refl _,cM _,fun k=>by cases k⟩
  |d+1=>fun m env n hB he hn=>by
    cases m with
    |zero=>obtain⟨k,t,l⟩:=n;rw[bp];exact⟨Nat.le_refl _,cM _,fun k=>by cases k⟩
    |succ m =>
      have h:=Hs (iQ B d) hB he hn;exact⟨Nat.le_succ_of_le h.1,h.2,fun _=>Nat.lt_succ_of_le h.1⟩
end
end Go.Proofs.YtdgckfkoihcmjaaGreatDoor
namespace Go.Proofs.YtdgckfkoihcmjaaGreatDoor
open Go Go.Lw
set_option maxRecDepth 20000 set_option maxHeartbeats 4000000
def nQ (m:Int):bD:=match lM (gM m) with|.inr d=>d|.inl _=>⟨[],[]⟩
theorem ug (m:Nat) (hm:m<3):∃ss st,eG (gM m)= .inr (ss,st)/\lM (gM m)= .inr (nQ m)/\fZ ss st= .inr (nQ m)/\(∀l,gO m l=dn ss st l)/\∀l,(aJ (nQ m) l 0 0 (0,-1)).2.2<=(gO m l).1+2:=by
 have key:∀{ss:List aX}{st:Nat},eG (gM m)= .inr (ss,st)->(∀l,gO m l=dn ss st l)->(∃d,fZ ss st= .inr d/\(∀l,(aJ d l 0 0 (0,-1)).2.2<=(dn ss st l).1+2)/\∀l x:By,(dn ss st l).1+2<l.length->dn ss st (l++x)=dn ss st l)->∃ss st,eG (gM m)= .inr (ss,st)/\lM (gM m)= .inr (nQ m)/\fZ ss st= .inr (nQ m)/\(∀l,gO m l=dn ss st l)/\∀l,(aJ (nQ m) l 0 0 (0,-1)).2.2<=(gO m l).1+2:=by
  intro ss st h1 h2 ⟨d,h3,h4,_⟩;have h5:lM (gM m)= .inr d:=by unfold lM;rw[h1];exact h3
  have h6:nQ m=d:=by unfold nQ;rw[h5]
  rw[h6];exact⟨ss,st,h1,h5,h3,h2,fun l=>by rw[h2];exact h4 l⟩
 match m,hm with
 | 0,_=>exact key Oh (fun l=>rfl) (qJ Oh ME MH MB yT.1)
 | 1,_=>exact key IV (fun l=>rfl) (qJ IV MD MG MA yT.2.1)
 | 2,_=>exact key Og (fun l=>rfl) (qJ Og MC MF Mz yT.2.2)
def Nz:gD bD:=⟨1,by decide,fun h O cs d=>∃db,cs=[.pointer (some ⟨db,0,none⟩)]/\ni h O db d,fun h=>by obtain⟨db,rfl,_⟩:=h;rfl,fun h=>by
 obtain⟨db,rfl,_⟩:=h;intro u hu;simp at hu;subst hu;rfl,fun h m=>by
 obtain⟨db,hc,hv⟩:=h;exact⟨db,hc,hv.mv m⟩⟩
def uh (k:Nat):List bD:=([0,1,2].take k).map fun m:Int=>lE (nQ m)
theorem CD (k:Nat) (hk:k<3):uh (k+1)=uh k++[lE (nQ k)]/\(uh k).length=k:=by
 match k,hk with
 | 0,_=>exact⟨rfl,rfl⟩
 | 1,_=>exact⟨rfl,rfl⟩
 | 2,_=>exact⟨rfl,rfl⟩
def ow (h:aj) (p:Value):Prop:=∃lb vm,p= .pointer (some ⟨lb,0,none⟩)/\aC h lb 81 [vm]/\aY Nz h (fun _=>False) vm (uh 3)
theorem ow.ah {h h':aj}{p:Value}(k:ow h p) (e:aq h h'):ow h' p:=by
 obtain⟨lb,vm,h1,h2,h3⟩:=k;exact⟨lb,vm,h1,h2.ah e,h3.mv (Mv.ah e)⟩
theorem EF {h:aj}{lim:Nat}(hg:Sg h lim) (hlim:lim<=h.size) (htens:qX h) (hR:lQ h) :
 av Tryz.prog 12 #[] h (bq fun r h'=>ow h' r/\aq h h'):=by
 refine bP ?_;refine af ?_;refine xp rfl (au (H.MN ) rfl) ?_;refine xo rfl (iF) ?_;rintro _ h1 ⟨rfl,k1,e1,z1⟩;have k1:aC h1 h.size 81 [.slice none 0 0]:=k1;refine af ?_;refine gJ (σ:=Nat×Value) (fun q=>[(2,.int .i64 (q.1:Nat))]) (fun q h'=>q.1<=3/\aq h h'/\aC h' h.size 81 [q.2]/\cy Nz (fun b=>b=h.size) h' h1.size 87 q.2 (uh q.1)/\h1.size<=h'.size) (fun q=>3-q.1) ((0,.slice none 0 0)) ⟨by decide,e1,k1,cy.nil _ _ _ _ _,Nat.le_refl _⟩ rfl ?_;rintro⟨m,vm⟩ g ⟨hm,eg,kb,hx,hz⟩ ih
 try dsimp only
 dsimp only at hm kb hx;refine af ?_;refine aP (fun hlt=>?_) (fun hlt=>?_)
 · have hm3:m<3:=by omega
   obtain⟨ss,st,hmk,hdm,hdk,_⟩:=ug m hm3;obtain⟨hnext,hlen⟩:=CD m hm3;have hok:=nI hdm;have hM:=fU hmk;have hb:=AW hM
   have hrl:∀s∈gM m,s.length<=1000000:=by
    have:m=0\/m=1\/m=2:=by omega
    rcases this with rfl|rfl|rfl
    · exact of_decide_eq_true rfl
    · exact of_decide_eq_true rfl
    · exact of_decide_eq_true rfl
   refine af ?_;refine xo rfl (aF rfl (En (hR.ah eg) m hm3)) ?_;rintro _ g1 ⟨hr1,f1⟩;have eg1:=eg.trans f1;refine xo rfl (aF rfl (EJ (hg.ext eg1 (fun _ k=>k.elim)) (by have:=eg1.size;omega) hr1 hrl)) ?_;rintro _ g2 ⟨⟨p,rfl,hp⟩,f2⟩
   have hp:∃(O:Nat->Prop) (nb:Nat) (v:Value),p= .pointer (some ⟨nb,0,none⟩)/\bM g2 O nb v ss st:=by
    rcases hp with ⟨e,he,_⟩|⟨O,nb,v,ss',st',hp,hn,hm'⟩
    · rw[hmk] at he;cases he
    · rw[hmk] at hm';cases hm';exact⟨O,nb,v,hp,hn⟩
   obtain⟨O,nb,v,rfl,hn⟩:=hp;have eg2:=eg1.trans f2;refine af ?_;refine xo rfl (aF rfl (Bo (htens.ah eg2) hn hM.good hM.len hM.stl hb.2.1 hb.2.2)) ?_;rintro r3 g3 ⟨hr3,f3⟩;unfold zF at hr3;rw[hdk] at hr3;obtain⟨db,rfl,hk⟩:=hr3;have eg3:=eg2.trans f3;have f03:=(f1.trans f2).trans f3;have zz:=f03.size;have kb3:=kb.ah f03;have hx3:=hx.ah f03;obtain⟨css3,_,hw3,_⟩:=id hx3;have vge:∀b,vm.ownBlock=some b->h1.size<=b/\b<g3.size:=fun b hb=>hw3.lt hb
   have hkM:¬(cu vm.ownBlock h.size\/Array.size g3<=h.size):=by
    rintro(k|k)
    · have:=(vge _ k.symm).1;omega
    · omega
   refine af ?_;refine kH 12 (fun b=>cu vm.ownBlock b\/Array.size g3<=b) (fun i=>Nat.blt i 11) ?_;refine aG 0 ?_;refine aG 1 ?_;refine aG 2 ?_;refine aG 3 ?_;refine bC 4 rfl (fun h' e=>az rfl (e.cell hkM (kb3.cell (i:=0) rfl))) ?_;refine aG 5 ?_;refine cU 6 rfl (aF rfl (HA (htens.ah eg3) hk hok.1 hok.2)) ?_;rintro r4 g4 ⟨⟨b4,rfl,hk4⟩,f4⟩;refine⟨fun _=>f4.mono (fun _ _ k=>k.elim),?_⟩;have hx4:=hx3.ah f4;have kb4:=kb3.ah f4;have z4:=f4.size;obtain⟨css,hc1,hc2,hc3⟩:=id hx4;rw[hlen] at hc2;refine cU 7 rfl (jG [_]) ?_;rintro _ _ ⟨rfl,rfl⟩;refine⟨fun _=>by first|exact Ext.push _ _ _|assumption,?_⟩;refine cU 8 rfl (wC rfl rfl hc2 rfl rfl) ?_;rintro v5 g5 ⟨ho5,hx5,hx5',hv5⟩;refine⟨fun _=>hx5'.mono (fun _ _ k=>.inl k),?_⟩
   have hnew:ni g4 (fun b=>cu vm.ownBlock b\/b=h.size) b4 (lE (nQ m)):=hk4.mv ⟨Nat.le_refl _,fun b _ hn=>⟨rfl,fun k=>hn (by
    rcases k with k|k
    · exact(vge _ k.symm).2
    · omega)⟩⟩
   have hx5w:=cy.fC (e:=Nz) (h:=g4) (v:=vm) (css:=css) (cs:=[.pointer (some ⟨b4,0,none⟩)]) (y:=lE (nQ m)) (O:=fun b=>b=h.size) hc1 hc3 (by rw[hlen];exact ho5) hx5 hv5 ⟨b4,rfl,hnew⟩;obtain⟨va5,vc5,rfl,_⟩:=ho5.open;have z5:=hx5.size;have kb5:=kb4.ext hx5 (fun k=>by have:=(vge _ k.symm).1;omega);have v5ge:∀b,(Value.slice va5 (m+1) vc5).ownBlock=some b->h1.size<=b:=fun b hb=>(ho5.lt hb).1
   refine Iu 9 ?_;refine aG 10 ?_;refine iA 11 rfl (kY rfl rfl kb5) ?_;rintro _ g6 ⟨rfl,kb6,x6,z6⟩;refine⟨nofun,?_⟩;have kb6:aC g6 h.size 81 [.slice va5 (m+1) vc5]:=by simpa using kb6
   have hx6:=hx5w.oZ (O':=fun b=>b=h.size) x6 (fun b hb k=>by have:=v5ge b hb;omega) (fun b _ k=>k) (fun b _ k=>k)
   have eg6:aq h g6:=⟨by have:=x6.size;omega,fun b hb _=>by
    rw[x6.block b (by omega) (by omega),hx5.block b (by omega) (fun k=>by have:=(vge _ k.symm).1;omega),f4.block b (by omega) (fun k=>k)];exact eg3.block b hb (fun k=>k)⟩
   refine gV ?_;refine af ?_;exact ih (m+1,_) ⟨by show m+1<=3;omega,eg6,kb6,by show cy Nz _ g6 h1.size _ _ (uh (m+1));rw[hnext];exact hx6,by have:=x6.size;omega⟩
 · obtain rfl:m=3:=by omega
   refine af ?_;refine bh ?_;exact⟨_,rfl,⟨h.size,vm,rfl,kb,hx.Dv (fun b hb k=>k) (fun b _ k=>k.elim)⟩,eg⟩
end Go.Proofs.YtdgckfkoihcmjaaGreatDoor

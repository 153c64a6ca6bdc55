/- What the proof of the statement leans on (part 25). -/
import Derived.Lib.ParseIntB
import Derived.Lib.Bytealg
import Derived.Test.YtdgckfkoihcmjaaGreatDoorQx

namespace Go.Proofs.YtdgckfkoihcmjaaGreatDoor
open Go Go.Lw
section
variable {h:ai}{O:Nat->Prop}{k n:Int}{s f:By}{b:Nat}{v:Value}
inductive Vl where
  |mk (k n:Int) (s self:By) (body:Tr) (env:List (By×Vl))
def Vl.kind:Vl->Int|.mk k _ _ _ _ _=>k
def Vl.num:Vl->Int|.mk _ n _ _ _ _=>n
def Vl.gr:Vl->By|.mk _ _ s _ _ _=>s
def Vl.self:Vl->By|.mk _ _ _ f _ _=>f
def Vl.body:Vl->Tr|.mk _ _ _ _ b _=>b
def Vl.env:Vl->List (By×Vl)|.mk _ _ _ _ _ e=>e
abbrev Bd:=By×Vl
def bG:Tr:=.mk 0 [] []
def gY:Vl:=.mk 0 0 [] [] bG []
def fR (n:Int):Vl:=.mk 1 n [] [] bG []
def iP (b:Bool):Vl:=.mk 2 (if b then 1 else 0) [] [] bG []
def He (s:By):Vl:=.mk 3 0 s [] bG []
def dF (t:By):List Bd->Vl×Int
  | []=>(gY,4)
  |b::r=>if (dF t r).2=0 then dF t r else if b.1=t then (b.2,0) else (gY,4)
def jg (v:Vl) (name:By):Vl:=if v.kind=4/\v.self=[] then .mk v.kind v.num v.gr name v.body v.env else v
def gZ (op:By) (way:Int):Vl×Int :=
  if op=[61,61] then (iP (decide (way=0)),0) else if op=[33,61] then (iP (decide (¬way=0)),0)
  else if op=[60] then (iP (decide (way<0)),0) else if op=[60,61] then (iP (decide (way<=0)),0)
  else if op=[62] then (iP (decide (0<way)),0) else if op=[62,61] then (iP (decide (0<=way)),0) else (gY,2)
def wrap64 (n:Int):Int:=IntKind.i64.wrap n
def cT (op:By) (a b:Int):Vl×Int :=
  if op=[43] then (let c:=wrap64 (a+b);if decide (c>a)=decide (b>0) then (fR c,0) else (gY,2))
  else if op=[45] then (let c:=wrap64 (a-b);if decide (c<a)=decide (b>0) then (fR c,0) else (gY,2))
  else if op=[42] then (let c:=wrap64 (a*b);if a=0\/wrap64 (c.tdiv a)=b/\(a≠ -1\/b≠ -9223372036854775808) then (fR c,0) else (gY,2))
  else if op=[47]\/op=[37] then (if b=0\/a= -9223372036854775808/\b= -1 then (gY,2) else (fR (if op=[37] then a.tmod b else wrap64 (a.tdiv b)),0))
  else gZ op (if a<b then -1 else if a=b then 0 else 1)
def zO (op:By) (v:Vl):Vl×Int :=
  if op=kI/\v.kind=2 then (iP (decide (v.num=0)),0) else if op=[45]/\v.kind=1/\v.num≠ -9223372036854775808 then (fR (wrap64 (0-v.num)),0) else (gY,2)
def qd (op:By) (a b:Vl):Vl×Int :=
  if a.kind≠b.kind\/a.kind=4 then (gY,2)
  else if a.kind=1 then cT op a.num b.num
  else if a.kind=3/\op=[43] then (if 1000<a.gr.length+b.gr.length then (gY,3) else (He (a.gr++b.gr),0))
  else if a.kind=3 then gZ op (Lib.compareBytes a.gr b.gr)
  else if op=[61,61] then (iP (decide (a.num=b.num)),0)
  else if op=[33,61] then (iP (decide (¬a.num=b.num)),0)
  else (gY,2)
abbrev Out:=Vl×Int×Nat
abbrev Ev:=Nat->List Bd->Tr->Out
def eY (ev:Ev):Nat->List Bd->List Tr->Vl->Out
  |m,_,[],v=>(v,0,m)
  |m,env,n::r,_=>match ev m env n with
    |(v,e,m')=>if e≠0 then (gY,e,m') else
      if n.kind=7/\n.kids.length=1 then eY ev m' (env++[(n.text,jg v n.text)]) r (jg v n.text) else eY ev m' env r v
def DH (ev:Ev) (m:Nat) (env:List Bd) (t:By) (l:List Tr):Out:=match ev m env (l.getD 0 bG) with
  |(v,e,m')=>if e≠0\/l.length=1 then (v,e,m') else ev m' (env++[(t,jg v t)]) (l.getD 1 bG)
def Mf (ev:Ev) (m:Nat) (env:List Bd) (l:List Tr):Out:=match ev m env (l.getD 0 bG) with
  |(v,e,m')=>if e≠0 then (gY,e,m') else if v.kind≠2 then (gY,2,m') else if v.num≠0 then ev m' env (l.getD 1 bG) else ev m' env (l.getD 2 bG)
def wM (ev:Ev) (m:Nat) (env:List Bd) (l:List Tr):Out:=match ev m env (l.getD 0 bG) with
  |(f,e,m1)=>if e≠0 then (gY,e,m1) else match ev m1 env (l.getD 1 bG) with
    |(x,e,m2)=>if e≠0 then (gY,e,m2) else if f.kind≠4 then (gY,2,m2) else if bq aW f.body=false then (gY,10,m2) else
      ev m2 ((if f.self≠[] then f.env++[(f.self,f)] else f.env)++[(f.gr,x)]) f.body
def Fu (ev:Ev) (m:Nat) (env:List Bd) (t:By) (l:List Tr):Out:=match ev m env (l.getD 0 bG) with
  |(v,e,m')=>if e≠0 then (gY,e,m') else ((zO t v).1,(zO t v).2,m')
def Dd (ev:Ev) (m:Nat) (env:List Bd) (t:By) (l:List Tr):Out:=match ev m env (l.getD 0 bG) with
  |(a,e,m1)=>if e≠0 then (gY,e,m1) else
    if t=rO\/t=kJ then (if a.kind≠2 then (gY,2,m1) else if decide (a.num≠0)=decide (t=rO) then (a,0,m1) else match ev m1 env (l.getD 1 bG) with
      |(b,e,m2)=>if e=0/\b.kind≠2 then (gY,2,m2) else (b,e,m2))
    else match ev m1 env (l.getD 1 bG) with
      |(b,e,m2)=>if e≠0 then (gY,e,m2) else ((qd t a b).1,(qd t a b).2,m2)
def aI:Nat->Ev
  | 0,m,_,_=>(gY,60,m)
  |d+1,m,env,.mk k t l=>match m with
    | 0=>(gY,60,0)
    |m+1 =>
      if k=0 then (match Lib.parseIntB 64 t with|.ok v=>(fR v,0,m)|_=>(gY,2,m))
      else if k=1 then (if 1000<t.length then (gY,3,m) else (He t,0,m))
      else if k=2 then (iP (decide (t=kY)),0,m)
      else if k=3 then ((dF t env).1,(dF t env).2,m)
      else if k=8 then (.mk 4 0 t [] (l.getD 0 bG) env,0,m)
      else if k=10 then eY (aI d) m env l gY
      else if k=7 then DH (aI d) m env t l
      else if k=6 then Mf (aI d) m env l
      else if k=9 then wM (aI d) m env l
      else if k=4 then Fu (aI d) m env t l
      else Dd (aI d) m env t l
def xW:Nat->ai->(Nat->Prop)->List Value->Vl->Prop
  | 0,_,_,_,_=>False
  |d+1,h,O,cs,v=>∃nk nt nv oa n c,cs=[.int .i64 v.kind,.int .i64 v.num,.string (bs v.gr),.string (bs v.self),nk,nt,nv,.slice oa n c]/\eN.R h O [nk,nt,nv] v.body/\v.env.length=n/\n<=c/\c<=maxLen /\
      ∀i y,v.env[i]? =some y->∃b o cs',oa=some ⟨b,o,none⟩/\¬O b/\Lw.rowAt h b (o+i*9) (.string (bs y.1)::cs')/\xW d h O cs' y.2
theorem G3:∀{d:Nat}{h:ai}{O:Nat->Prop}{cs:List Value}{x:Vl},xW d h O cs x->cs.length=8
  | 0,_,_,_,_,k=>k.elim
  |_+1,_,_,_,_,⟨_,_,_,_,_,_,hc,_⟩=>by rw[hc];rfl
theorem G2:∀{d:Nat}{h:ai}{O:Nat->Prop}{cs:List Value}{x:Vl},xW d h O cs x->∀v∈cs,v.oneCell'=true
  | 0,_,_,_,_,k=>k.elim
  |_+1,_,_,_,_,⟨nk,nt,nv,_,_,_,hc,hn,_⟩=>by
    have h3:=eN.one hn;intro v hv;rw[hc] at hv;simp only[List.mem_cons,List.not_mem_nil,or_false] at hv
    rcases hv with rfl|rfl|rfl|rfl|rfl|rfl|rfl|rfl<;>first|rfl|exact h3 _ (by simp)
theorem Ep:∀{d:Nat}{h h':ai}{O O':Nat->Prop}{cs:List Value}{x:Vl},xW d h O cs x->Mv O O' h h'->xW d h' O' cs x
  | 0,_,_,_,_,_,_,k,_=>k.elim
  |d+1,h,h',O,O',cs,x,⟨nk,nt,nv,oa,n,c,hc,hb,hl,hn,hm,hk⟩,m=>by
    refine⟨nk,nt,nv,oa,n,c,hc,eN.mv hb m,hl,hn,hm,fun i y hy=>?_⟩;obtain⟨b,o,cs',h1,h2,h3,h4⟩:=hk i y hy;exact⟨b,o,cs',h1,(m.block b (dL h3 (by simp)) h2).2,m.rowAt h2 h3,Ep h4 m⟩
theorem zM:∀{d d':Nat}{h:ai}{O:Nat->Prop}{cs:List Value}{x:Vl},xW d h O cs x->d<=d'->xW d' h O cs x
  | 0,_,_,_,_,_,k,_=>k.elim
  |d+1,0,_,_,_,_,_,hd=>by omega
  |d+1,d'+1,h,O,cs,x,⟨nk,nt,nv,oa,n,c,hc,hb,hl,hn,hm,hk⟩,hd=>by
    refine⟨nk,nt,nv,oa,n,c,hc,hb,hl,hn,hm,fun i y hy=>?_⟩;obtain⟨b,o,cs',h1,h2,h3,h4⟩:=hk i y hy;exact⟨b,o,cs',h1,h2,h3,zM h4 (by omega)⟩
def eV:gN Vl where
  sz:=8
  pos:=by decide
  R:=fun h O cs x=>∃d,xW d h O cs x
  len:=fun⟨_,k⟩=>G3 k
  one:=fun⟨_,k⟩=>G2 k
  mv:=fun⟨d,k⟩ m=>⟨d,Ep k m⟩
def eB:gN Bd where
  sz:=9
  pos:=by decide
  R:=fun h O cs y=>∃cs',cs= .string (bs y.1)::cs'/\eV.R h O cs' y.2
  len:=fun⟨_,h,k⟩=>by rw[h,List.length_cons,eV.len k];rfl
  one:=fun⟨_,h,k⟩ v hv=>by
    rw[h] at hv
    rcases List.mem_cons.1 hv with rfl|hv
    · rfl
    · exact eV.one k v hv
  mv:=fun⟨c,h,k⟩ m=>⟨c,h,eV.mv k m⟩
theorem EY {cs:List Value}{x:Vl}(q:eV.R h O cs x) :
    ∃nk nt nv v,cs=[.int .i64 x.kind,.int .i64 x.num,.string (bs x.gr),.string (bs x.self),nk,nt,nv,v]/\eN.R h O [nk,nt,nv] x.body/\aZ eB h O v x.env:=by
  obtain⟨d,q⟩:=q;cases d with
  |zero=>exact q.elim
  |succ d =>
    obtain⟨nk,nt,nv,oa,n,c,hc,hb,hl,hn,hm,hk⟩:=q;refine⟨nk,nt,nv,_,hc,hb,oa,n,c,rfl,hl,hn,hm,fun i y hy=>?_⟩;obtain⟨b,o,cs',h1,h2,h3,h4⟩:=hk i y hy;exact⟨b,o,_,h1,h2,h3,cs',rfl,d,h4⟩
theorem uw {b:Tr}{e:List Bd}{nk nt nv:Value}(hb:eN.R h O [nk,nt,nv] b) (q:aZ eB h O v e) :
    eV.R h O [.int .i64 k,.int .i64 n,.string (bs s),.string (bs f),nk,nt,nv,v] (.mk k n s f b e):=by
  obtain⟨oa,m,c,rfl,hl,hn,hm,hk⟩:=q
  have:∃d,∀i y,e[i]? =some y->∃b o cs,oa=some ⟨b,o,none⟩/\¬O b/\Lw.rowAt h b (o+i*9) (.string (bs y.1)::cs)/\xW d h O cs y.2:=by
    have key:∀j:Nat,∃d,∀i y,i<j->e[i]? =some y->∃b o cs,oa=some ⟨b,o,none⟩/\¬O b/\Lw.rowAt h b (o+i*9) (.string (bs y.1)::cs)/\xW d h O cs y.2:=by
      intro j
      induction j with
      |zero=>exact⟨0,fun i y hi=>by omega⟩
      |succ j ih =>
        obtain⟨d,hd⟩:=ih;cases hj:e[j]? with
        |none =>
          refine⟨d,fun i y hi hy=>hd i y ?_ hy⟩
          rcases Nat.lt_or_ge i j with q|q
          · exact q
          · have:i=j:=by omega
            subst this;rw[hj] at hy;cases hy
        |some z =>
          obtain⟨b,o,_,h1,h2,h3,cs,rfl,d2,h4⟩:=hk j z hj;refine⟨max d d2,fun i y hi hy=>?_⟩
          rcases Nat.lt_or_ge i j with q|q
          · obtain⟨b',o',cs',g1,g2,g3,g4⟩:=hd i y q hy;exact⟨b',o',cs',g1,g2,g3,zM g4 (by omega)⟩
          · have:i=j:=by omega
            subst this;rw[hj] at hy;cases hy;exact⟨b,o,cs,h1,h2,h3,zM h4 (by omega)⟩
    obtain⟨d,hd⟩:=key e.length;exact⟨d,fun i y hy=>hd i y (List.getElem?_eq_some_iff.1 hy).1 hy⟩
  obtain⟨d,hd⟩:=this;exact⟨d+1,nk,nt,nv,oa,m,c,rfl,hb,hl,hn,hm,hd⟩
def cQ (h:ai) (O:Nat->Prop) (v:Value) (x:Vl):Prop:=∃cs,v= .agg cs.toArray/\eV.R h O cs x
theorem cQ.get {x:Vl}(q:cQ h O v x) :
    ∃nk nt a n c ea en ec,v= .agg #[.int .i64 x.kind,.int .i64 x.num,.string (bs x.gr),.string (bs x.self),.int .i64 nk,.string (bs nt),.slice a n c,.slice ea en ec]/\eN.R h O [.int .i64 nk,.string (bs nt),.slice a n c] x.body /\
      eV.R h O [.int .i64 x.kind,.int .i64 x.num,.string (bs x.gr),.string (bs x.self),.int .i64 nk,.string (bs nt),.slice a n c,.slice ea en ec] x/\aZ eB h O (.slice ea en ec) x.env:=by
  obtain⟨cs,rfl,q⟩:=q;obtain⟨nk,nt,nv,v,rfl,hb,he⟩:=EY q;obtain⟨k,t,l,hx⟩:∃k t l,x.body= .mk k t l:=by cases x.body with|mk k t l=>exact⟨k,t,l,rfl⟩
  have hb':=hb;rw[hx] at hb';obtain⟨w,hw,hl⟩:=mw hb';simp only[List.cons.injEq,and_true] at hw;obtain⟨rfl,rfl,rfl⟩:=hw;obtain⟨a,n,c,rfl,_⟩:=hl.open;obtain⟨ea,en,ec,rfl,_⟩:=he.open;exact⟨k,t,a,n,c,ea,en,ec,rfl,hb,q,he⟩
theorem cQ.of {cs:List Value}{x:Vl}(q:eV.R h O cs x):cQ h O (.agg cs.toArray) x:=⟨cs,rfl,q⟩
theorem L7 (h:ai) (O:Nat->Prop):eN.R h O [.int .i64 0,.string (bs []),.slice none 0 0] bG:=oy (aZ.nil _ _ _)
theorem sn (h:ai) (O:Nat->Prop) (k n:Int) (s f:By):eV.R h O [.int .i64 k,.int .i64 n,.string (bs s),.string (bs f),.int .i64 0,.string (bs []),.slice none 0 0,.slice none 0 0] (.mk k n s f bG []):=uw (L7 h O) (aZ.nil _ _ _)
theorem L2 {b:Tr}{e:List Bd}{nk nt nv:Value}(q:eV.R h O [.int .i64 k,.int .i64 n,.string (bs s),.string (bs f),nk,nt,nv,v] (.mk k n s f b e)) (g:By) :
    eV.R h O [.int .i64 k,.int .i64 n,.string (bs s),.string (bs g),nk,nt,nv,v] (.mk k n s g b e):=by
  obtain⟨nk',nt',nv',v',hc,hb,he⟩:=EY q;simp only[List.cons.injEq,and_true] at hc;obtain⟨_,_,_,_,rfl,rfl,rfl,rfl⟩:=hc;exact uw hb he
def JE:Nat->Nat->Vl->Prop
  | 0,_,_=>True
  |d+1,b,x=>x.gr.length<=1000000/\x.body.wt<=1000000/\x.env.length<=b/\∀p∈x.env,JE d b p.2
def okV (b:Nat) (x:Vl):Prop:=∀d,JE d b x
def vf (b:Nat) (l:List Bd):Prop:=l.length<=b/\∀p∈l,okV b p.2
theorem HX {b b':Nat}(hb:b<=b'):∀{d:Nat}{x:Vl},JE d b x->JE d b' x
  | 0,_,_=>trivial
  |d+1,_,⟨h1,h2,h3,h4⟩=>⟨h1,h2,Nat.le_trans h3 hb,fun p hp=>HX hb (h4 p hp)⟩
theorem okV.le {b':Nat}{x:Vl}(h:okV b x) (hb:b<=b'):okV b' x:=fun d=>HX hb (h d)
theorem vf.le {b b':Nat}{l:List Bd}(h:vf b l) (hb:b<=b'):vf b' l:=⟨Nat.le_trans h.1 hb,fun p hp=>(h.2 p hp).le hb⟩
theorem Ap {t:Tr}{e:List Bd}(hs:s.length<=1000000) (ht:t.wt<=1000000) (he:vf b e):okV b (.mk k n s f t e)
  | 0=>trivial
  |d+1=>⟨hs,ht,he.1,fun p hp=>he.2 p hp d⟩
theorem okV.get {x:Vl}(h:okV b x):x.gr.length<=1000000/\x.body.wt<=1000000/\vf b x.env :=
  ⟨(h 1).1,(h 1).2.1,(h 1).2.2.1,fun p hp d=>(h (d+1)).2.2.2 p hp⟩
theorem vf.nil (b:Nat):vf b []:=⟨Nat.zero_le _,fun _ h=>by cases h⟩
theorem jF (b:Nat) (k n:Int) (f:By) (hs:s.length<=1000000):okV b (.mk k n s f bG []):=Ap hs (by decide) (vf.nil b)
theorem om {x:Vl}(h:okV b x) (t:By):okV b (jg x t):=by
  obtain⟨h1,h2,h3⟩:=h.get;unfold jg;split
  · exact Ap h1 h2 h3
  · exact h
end
end Go.Proofs.YtdgckfkoihcmjaaGreatDoor
namespace Go.Proofs.YtdgckfkoihcmjaaGreatDoor
open Go.Proofs.Tryz
open Go Go.Lw
set_option maxRecDepth 20000 set_option maxHeartbeats 4000000
section
variable {n b3:Nat}{h g:ai}{O:Nat->Prop}{v:Value}{ts:List By}{T:TypeId}{eU:gN Un}{s s' s1:PS}{u:Un}{t:Tr}{e k:Int}
theorem bB (h:ai) (ts:List By) (T:TypeId) (hn:ts.length=n) (hm:n<=maxLen){us:List Value}(hu:us=ts.map AO):aZ oz (h.push (.cells us.toArray T)) (fun _=>False) (.slice (some ⟨h.size,0,none⟩) n n) ts :=
 cv.read (h1:=fun _=>rfl) (lM AO h T ts n hn hm 0 (Nat.zero_le _) hu) (fun _ _ k=>k)
theorem AI (hv:aZ oz h O v ts) (s:By) :
 au Tryz.prog 115 #[v,.string (bs s)] h (bL fun r h'=>(∃i:Int,r= .int .i64 i/\decide (0<=i)=decide (s∈ts))/\h'=h):=by
 obtain⟨va,vn,vc,rfl,hvs⟩:=hv.open;have hvl:ts.length=vn:=hvs.len;subst hvl;have hvm:=hvs.cap;have hvc:=hvs.le;simp only[maxLen] at hvm;refine b9 ?_;refine af ?_;refine jd (σ:=Nat) (fun i=>[(8,.int .i64 (i:Nat))]) (fun i h'=>h'=h/\i<=ts.length/\s∉ts.take i) (fun i=>ts.length-i) (0) ⟨rfl,Nat.zero_le _,by simp⟩ rfl ?_;rintro i g ⟨rfl,hi,hin⟩ ih;refine af ?_;refine aX (fun hlt=>?_) (fun hlt=>?_)
 · have hil:i<ts.length:=by omega
   obtain⟨b,o,x,ha,_,hx,hc⟩:=hvs.at hil
   iterate 4 refine bl ?_
   refine cW ?_
   iterate 2 refine bz ?_
   refine dH ?_;refine bl ?_;refine cW ?_
   iterate 3 refine bz ?_
   refine xp rfl (cM rfl rfl i rfl ha) ?_;refine xp rfl (aA rfl hc) ?_;refine af ?_;refine aX (fun he=>?_) (fun he=>?_)
   · have he:s=x:=bu he;refine af ?_;refine bw ?_;exact⟨_,rfl,⟨i,rfl,by rw[decide_eq_true (by omega),decide_eq_true (by rw[he];exact List.mem_of_getElem? hx)]⟩,rfl⟩
   · refine af ?_;exact ih (i+1) ⟨rfl,by omega,by rw[List.take_add_one,hx,List.mem_append,not_or];exact⟨hin,by simpa using fun q=>he (by rw[q])⟩⟩
 · refine af ?_;refine bw ?_;have hil:i=ts.length:=by omega
   rw[hil,List.take_length] at hin;exact⟨_,rfl,⟨-1,rfl,by rw[decide_eq_false hin];rfl⟩,rfl⟩
theorem pU (hv:aZ oz h O v ts) (s:By) :
 au Tryz.prog 76 #[v,.string (bs s)] h (bL fun r h'=>r= .bool (decide (s∈ts))/\h'=h):=by
 refine b9 ?_;refine af ?_;refine xo rfl (aF rfl (AI hv s)) ?_;rintro _ h ⟨⟨i,rfl,hi⟩,rfl⟩;refine af ?_;refine bw ?_;exact⟨_,rfl,by rw[hi];rfl,rfl⟩
def sr (u:Un):List Value:=[.int .i64 u.1,.string (bs u.2.1),.int .i64 u.2.2]
theorem zN (u:Un):∀v∈sr u,v.oneCell'=true:=fun v hv=>by simp[sr] at hv;rcases hv with rfl|rfl|rfl<;>rfl
abbrev Qg:gN Un:=.record 3 (by decide) sr (fun _=>rfl) zN
def Qj (us:List Un) (i:Nat) (b:Bool) (m:Int):PS->Prop
 |.ok r=>b=false/\r=us.drop i
 |.bad k=>b=true/\m=k
structure PC where
 pb:Nat
 lv:Value
 n0:Nat
 us:List Un
 e:Int
def Ec (T:TypeId) (eU:gN Un) (c:PC) (h:ai) (s:PS):Prop :=
 ∃i b m,aD h c.pb T [c.lv,.int .i64 (i:Nat),.int .i64 c.e,.bool b,.int .i64 m]/\aZ eU h (fun x=>x=c.pb\/c.n0<=x) c.lv c.us/\i<=c.us.length/\Qj c.us i b m s/\c.pb<c.n0/\c.n0<=h.size/\c.us.length<=1000
theorem Ec.ext {T:TypeId}{eU:gN Un}{c:PC}{h h':ai}{s:PS}{M:Nat->Prop}(k:Ec T eU c h s) (x:Ext M h h') (hM:∀b,b<c.n0->¬M b):Ec T eU c h' s:=by
 obtain⟨i,b,m,hk,hl,hi,hs,hp,hn⟩:=k;exact⟨i,b,m,hk.ext x (hM _ hp),hl.mv (Mv.cu x fun b _ ho=>⟨hM b (by omega),ho⟩),hi,hs,hp,Nat.le_trans hn.1 x.size,hn.2⟩
theorem Ec.ah {c:PC}{h':ai}(k:Ec T eU c h s) (x:aj h h'):Ec T eU c h' s:=k.ext x (fun _ _ k=>k)
theorem Ec.lt {T:TypeId}{eU:gN Un}{c:PC}{h:ai}{s:PS}(k:Ec T eU c h s):c.pb<h.size:=by
 obtain⟨i,b,m,hk,_⟩:=k;exact hk.lt
theorem Ec.old {c:PC}(k:Ec T eU c h s):c.pb<c.n0/\c.n0<=h.size:=by
 obtain⟨i,b,m,_,_,_,_,h1,h2⟩:=k;exact⟨h1,h2.1⟩
theorem Ec.short {c:PC}(k:Ec T eU c h s):c.us.length<=1000/\s.len<=c.us.length:=by
 obtain⟨i,b,m,_,_,_,hs,_,h2⟩:=k;refine⟨h2.2,?_⟩;cases s with
 |bad q=>exact Nat.zero_le _
 |ok r=>obtain⟨_,rfl⟩:=hs;simp[PS.len]
abbrev rG:=Ec 100 Qg
theorem G8 {oa:Option Addr}{c:Nat}{us:List Un}{i:Nat}{r:List Un}(_:Sl eU h O oa n c us) (hi:u::r=us.drop i):us[i]? =some u/\i<us.length/\r=us.drop (i+1):=by
 have h0:(us.drop i)[0]? =some u:=by rw[<-hi];rfl
 rw[List.getElem?_drop,Nat.add_zero] at h0;refine⟨h0,(List.getElem?_eq_some_iff.1 h0).1,?_⟩;rw[<-List.tail_drop,<-hi];rfl
theorem Dc {us:List Un}{i:Nat}(hi:[]=us.drop i) (hl:i<=us.length):i=us.length:=by
 have:=List.drop_eq_nil_iff.1 hi.symm;omega
abbrev ptr (b:Nat):Value:=.pointer (some ⟨b,0,none⟩)
abbrev QY (o:Option By):Value:=packed [.string (bs (o.getD [])),.bool o.isSome]
theorem bA {c:PC}(hp:rG c h s) (k:Int){tv:Value}(ht:aZ oz h O tv ts) :
 au Tryz.prog 32 #[ptr c.pb,.int .i64 k,tv] h (bL fun r h'=>r=QY (bE k ts s).1/\rG c h' (bE k ts s).2/\Ext (fun b=>b=c.pb) h h'):=by
 obtain⟨pb,lv,n0,us,e⟩:=c;obtain⟨i,b,m,hk,hl,hi,hs,hpn,hn0⟩:=id hp;dsimp only at hk hl hi hs hpn hn0 ⊢;obtain⟨la,ln,lc,rfl,hls⟩:=hl.open;have hln:us.length=ln:=hls.len;subst hln;have hlm:=hls.cap;have hlc:=hls.le;simp only[maxLen] at hlm;cases s with
 |bad q =>
  obtain⟨rfl,rfl⟩:=hs;refine b9 ?_;refine bl ?_;refine cW ?_
  iterate 2 refine bz ?_
  refine dH ?_
  iterate 2 refine bl ?_
  refine GS ?_
  iterate 3 refine uE ?_
  refine cG rfl (aA rfl (hk.cell (i:=3) rfl)) ?_;refine uE ?_;refine RQ.cy (d:=12) (b':=true) rfl (rfl) ?_;refine af ?_;refine fH rfl (by simp) ?_;refine af ?_;refine bw ?_;exact⟨_,rfl,rfl,hp,Ext.refl _ _⟩
  |ok r =>
  obtain⟨rfl,hr⟩:=hs;cases r with
  |nil =>
   have hie:=Dc hr hi;refine b9 ?_;refine bl ?_;refine cW ?_
   iterate 2 refine bz ?_
   refine dH ?_
   iterate 2 refine bl ?_
   refine GS ?_;refine af ?_;refine cG rfl (aA rfl (hk.cell (i:=3) rfl)) ?_;refine af ?_;refine RQ.cy (d:=12) (b':=false) rfl (rfl) ?_;refine af ?_;refine cG rfl (aA rfl (hk.cell (i:=1) rfl)) ?_;refine af ?_;refine cG rfl (aA rfl (hk.cell (i:=0) rfl)) ?_;refine af ?_;refine RQ.cy (d:=24) (b':=true) rfl (decide_eq_true ((by omega))) ?_;refine af ?_;refine fH rfl (by simp) ?_;refine af ?_;refine bw ?_;exact⟨_,rfl,rfl,hp,Ext.refl _ _⟩
   |cons u r =>
   obtain⟨hu,hil,hr'⟩:=G8 hls hr;obtain⟨b1,o1,u',hua,hub,hu',hrow⟩:=hls.xZ hil;rw[hu] at hu';cases hu';have c0:=hrow 0 _ rfl;have c1:=hrow 1 _ rfl;refine b9 ?_;refine bl ?_;refine cW ?_
   iterate 2 refine bz ?_
   refine dH ?_
   iterate 2 refine bl ?_
   refine GS ?_;refine af ?_;refine cG rfl (aA rfl (hk.cell (i:=3) rfl)) ?_;refine af ?_;refine RQ.cy (d:=12) (b':=false) rfl (rfl) ?_;refine af ?_;refine cG rfl (aA rfl (hk.cell (i:=1) rfl)) ?_;refine af ?_;refine cG rfl (aA rfl (hk.cell (i:=0) rfl)) ?_;refine af ?_;refine RQ.cy (d:=24) (b':=false) rfl (decide_eq_false ((by omega))) ?_;refine af ?_;refine cG rfl (aA rfl (hk.cell (i:=0) rfl)) ?_;refine af ?_;refine cG rfl (aA rfl (hk.cell (i:=1) rfl)) ?_;refine cG rfl (cM rfl rfl i rfl hua) ?_;refine af ?_;refine cG rfl (aA rfl c0) ?_;refine af ?_;refine Qo 39 (fun hkk=>?_) (fun hkk=>?_)
   · have hkk:=of_decide_eq_true hkk;refine af ?_;refine fH rfl (by simp[hkk]) ?_;refine af ?_;refine bw ?_;have hno:bE k ts (.ok (u::r))=(none,.ok (u::r)):=by rw[lG,if_neg (fun q=>hkk (by rw[q.1]))]
     exact⟨_,rfl,by rw[hno];rfl,by rw[hno];exact hp,Ext.refl _ _⟩
   · have hkk:=of_decide_eq_false hkk;have hkk:u.1=k:=by simpa using hkk
     refine af ?_;refine cG rfl (aA rfl (hk.cell (i:=0) rfl)) ?_;refine af ?_;refine cG rfl (aA rfl (hk.cell (i:=1) rfl)) ?_;refine cG rfl (cM rfl rfl i rfl hua) ?_;refine af ?_;refine cG rfl (aA rfl c1) ?_;refine P5 (pU ht u.2.1) ?_;refine af ?_;refine jo (fun hin=>?_) (fun hin=>?_)
     · have hin:u.2.1∉ts:=by simpa using hin
       refine af ?_;refine bw ?_;have hno:bE k ts (.ok (u::r))=(none,.ok (u::r)):=by rw[lG,if_neg (fun q=>hin q.2)]
       exact⟨_,rfl,by rw[hno];rfl,by rw[hno];exact hp,Ext.refl _ _⟩
     · have hin:u.2.1∈ts:=by simpa using hin
       refine af ?_;refine xp rfl (aA rfl (hk.cell (i:=1) rfl)) ?_;refine af ?_;refine aN rfl (mG rfl rfl hk) ?_;rintro _ h1 ⟨rfl,k1,x1,z1⟩;refine af ?_;have hls1:=hls.mv (Mv.cu x1 fun b _ ho=>⟨fun q=>ho (.inl q),ho⟩);obtain⟨b2,o2,u2,hua2,hub2,hu2,hrow2⟩:=hls1.xZ hil;rw[hu] at hu2;cases hu2;refine cG rfl (aA rfl (k1.cell (i:=0) rfl)) ?_;refine af ?_;refine cG rfl (aA rfl (k1.cell (i:=1) rfl)) ?_;refine uE ?_;refine cG rfl (cM rfl rfl i (by omega) hua2) ?_;refine af ?_;refine cG rfl (aA rfl (hrow2 1 _ rfl)) ?_;refine af ?_;refine bw ?_;have hyes:bE k ts (.ok (u::r))=(some u.2.1,.ok r):=by rw[lG,if_pos ⟨hkk,hin⟩]
       refine⟨_,rfl,by rw[hyes];rfl,?_,x1⟩;rw[hyes];exact⟨i+1,false,m,k1,hls1.shut,hil,⟨rfl,hr'⟩,hpn,by have:=x1.size;dsimp only;omega⟩
abbrev Qe:Value:=.agg #[.int .i64 0,.string (bs []),.slice none 0 0]
theorem eE {c:PC}(hp:rG c h s) :
 au Tryz.prog 33 #[ptr c.pb] h (bL fun r h'=>r=Qe/\rG c h' (cB c.e s)/\Ext (fun b=>b=c.pb) h h'):=by
 obtain⟨pb,lv,n0,us,e⟩:=c;obtain⟨i,b,m,hk,hl,hi,hs,hpn,hn0⟩:=id hp;dsimp only at hk hl hi hs hpn hn0 ⊢;obtain⟨la,ln,lc,rfl,hls⟩:=hl.open;have hln:us.length=ln:=hls.len;subst hln;have hlm:=hls.cap;have hlc:=hls.le;simp only[maxLen] at hlm;have hpl:=hk.lt;cases s with
 |bad q =>
  obtain⟨rfl,rfl⟩:=hs;refine b9 ?_;refine af ?_;refine xo rfl (cH) ?_;rintro _ h1 ⟨rfl,k1,e1,z1⟩;refine af ?_;refine xp rfl (aA rfl ((hk.ah e1).cell (i:=3) rfl)) ?_;refine af ?_;refine gm rfl (by simp) ?_;refine af ?_;refine xp rfl (aq (H.Jk ) rfl) ?_;refine aN rfl (aV rfl rfl k1) ?_;rintro _ h2 ⟨rfl,k2,x2,z2⟩;refine af ?_;refine cn (cg rfl k2.row cm) ?_;exact⟨_,rfl,rfl,(hp.ah e1).ext x2 (fun y (hy:y<n0) q=>by omega),e1.of.bH x2 (fun y _ q=>by omega)⟩
  |ok r =>
  obtain⟨rfl,hr⟩:=hs;refine b9 ?_;refine af ?_;refine xo rfl (cH) ?_;rintro _ h1 ⟨rfl,k1,e1,z1⟩;refine af ?_;refine xp rfl (aA rfl ((hk.ah e1).cell (i:=3) rfl)) ?_;refine af ?_;have hk1:=hk.ah e1;refine fH rfl (by simp) ?_;refine af ?_;refine xp rfl (aA rfl (hk1.cell (i:=2) rfl)) ?_;refine af ?_;refine aN rfl (mG rfl rfl hk1) ?_;rintro _ h2 ⟨rfl,k2,x2,z2⟩;refine af ?_;refine aN rfl (mG rfl rfl k2) ?_;rintro _ h3 ⟨rfl,k3,x3,z3⟩;refine af ?_;have x13:=x2.trans x3;have hls3:=(hls.mv (Mv.ah e1)).mv (Mv.cu x13 fun b _ ho=>⟨fun q=>ho (.inl q),ho⟩);have k13:=k1.ext x13 (show ¬h.size=pb by omega);refine cG rfl (aA rfl (k3.cell (i:=1) rfl)) ?_;refine af ?_;refine cG rfl (aA rfl (k3.cell (i:=0) rfl)) ?_;refine af ?_;refine aX (fun hlt=>?_) (fun hlt=>?_)
  · have hil:i<us.length:=by omega
    obtain⟨b1,o1,u,hua,hub,hu,hrow⟩:=hls3.xZ hil;refine LH 15 14 ?_;refine aG 0 ?_;refine aG 1 ?_;refine aG 2 ?_;refine aG 3 ?_;refine bJ 4 rfl (fun h' e=>aA rfl (e.old (k3.cell (i:=0) rfl))) ?_;refine aG 5 ?_;refine aG 6 ?_;refine aG 7 ?_;refine bJ 8 rfl (fun h' e=>aA rfl (e.old (k3.cell (i:=1) rfl))) ?_;refine bJ 9 rfl (fun h' e=>cM rfl rfl i rfl hua) ?_;refine aG 10 ?_;refine bJ 11 rfl (fun h' e=>aA rfl (e.old (hrow 2 _ rfl))) ?_;refine K3 12 ?_;refine aG 13 ?_;refine jZ 14 rfl (mG rfl rfl k3) ?_;rintro _ h4 ⟨rfl,k4,x4,z4⟩;refine⟨nofun,?_⟩;refine iO ?_;refine af ?_;refine xp rfl (aq (H.Jk ) rfl) ?_;refine aN rfl (aV rfl rfl ((k13.ext x4 (show ¬h.size=pb by omega)))) ?_;rintro _ h5 ⟨rfl,k5,x5,z5⟩;refine af ?_;refine cn (cg rfl k5.row cm) ?_;have hr2:r=u::us.drop (i+1):=by rw[hr,List.drop_eq_getElem_cons hil];congr 1;rw[List.getElem?_eq_getElem hil] at hu;exact Option.some.inj hu
    subst hr2;have hls4:=hls3.mv (Mv.cu x4 fun b _ ho=>⟨fun q=>ho (.inl q),ho⟩);refine⟨_,rfl,rfl,Ec.ext (c:=⟨pb,_,n0,us,e⟩) (M:=fun b=>b=h.size) ⟨i,true,u.2.2,k4,hls4.shut,hi,⟨rfl,rfl⟩,hpn,by dsimp only;omega⟩ x5 (fun y (hy:y<n0) q=>by omega),((e1.of.trans x13).trans x4).bH x5 (fun y _ q=>by omega)⟩
  · refine af ?_;refine xp rfl (aq (H.Jk ) rfl) ?_;refine aN rfl (aV rfl rfl k13) ?_;rintro _ h5 ⟨rfl,k5,x5,z5⟩;refine af ?_;refine cn (cg rfl k5.row cm) ?_;have hil:i=us.length:=by omega
    have hr2:r=[]:=by rw[hr,hil,List.drop_length]
    subst hr2;refine⟨_,rfl,rfl,Ec.ext (c:=⟨pb,_,n0,us,e⟩) (M:=fun b=>b=h.size) ⟨i,true,e,k3,hls3.shut,hi,⟨rfl,rfl⟩,hpn,by dsimp only;omega⟩ x5 (fun y (hy:y<n0) q=>by omega),(e1.of.trans x13).bH x5 (fun y _ q=>by omega)⟩
theorem gH {c:PC}(hp:rG c h s) (k:Int) (t:By) :
 au Tryz.prog 111 #[ptr c.pb,.int .i64 k,.string (bs t)] h (bL fun r h'=>rG c h' (ck c.e k t s)/\Ext (fun b=>b=c.pb) h h'):=by
 have hpl:=hp.lt;refine b9 ?_;refine af ?_;refine xo rfl (jb [_]) ?_;rintro _ h1 ⟨rfl,hh1⟩;have e1:aj h h1:=by rw[hh1];exact Ext.push _ _ _
 have NM:aZ oz h1 (fun _=>False) (.slice (some ⟨h.size,0,none⟩) 1 1) [t]:=by rw[hh1];exact bB h [t] _ rfl (by simp[maxLen]) rfl
 refine xo rfl (aF rfl (bA (hp.ah e1) k NM)) ?_;rintro _ h2 ⟨rfl,hp2,x2⟩;refine af ?_;refine jo (fun hq=>?_) (fun hq=>?_)
 · have hq:(bE k [t] s).1=none:=by simpa using hq
   have hm:ck c.e k t s=cB c.e (bE k [t] s).2:=by unfold ck;rw[hq]
   refine af ?_;refine xo rfl (aF rfl (eE hp2)) ?_;rintro _ h3 ⟨rfl,hp3,x3⟩;refine af ?_;refine GU ?_;exact⟨_,rfl,by rw[hm];exact hp3,e1.of.trans (x2.trans x3)⟩
 · refine af ?_;refine GU ?_
   have hm:ck c.e k t s=(bE k [t] s).2:=by
    unfold ck;cases hs:(bE k [t] s).1 with
    |some x=>rfl
    |none=>rw[hs] at hq;simp at hq
   exact⟨_,rfl,by rw[hm];exact hp2,e1.of.trans x2⟩
theorem sS {c:PC}(hp:rG c h s) :
 au Tryz.prog 110 #[ptr c.pb] h (bL fun r h'=>r= .string (bs (bZ c.e s).1)/\rG c h' (bZ c.e s).2/\Ext (fun b=>b=c.pb) h h'):=by
 obtain⟨pb,lv,n0,us,e⟩:=c;obtain⟨i,b,m,hk,hl,hi,hs,hpn,hn0⟩:=id hp;dsimp only at hk hl hi hs hpn hn0 ⊢;obtain⟨la,ln,lc,rfl,hls⟩:=hl.open;have hln:us.length=ln:=hls.len;subst hln;have hlm:=hls.cap;have hlc:=hls.le;simp only[maxLen] at hlm;have hf:=eE hp;dsimp only at hf;cases s with
 |bad q =>
  obtain⟨rfl,rfl⟩:=hs;refine b9 ?_;refine bl ?_;refine cW ?_;refine bz ?_;refine dH ?_
  iterate 2 refine bl ?_
  refine GS ?_
  iterate 3 refine uE ?_
  refine cG rfl (aA rfl (hk.cell (i:=3) rfl)) ?_;refine uE ?_;refine RQ.cy (d:=7) (b':=true) rfl (rfl) ?_;refine af ?_;refine fH rfl (by simp) ?_;refine af ?_;refine xo rfl (aF rfl hf) ?_;rintro _ h2 ⟨rfl,hp2,x2⟩;refine af ?_;refine bw ?_;exact⟨_,rfl,rfl,hp2,x2⟩
  |ok r =>
  obtain⟨rfl,hr⟩:=hs;cases r with
  |nil =>
   have hie:=Dc hr hi;refine b9 ?_;refine bl ?_;refine cW ?_;refine bz ?_;refine dH ?_
   iterate 2 refine bl ?_
   refine GS ?_
   iterate 3 refine uE ?_
   refine cG rfl (aA rfl (hk.cell (i:=3) rfl)) ?_;refine af ?_;refine RQ.cy (d:=7) (b':=false) rfl (rfl) ?_;refine af ?_;refine cG rfl (aA rfl (hk.cell (i:=1) rfl)) ?_;refine af ?_;refine cG rfl (aA rfl (hk.cell (i:=0) rfl)) ?_;refine af ?_;refine RQ.cy (d:=19) (b':=true) rfl (decide_eq_true ((by omega))) ?_;refine af ?_;refine fH rfl (by simp) ?_;refine af ?_;refine xo rfl (aF rfl hf) ?_;rintro _ h2 ⟨rfl,hp2,x2⟩;refine af ?_;refine bw ?_;exact⟨_,rfl,rfl,hp2,x2⟩
   |cons u r =>
   obtain⟨hu,hil,hr'⟩:=G8 hls hr;obtain⟨b1,o1,u',hua,hub,hu',hrow⟩:=hls.xZ hil;rw[hu] at hu';cases hu';have c0:=hrow 0 _ rfl;refine b9 ?_;refine bl ?_;refine cW ?_;refine bz ?_;refine dH ?_
   iterate 2 refine bl ?_
   refine GS ?_
   iterate 3 refine uE ?_
   refine cG rfl (aA rfl (hk.cell (i:=3) rfl)) ?_;refine af ?_;refine RQ.cy (d:=7) (b':=false) rfl (rfl) ?_;refine af ?_;refine cG rfl (aA rfl (hk.cell (i:=1) rfl)) ?_;refine af ?_;refine cG rfl (aA rfl (hk.cell (i:=0) rfl)) ?_;refine af ?_;refine RQ.cy (d:=19) (b':=false) rfl (decide_eq_false ((by omega))) ?_;refine af ?_;refine cG rfl (aA rfl (hk.cell (i:=0) rfl)) ?_;refine af ?_;refine cG rfl (aA rfl (hk.cell (i:=1) rfl)) ?_;refine cG rfl (cM rfl rfl i rfl hua) ?_;refine af ?_;refine cG rfl (aA rfl c0) ?_;refine af ?_;refine jo (fun hkk=>?_) (fun hkk=>?_)
   · have hkk:¬u.1=3:=by simpa using hkk
     refine af ?_;refine xo rfl (aF rfl hf) ?_;rintro _ h2 ⟨rfl,hp2,x2⟩;refine af ?_;refine bw ?_;have hno:bZ e (.ok (u::r))=([],cB e (.ok (u::r))):=by rw[iA,if_neg hkk]
     rw[hno];exact⟨_,rfl,rfl,hp2,x2⟩
   · have hkk:u.1=3:=by simpa using hkk
     refine af ?_;refine xp rfl (aA rfl (hk.cell (i:=1) rfl)) ?_;refine af ?_;refine aN rfl (mG rfl rfl hk) ?_;rintro _ h1 ⟨rfl,k1,x1,z1⟩;refine af ?_;have hls1:=hls.mv (Mv.cu x1 fun b _ ho=>⟨fun q=>ho (.inl q),ho⟩);obtain⟨b2,o2,u2,hua2,hub2,hu2,hrow2⟩:=hls1.xZ hil;rw[hu] at hu2;cases hu2;refine cG rfl (aA rfl (k1.cell (i:=0) rfl)) ?_;refine af ?_;refine cG rfl (aA rfl (k1.cell (i:=1) rfl)) ?_;refine uE ?_;refine cG rfl (cM rfl rfl i (by omega) hua2) ?_;refine af ?_;refine cG rfl (aA rfl (hrow2 1 _ rfl)) ?_;refine af ?_;refine bw ?_;have hyes:bZ e (.ok (u::r))=(u.2.1,.ok r):=by rw[iA,if_pos hkk]
     rw[hyes];exact⟨_,rfl,rfl,⟨i+1,false,m,k1,hls1.shut,hil,⟨rfl,hr'⟩,hpn,by have:=x1.size;dsimp only;omega⟩,x1⟩
def dX (c:PC) (h h':ai) (s':PS) (t:Tr) (r:Value):Prop :=
 Ext (fun b=>b=c.pb) h h'/\rG c h' s'/\∃t',eK h' (fun b=>b<h.size) r t'/\(s'.bI=false->t'=t)
def Ct (f:FuncId) (ex:List Value) (j:Fl) (n:Nat):Prop :=
 ∀(c:PC) (h:ai) (s:PS) (t:Tr) (s':PS),rG c h s->pM c.e n j s=some (t,s')->au Tryz.prog f (ptr c.pb::ex).toArray h (bL fun r h'=>dX c h h' s' t r)
structure Bi (n:Nat):Prop where
 stmt:Ct 31 [] .stmt n
 expr:Ct 75 [] .expr n
 lt:∀a,Ct 74 [.bool a] (.lt a) n
 choice:Ct 112 [] .choice n
 fn:Ct 113 [] .fn n
 block:Ct 145 [] .block n
 p0:Ct 114 [] (.part 0) n
 p1:Ct 146 [] (.part 1) n
 p2:Ct 169 [] (.part 2) n
 p3:Ct 182 [] (.part 3) n
 p4:Ct 195 [] (.part 4) n
 p5:Ct 201 [] (.part 5) n
 p6:Ct 203 [] (.part 6) n
 p7:Ct 205 [] (.part 7) n
 atom:Ct 206 [] .atom n
theorem dX.ret {c:PC}{g2 g3:ai}{b2:Nat}{s0:PS}{r:Value}(k:dX c g g2 s' t r) (hp:rG c h s0) (x:Ext (fun b=>b=c.pb) h g) (x3:Ext (fun b=>b=b2) g2 g3) (h1:h.size<=b2) (h2:b2<g.size):dX c h g3 s' t r:=by
 obtain⟨e1,k1,t',k2,k3⟩:=k;obtain⟨o1,o2⟩:=hp.old;have:=x.size;have:=e1.size;exact⟨(x.trans e1).bH x3 (fun i hi q=>by omega),k1.ext x3 (fun b hb q=>by omega),t',k2.ext x3 (fun b hb q=>⟨fun q2=>q (by omega),fun q2=>q (by omega)⟩),k3⟩
theorem Bk (ih:∀m,m<=n->Bi m):Ct 31 [] .stmt (n+1):=by
 intro c h s t s' hp hm;have hpl:=hp.lt;rw[pM] at hm;refine b9 ?_;refine af ?_;refine xo rfl (cH) ?_;rintro _ h1 ⟨rfl,k1,e1,z1⟩;refine af ?_;refine xo rfl (jb [_]) ?_;rintro _ w2 ⟨rfl,hw2⟩;have y2:aj h1 w2:=by rw[hw2];exact Ext.push _ _ _
 have ts2:aZ oz w2 (fun _=>False) (.slice (some ⟨Array.size h1,0,none⟩) 1 1) [oH]:=by rw[hw2];exact bB _ [oH] _ rfl (by simp[maxLen]) rfl
 refine xo rfl (aF rfl (bA ((hp.ah e1).ah y2) 4 ts2)) ?_;rintro _ h2 ⟨rfl,hp2,x2⟩;have x2:=y2.of.trans x2
 rcases hq2:bE 4 [oH] s with ⟨o2,s2⟩
 rw[hq2] at hp2 hm;have k2:=k1.ext x2 (show ¬h.size=c.pb by omega);have x02:=e1.of.trans x2
 rcases o2 with _|v2
 · simp only at hm;refine af ?_;refine gm rfl (by simp) ?_;refine af ?_;refine xo rfl (aF rfl ((ih n (Nat.le_refl _)).expr _ _ _ _ _ hp2 hm)) ?_;rintro r9 g9 ⟨y9,hp9,t9,hn9,ht9⟩;have k9:=(k2).ext y9 (show ¬h.size=c.pb by omega);obtain⟨nk,nt,na,nn,nc,rfl,_⟩:=hn9.get;refine aN rfl (aV rfl rfl k9) ?_;rintro _ g10 ⟨rfl,k10,x10,z10⟩;refine af ?_;refine cn (cg rfl k10.row cm) ?_;exact⟨_,rfl,dX.ret ⟨y9,hp9,t9,hn9,ht9⟩ hp (x02) x10 (Nat.le_refl _) (k2).lt⟩
 · simp only at hm;refine af ?_;refine fH rfl (by simp) ?_;refine af ?_;refine xo rfl (aF rfl ((ih n (Nat.le_refl _)).lt true _ _ _ _ _ hp2 hm)) ?_;rintro r9 g9 ⟨y9,hp9,t9,hn9,ht9⟩;have k9:=(k2).ext y9 (show ¬h.size=c.pb by omega);obtain⟨nk,nt,na,nn,nc,rfl,_⟩:=hn9.get;refine aN rfl (aV rfl rfl k9) ?_;rintro _ g10 ⟨rfl,k10,x10,z10⟩;refine af ?_;refine cn (cg rfl k10.row cm) ?_;exact⟨_,rfl,dX.ret ⟨y9,hp9,t9,hn9,ht9⟩ hp (x02) x10 (Nat.le_refl _) (k2).lt⟩
theorem Bl (ih:∀m,m<=n->Bi m):Ct 75 [] .expr (n+1):=by
 intro c h s t s' hp hm;have hpl:=hp.lt;rw[pM] at hm;refine b9 ?_;refine af ?_;refine xo rfl (cH) ?_;rintro _ h1 ⟨rfl,k1,e1,z1⟩;refine af ?_;refine xo rfl (jb [_]) ?_;rintro _ w2 ⟨rfl,hw2⟩;have y2:aj h1 w2:=by rw[hw2];exact Ext.push _ _ _
 have ts2:aZ oz w2 (fun _=>False) (.slice (some ⟨Array.size h1,0,none⟩) 1 1) [oH]:=by rw[hw2];exact bB _ [oH] _ rfl (by simp[maxLen]) rfl
 refine xo rfl (aF rfl (bA ((hp.ah e1).ah y2) 4 ts2)) ?_;rintro _ h2 ⟨rfl,hp2,x2⟩;have x2:=y2.of.trans x2
 rcases hq2:bE 4 [oH] s with ⟨o2,s2⟩
 rw[hq2] at hp2 hm;have k2:=k1.ext x2 (show ¬h.size=c.pb by omega);have x02:=e1.of.trans x2
 rcases o2 with _|v2
 · simp only at hm;refine af ?_;refine gm rfl (by simp) ?_;refine af ?_;refine xo rfl (jb [_]) ?_;rintro _ w3 ⟨rfl,hw3⟩;have y3:aj h2 w3:=by rw[hw3];exact Ext.push _ _ _
   have ts3:aZ oz w3 (fun _=>False) (.slice (some ⟨Array.size h2,0,none⟩) 1 1) [Bg]:=by rw[hw3];exact bB _ [Bg] _ rfl (by simp[maxLen]) rfl
   refine xo rfl (aF rfl (bA (hp2.ah y3) 4 ts3)) ?_;rintro _ h3 ⟨rfl,hp3,x3⟩;have x3:=y3.of.trans x3
   rcases hq3:bE 4 [Bg] s2 with ⟨o3,s3⟩
   rw[hq3] at hp3 hm;have k3:=k2.ext x3 (show ¬h.size=c.pb by omega);have x03:=x02.trans x3
   rcases o3 with _|v3
   · simp only at hm;refine af ?_;refine gm rfl (by simp) ?_;refine af ?_;refine xo rfl (jb [_]) ?_;rintro _ w4 ⟨rfl,hw4⟩;have y4:aj h3 w4:=by rw[hw4];exact Ext.push _ _ _
     have ts4:aZ oz w4 (fun _=>False) (.slice (some ⟨Array.size h3,0,none⟩) 1 1) [BA]:=by rw[hw4];exact bB _ [BA] _ rfl (by simp[maxLen]) rfl
     refine xo rfl (aF rfl (bA (hp3.ah y4) 4 ts4)) ?_;rintro _ h4 ⟨rfl,hp4,x4⟩;have x4:=y4.of.trans x4
     rcases hq4:bE 4 [BA] s3 with ⟨o4,s4⟩
     rw[hq4] at hp4 hm;have k4:=k3.ext x4 (show ¬h.size=c.pb by omega);have x04:=x03.trans x4
     rcases o4 with _|v4
     · simp only at hm;refine af ?_;refine gm rfl (by simp) ?_;refine af ?_;refine xo rfl (aF rfl ((ih n (Nat.le_refl _)).p0 _ _ _ _ _ hp4 hm)) ?_;rintro r9 g9 ⟨y9,hp9,t9,hn9,ht9⟩;have k9:=(k4).ext y9 (show ¬h.size=c.pb by omega);obtain⟨nk,nt,na,nn,nc,rfl,_⟩:=hn9.get;refine aN rfl (aV rfl rfl k9) ?_;rintro _ g10 ⟨rfl,k10,x10,z10⟩;refine af ?_;refine cn (cg rfl k10.row cm) ?_;exact⟨_,rfl,dX.ret ⟨y9,hp9,t9,hn9,ht9⟩ hp (x04) x10 (Nat.le_refl _) (k4).lt⟩
     · simp only at hm;refine af ?_;refine fH rfl (by simp) ?_;refine af ?_;refine xo rfl (aF rfl ((ih n (Nat.le_refl _)).fn _ _ _ _ _ hp4 hm)) ?_;rintro r9 g9 ⟨y9,hp9,t9,hn9,ht9⟩;have k9:=(k4).ext y9 (show ¬h.size=c.pb by omega);obtain⟨nk,nt,na,nn,nc,rfl,_⟩:=hn9.get;refine aN rfl (aV rfl rfl k9) ?_;rintro _ g10 ⟨rfl,k10,x10,z10⟩;refine af ?_;refine cn (cg rfl k10.row cm) ?_;exact⟨_,rfl,dX.ret ⟨y9,hp9,t9,hn9,ht9⟩ hp (x04) x10 (Nat.le_refl _) (k4).lt⟩
   · simp only at hm;refine af ?_;refine fH rfl (by simp) ?_;refine af ?_;refine xo rfl (aF rfl ((ih n (Nat.le_refl _)).choice _ _ _ _ _ hp3 hm)) ?_;rintro r9 g9 ⟨y9,hp9,t9,hn9,ht9⟩;have k9:=(k3).ext y9 (show ¬h.size=c.pb by omega);obtain⟨nk,nt,na,nn,nc,rfl,_⟩:=hn9.get;refine aN rfl (aV rfl rfl k9) ?_;rintro _ g10 ⟨rfl,k10,x10,z10⟩;refine af ?_;refine cn (cg rfl k10.row cm) ?_;exact⟨_,rfl,dX.ret ⟨y9,hp9,t9,hn9,ht9⟩ hp (x03) x10 (Nat.le_refl _) (k3).lt⟩
 · simp only at hm;refine af ?_;refine fH rfl (by simp) ?_;refine af ?_;refine xo rfl (aF rfl ((ih n (Nat.le_refl _)).lt false _ _ _ _ _ hp2 hm)) ?_;rintro r9 g9 ⟨y9,hp9,t9,hn9,ht9⟩;have k9:=(k2).ext y9 (show ¬h.size=c.pb by omega);obtain⟨nk,nt,na,nn,nc,rfl,_⟩:=hn9.get;refine aN rfl (aV rfl rfl k9) ?_;rintro _ g10 ⟨rfl,k10,x10,z10⟩;refine af ?_;refine cn (cg rfl k10.row cm) ?_;exact⟨_,rfl,dX.ret ⟨y9,hp9,t9,hn9,ht9⟩ hp (x02) x10 (Nat.le_refl _) (k2).lt⟩
theorem aS {j:Fl}(h:pM e n j s=some (t,s')) (hb:s'.bI=false):s.bI=false:=by
 cases s with
 |ok r=>rfl
 |bad m=>rw[HT h] at hb;cases hb
theorem aL {o:Option By}(h:bE k ts s=(o,s')) (hb:s'.bI=false):s.bI=false:=by
 cases s with
 |ok r=>rfl
 |bad m=>rw[Kl] at h;cases h;cases hb
theorem cV:(cB e s).bI=true:=by cases s<;>rfl
theorem cJ {t:By}(hb:(ck e k t s).bI=false):s.bI=false:=by
 cases s with
 |ok r=>rfl
 |bad m=>cases hb
theorem bC {c:PC}{g3:ai}{s0:PS}{t':Tr}(hp:rG c h s0) (x:Ext (fun b=>b=c.pb) h g) (k:rG c g s') (hn:eK g (fun b=>b<=h.size) v t') (ht:s'.bI=false->t'=t) (x3:Ext (fun b=>b=h.size) g g3):dX c h g3 s' t v:=by
 obtain⟨o1,o2⟩:=hp.old;have:=x.size;exact⟨x.bH x3 (fun i hi q=>by omega),k.ext x3 (fun b hb q=>by omega),t',hn.ext x3 (fun b hb q=>⟨fun q2=>q (by omega),fun q2=>q (by omega)⟩),ht⟩
theorem jE {g c b:Nat}(h:(Value.slice (some ⟨g,0,none⟩) n c).ownBlock=some b):b=g:=(Option.some.inj h).symm
theorem kW {t:ByteArray}{a:Option Addr}{c:Nat}:∀v∈[Value.int .i64 k,.string t,.slice a n c],v.oneCell'=true:=fun v hv=>by simp at hv;rcases hv with rfl|rfl|rfl<;>rfl
theorem uk {base:Nat}{e:TypeId}{size:Nat}{xs:List Value}(k:aB h base e size v n xs):∃a m c,v= .slice a m c:=by
 rcases k.2 with ⟨rfl,_⟩|⟨g,cap,cur,rfl,_⟩
 · exact⟨_,_,_,rfl⟩
 · exact⟨_,_,_,rfl⟩
theorem C5 (ih:∀m,m<=n->Bi m) (al:Bool):Ct 74 [.bool al] (.lt al) (n+1):=by
 intro c h s t s' hp hm;have hpl:=hp.lt;obtain⟨o1,o2⟩:=hp.old;rw[pM] at hm;obtain⟨v,s1,hv,hm⟩:=ay hm;refine b9 ?_;refine af ?_;refine xo rfl (cH) ?_;rintro _ h1 ⟨rfl,k1,e1,z1⟩;refine af ?_;refine xo rfl (aF rfl (sS (hp.ah e1))) ?_;rintro _ h2 ⟨rfl,hp2,x2⟩;refine xp rfl (aq (H.iM _ _) rfl) ?_;refine xo rfl (cH) ?_;rintro _ h3 ⟨rfl,k3,e3,z3⟩;refine aN rfl (aV rfl rfl k3) ?_;rintro _ h4 ⟨rfl,k4,x4,z4⟩;have z2:=x2.size;have hp4:=(hp2.ah e3).ext x4 (fun b hb q=>by omega);refine af ?_;refine xo rfl (aF rfl (gH hp4 6 [61])) ?_;rintro _ h5 ⟨hp5,x5⟩;have z5:=x5.size;refine af ?_;refine xo rfl (aF rfl ((ih n (Nat.le_refl _)).expr _ _ _ _ _ hp5 hv)) ?_;rintro r6 h6 ⟨y6,hp6,t6,hn6,ht6⟩;have z6:=y6.size;obtain⟨nk,nt,na,nn,nc,rfl,hr6⟩:=hn6.get;have k6:=(k4.ext x5 (show ¬h2.size=c.pb by omega)).ext y6 (show ¬h2.size=c.pb by omega);refine xo rfl (rJ) ?_;rintro _ h7 ⟨rfl,hh7⟩;have e7:aj h6 h7:=by rw[hh7];exact Ext.push _ _ _
 have z7:h7.size=h6.size+1:=by rw[hh7];simp
 have ho7:cF eN (fun b=>b<h5.size) h7 h6.size 27 (.slice (some ⟨h6.size,0,none⟩) 1 1) [t6]:=by rw[hh7];exact cF.mJ hr6 (Nat.le_refl _)
 refine af ?_;refine aN rfl (mG rfl rfl ((k6.ah e7))) ?_;rintro _ h8 ⟨rfl,k8,x8,z8⟩;have k8:aD h8 h2.size 27 [.int .i64 7,.string (bs (bZ c.e s).1),.slice (some ⟨h6.size,0,none⟩) 1 1]:=k8;have ho8:cF eN (fun b=>b<h5.size) h8 h6.size 27 (.slice (some ⟨h6.size,0,none⟩) 1 1) [t6]:=ho7.rL x8 (fun b q q2=>by have:=jE q;omega) (fun b hb q=>by omega) (fun _ _ q=>q);have hp8:=(hp6.ah e7).ext x8 (fun b hb q=>by omega);have x08:Ext (fun b=>b=c.pb) h h8:=((((((e1.of.trans x2).trans e3.of).bH x4 (fun i hi q=>by omega)).trans x5).trans y6).trans e7.of).bH x8 (fun i hi q=>by omega);have q8:=(((((((k1.ext x2 (show ¬h.size=c.pb by omega)).ah e3).ext x4 (show ¬h.size=h2.size by omega)).ext x5 (show ¬h.size=c.pb by omega)).ext y6 (show ¬h.size=c.pb by omega)).ah e7).ext x8 (show ¬h.size=h2.size by omega))
 refine af ?_;refine xo rfl (jb [_]) ?_;rintro _ w9 ⟨rfl,hw9⟩;have y9:aj h8 w9:=by rw[hw9];exact Ext.push _ _ _
 have ts9:aZ oz w9 (fun _=>False) (.slice (some ⟨Array.size h8,0,none⟩) 1 1) [JO]:=by rw[hw9];exact bB _ [JO] _ rfl (by simp[maxLen]) rfl
 refine xo rfl (aF rfl (bA (hp8.ah y9) 4 ts9)) ?_;rintro _ h9 ⟨rfl,hp9,x9⟩;have x9:=y9.of.trans x9
 rcases hq9:bE 4 [JO] s1 with ⟨o9,s9⟩
 rw[hq9] at hp9 hm;have z9:=x9.size;have k9:=k8.ext x9 (show ¬h2.size=c.pb by omega);have q9:=q8.ext x9 (show ¬h.size=c.pb by omega);have x09:=x08.trans x9;have ho9:cF eN (fun b=>b<h5.size) h9 h6.size 27 (.slice (some ⟨h6.size,0,none⟩) 1 1) [t6]:=ho8.rL x9 (fun b q q2=>by have:=jE q;omega) (fun b hb q=>by omega) (fun _ _ q=>q)
 rcases o9 with _|v9
 · simp only at hm;have e9:=aE hq9;have hs9:aZ eN h9 (fun b=>b<=h.size) _ [t6]:=ho9.EL (fun b q q2=>by have:=jE q;omega) (fun b hb q=>by omega);refine af ?_;refine gm rfl (by simp) ?_;refine af ?_;refine jo (fun ha=>?_) (fun ha=>?_)
   · have ha:al=false:=by simpa using ha
     subst ha;simp only[Bool.false_eq_true,if_false] at hm;obtain⟨rfl,rfl⟩:Tr.mk 7 (bZ c.e s).1 [v]=t/\cB c.e s9=s':=by cases hm;exact⟨rfl,rfl⟩
     refine af ?_;refine xo rfl (aF rfl (eE hp9)) ?_;rintro _ h10 ⟨rfl,hp10,x10⟩;refine af ?_;refine xp rfl (b7 rfl (k9.ext x10 (show ¬h2.size=c.pb by omega)).row) ?_;refine aN rfl (aV rfl rfl ((q9.ext x10 (show ¬h.size=c.pb by omega))) kW) ?_;rintro _ hz ⟨rfl,kz,xz,zz⟩;refine af ?_;refine cn (cg rfl kz.row cm) ?_;exact⟨_,rfl,bC hp (x09.trans x10) hp10 (eK.shut (hs9.mv (Mv.cu x10 fun b hb q=>⟨fun q2=>q (by omega),q⟩))) (fun q=>by rw[cV] at q;cases q) xz⟩
   · have ha:al=true:=by simpa using ha
     subst ha;simp only[if_true] at hm;obtain⟨rfl,rfl⟩:Tr.mk 7 (bZ c.e s).1 [v]=t/\s9=s':=by cases hm;exact⟨rfl,rfl⟩
     refine af ?_;refine xp rfl (b7 rfl k9.row) ?_;refine aN rfl (aV rfl rfl q9 kW) ?_;rintro _ hz ⟨rfl,kz,xz,zz⟩;refine af ?_;refine cn (cg rfl kz.row cm) ?_;exact⟨_,rfl,bC hp x09 hp9 (eK.shut hs9) (fun q=>by rw[ht6 (aL hq9 q)]) xz⟩
 · simp only at hm;obtain⟨w,s3,hw,hm⟩:=ay hm;obtain⟨rfl,rfl⟩:Tr.mk 7 (bZ c.e s).1 [v,w]=t/\s3=s':=by cases hm;exact⟨rfl,rfl⟩
   refine af ?_;refine fH rfl (by simp) ?_;refine lO 8 (fun b=>b=c.pb\/b=h6.size\/Array.size h9<=b) (fun i=>Nat.blt i 7) ?_;refine aG 0 ?_;refine bJ 1 rfl (fun h' e=>aA rfl (e.cell (by dsimp only;omega) (k9.cell (i:=2) rfl))) ?_;refine aG 2 ?_;refine dR 3 rfl (aF rfl ((ih n (Nat.le_refl _)).expr _ _ _ _ _ hp9 hw)) ?_;rintro r10 h10 ⟨y10,hp10,t10,hn10,ht10⟩;refine⟨fun _=>y10.mono (fun _ _ q=>.inl q),?_⟩;have z10:=y10.size;obtain⟨mk,mt,ma,mn,mc,rfl,hr10⟩:=hn10.get;have ho10:cF eN (fun b=>b<h5.size) h10 h6.size 27 (.slice (some ⟨h6.size,0,none⟩) 1 1) [t6]:=ho9.rL y10 (fun b q q2=>by have:=jE q;omega) (fun b hb q=>by omega) (fun _ _ q=>q);obtain⟨css,hc1,hc2,hc3⟩:=id ho10;have hc2:aB h10 h6.size 27 3 (.slice (some ⟨h6.size,0,none⟩) 1 1) 1 css.flatten:=hc2;refine dR 4 rfl (rJ) ?_;rintro _ _ ⟨rfl,rfl⟩;refine⟨fun _=>by first|exact Ext.push _ _ _|assumption,?_⟩;refine dR 5 rfl (xO rfl rfl hc2 rfl rfl) ?_;rintro v12 h12 ⟨ho12,hx12,hx12',hv12⟩;refine⟨fun _=>hx12'.mono (fun b _ q=>.inr (.inl (Option.some.inj q))),?_⟩;have k12:=(k9.ext y10 (show ¬h2.size=c.pb by omega)).ext hx12 (fun q=>by have:=jE (Eq.symm q);omega);obtain⟨va,vm,vc,rfl⟩:=uk ho12;refine aG 6 ?_;refine jZ 7 rfl (mG rfl rfl k12) ?_;rintro _ h13 ⟨rfl,k13,x13,z13⟩;refine⟨nofun,?_⟩;refine iO ?_;refine af ?_;have k13:aD h13 h2.size 27 [.int .i64 7,.string (bs (bZ c.e s).1),.slice va vm vc]:=k13;have z12:=hx12.size
   have hr10':eN.R h10 (fun b=>cx (Value.slice (some ⟨h6.size,0,none⟩) 1 1).ownBlock b\/b<h5.size) [.int .i64 mk,.string (bs mt),.slice ma mn mc] t10:=bM hr10 (Ext.refl (fun _=>False) _) (fun b hb q=>⟨fun k=>k,fun q2=>by
    rcases q2 with q2|q2
    · have:=jE (Eq.symm q2);omega
    · omega⟩)
   have ho12x:cF eN (fun b=>b<h5.size) h12 h6.size 27 (.slice va vm vc) [t6,t10]:=cF.fq hc1 hc3 ho12 hx12 hv12 hr10';have q13:=((q9.ext y10 (show ¬h.size=c.pb by omega)).ext hx12 (fun q=>by have:=jE (Eq.symm q);omega)).ext x13 (show ¬h.size=h2.size by omega);have hs13:aZ eN h13 (fun b=>b<=h.size) (.slice va vm vc) [t6,t10]:=(ho12x.rL x13 (fun b q q2=>by have:=(ho12.lt q).1;omega) (fun b hb q=>by omega) (fun _ _ q=>q)).read (fun b hb q=>by omega) (fun b hb q=>by omega);have x013:Ext (fun b=>b=c.pb) h h13:=((x09.trans y10).bH hx12 (fun i hi q=>by have:=jE (Eq.symm q);omega)).bH x13 (fun i hi q=>by omega);have hp13:rG c h13 s3:=(hp10.ext hx12 (fun b hb q=>by have:=jE (Eq.symm q);omega)).ext x13 (fun b hb q=>by omega);refine xp rfl (b7 rfl k13.row) ?_;refine aN rfl (aV rfl rfl q13 kW) ?_;rintro _ hz ⟨rfl,kz,xz,zz⟩;refine af ?_;refine cn (cg rfl kz.row cm) ?_;exact⟨_,rfl,bC hp x013 hp13 (eK.shut hs13) (fun q=>by rw[ht6 (aL hq9 (aS hw q)),ht10 q]) xz⟩
theorem C6 (ih:∀m,m<=n->Bi m):Ct 113 [] .fn (n+1):=by
 intro c h s t s' hp hm;have hpl:=hp.lt;obtain⟨o1,o2⟩:=hp.old;rw[pM] at hm;refine b9 ?_;refine af ?_;refine xo rfl (cH) ?_;rintro _ h1 ⟨rfl,k1,e1,z1⟩;refine af ?_;refine xo rfl (aF rfl (sS (hp.ah e1))) ?_;rintro _ h2 ⟨rfl,hp2,x2⟩;refine xp rfl (aq (H.iM _ _) rfl) ?_;refine xo rfl (cH) ?_;rintro _ h3 ⟨rfl,k3,e3,z3⟩;refine aN rfl (aV rfl rfl k3) ?_;rintro _ h4 ⟨rfl,k4,x4,z4⟩;have z2:=x2.size;have hp4:=(hp2.ah e3).ext x4 (fun b hb q=>by omega);have x04:Ext (fun b=>b=c.pb) h h4:=((e1.of.trans x2).trans e3.of).bH x4 (fun i hi q=>by omega);have q4:=((k1.ext x2 (show ¬h.size=c.pb by omega)).ah e3).ext x4 (show ¬h.size=h2.size by omega);refine af ?_;refine xo rfl (jb [_]) ?_;rintro _ w5 ⟨rfl,hw5⟩;have y5:aj h4 w5:=by rw[hw5];exact Ext.push _ _ _
 have ts5:aZ oz w5 (fun _=>False) (.slice (some ⟨Array.size h4,0,none⟩) 1 1) [[44]]:=by rw[hw5];exact bB _ [[44]] _ rfl (by simp[maxLen]) rfl
 refine xo rfl (aF rfl (bA (hp4.ah y5) 6 ts5)) ?_;rintro _ h5 ⟨rfl,hp5,x5⟩;have x5:=y5.of.trans x5
 rcases hq5:bE 6 [[44]] (bZ c.e s).2 with ⟨o5,s5⟩
 rw[hq5] at hp5 hm;have z5:=x5.size;have k5:=k4.ext x5 (show ¬h2.size=c.pb by omega);have q5:=q4.ext x5 (show ¬h.size=c.pb by omega);have x05:=x04.trans x5
 rcases o5 with _|v5
 · simp only at hm;obtain⟨v,s1,hv,hm⟩:=ay hm;obtain⟨rfl,rfl⟩:Tr.mk 8 (bZ c.e s).1 [v]=t/\s1=s':=by cases hm;exact⟨rfl,rfl⟩
   refine af ?_;refine gm rfl (by simp) ?_;refine af ?_;refine xo rfl (aF rfl (gH hp5 6 [45,62])) ?_;rintro _ hb ⟨hpb,xb⟩;have zb:=xb.size;refine af ?_;refine xo rfl (aF rfl ((ih n (Nat.le_refl _)).expr _ _ _ _ _ hpb hv)) ?_;rintro r6 h6 ⟨y6,hp6,t6,hn6,ht6⟩;have z6:=y6.size;obtain⟨nk,nt,na,nn,nc,rfl,hr6⟩:=hn6.get;refine xo rfl (rJ) ?_;rintro _ h7 ⟨rfl,hh7⟩;have e7:aj h6 h7:=by rw[hh7];exact Ext.push _ _ _
   have z7:h7.size=h6.size+1:=by rw[hh7];simp
   have hs7:aZ eN h7 (fun b=>b<Array.size hb) (.slice (some ⟨h6.size,0,none⟩) 1 1) [t6]:=by rw[hh7];exact lu hr6 (by omega)
   refine af ?_;refine aN rfl (mG rfl rfl ((((k5.ext xb (show ¬h2.size=c.pb by omega)).ext y6 (show ¬h2.size=c.pb by omega)).ah e7))) ?_;rintro _ h8 ⟨rfl,k8,x8,z8⟩;have k8:aD h8 h2.size 27 [.int .i64 8,.string (bs (bZ c.e s).1),.slice (some ⟨h6.size,0,none⟩) 1 1]:=k8;refine af ?_;refine xp rfl (b7 rfl k8.row) ?_;refine aN rfl (aV rfl rfl (((((q5.ext xb (show ¬h.size=c.pb by omega)).ext y6 (show ¬h.size=c.pb by omega)).ah e7).ext x8 (show ¬h.size=h2.size by omega))) kW) ?_;rintro _ hz ⟨rfl,kz,xz,zz⟩;refine af ?_;refine cn (cg rfl kz.row cm) ?_;exact⟨_,rfl,bC hp ((((x05.trans xb).trans y6).trans e7.of).bH x8 (fun i hi q=>by omega)) ((hp6.ah e7).ext x8 (fun b hb q=>by omega)) (eK.shut (hs7.mv (Mv.cu x8 fun b hb q=>⟨fun q2=>q (by omega),fun q2=>q (by omega)⟩))) (fun q=>by rw[ht6 q]) xz⟩
 · simp only at hm;obtain⟨v,s1,hv,hm⟩:=ay hm;obtain⟨rfl,rfl⟩:Tr.mk 8 (bZ c.e s).1 [v]=t/\s1=s':=by cases hm;exact⟨rfl,rfl⟩
   refine af ?_;refine fH rfl (by simp) ?_;refine af ?_;refine xo rfl (aF rfl ((ih n (Nat.le_refl _)).fn _ _ _ _ _ hp5 hv)) ?_;rintro r6 h6 ⟨y6,hp6,t6,hn6,ht6⟩;have z6:=y6.size;obtain⟨nk,nt,na,nn,nc,rfl,hr6⟩:=hn6.get;refine xo rfl (rJ) ?_;rintro _ h7 ⟨rfl,hh7⟩;have e7:aj h6 h7:=by rw[hh7];exact Ext.push _ _ _
   have z7:h7.size=h6.size+1:=by rw[hh7];simp
   have hs7:aZ eN h7 (fun b=>b<Array.size h5) (.slice (some ⟨h6.size,0,none⟩) 1 1) [t6]:=by rw[hh7];exact lu hr6 (by omega)
   refine af ?_;refine aN rfl (mG rfl rfl (((k5.ext y6 (show ¬h2.size=c.pb by omega)).ah e7))) ?_;rintro _ h8 ⟨rfl,k8,x8,z8⟩;have k8:aD h8 h2.size 27 [.int .i64 8,.string (bs (bZ c.e s).1),.slice (some ⟨h6.size,0,none⟩) 1 1]:=k8;refine af ?_;refine xp rfl (b7 rfl k8.row) ?_;refine aN rfl (aV rfl rfl ((((q5.ext y6 (show ¬h.size=c.pb by omega)).ah e7).ext x8 (show ¬h.size=h2.size by omega))) kW) ?_;rintro _ hz ⟨rfl,kz,xz,zz⟩;refine af ?_;refine cn (cg rfl kz.row cm) ?_;exact⟨_,rfl,bC hp (((x05.trans y6).trans e7.of).bH x8 (fun i hi q=>by omega)) ((hp6.ah e7).ext x8 (fun b hb q=>by omega)) (eK.shut (hs7.mv (Mv.cu x8 fun b hb q=>⟨fun q2=>q (by omega),fun q2=>q (by omega)⟩))) (fun q=>by rw[ht6 q]) xz⟩
theorem gp {va vb:Value}{a b:Tr}(op:By) (hO:∀b,O b->b<h.size) (ha:eK h O va a) (hb:eK h O vb b) :
 au Tryz.prog 147 #[.string (bs op),va,vb] h (bL fun r h'=>eK h' O r (.mk 5 op [a,b])/\aj h h'):=by
 obtain⟨k1,t1,a1,n1,c1,rfl,hr1⟩:=ha.get;obtain⟨k2,t2,a2,n2,c2,rfl,hr2⟩:=hb.get;refine b9 ?_;refine af ?_;refine xo rfl (kH) ?_;rintro _ h1 ⟨rfl,b1,e1,z1⟩;refine xo rfl (kH) ?_;rintro _ h2 ⟨rfl,b2,e2,z2⟩;refine xo rfl (cH) ?_;rintro _ h3 ⟨rfl,b3,e3,z3⟩;have b13:aD h3 h.size 27 [.int .i64 k1,.string (bs t1),.slice a1 n1 c1]:=(b1.ah e2).ah e3;have b23:aD h3 h1.size 27 [.int .i64 k2,.string (bs t2),.slice a2 n2 c2]:=b2.ah e3;have e03:=(e1.trans e2).trans e3;refine af ?_;refine xp rfl (b7 rfl b13.row) ?_;refine xp rfl (b7 rfl b23.row) ?_;refine xo rfl (aQ.sw underlying25 H.Kt ([[.int .i64 k1,.string (bs t1),.slice a1 n1 c1],[.int .i64 k2,.string (bs t2),.slice a2 n2 c2]]) rfl rfl (by decide) (by simp<;>repeat' (first|rfl|constructor))) ?_;rintro _ h4 ⟨rfl,hh4⟩;have e4:aj h3 h4:=by rw[hh4];exact Ext.push _ _ _
 have g1:=e1.size;have g2:=e2.size;have m3:Mv O (fun x=>O x\/h.size<=x) h h3:=⟨e03.size,fun x hx q=>⟨e03.block x hx (fun k=>k),fun q2=>by rcases q2 with q2|q2;exact q q2;omega⟩⟩
 have hs4:cF eN (fun x=>O x\/h.size<=x) h4 h3.size 27 (.slice (some ⟨h3.size,0,none⟩) 2 2) [a,b]:=by
  rw[hh4];exact vq (eN.mv hr1 m3) (eN.mv hr2 m3) (Nat.le_refl _)
 refine xp rfl (aq (H.jO _ _ _ _ _) rfl) ?_;refine aN rfl (aV rfl rfl ((b3.ah e4)) kW) ?_;rintro _ h5 ⟨rfl,b5,x5,z5⟩;refine af ?_;refine cn (cg rfl b5.row cm) ?_
 have hs4':aZ eN h4 (fun x=>O x\/x=h2.size) (.slice (some ⟨h3.size,0,none⟩) 2 2) [a,b]:=hs4.read (fun x hx q=>by
  rcases q with q|q
  · have:=hO x q;omega
  · omega) (fun x hx q=>by
  rcases q with q|q
  · exact .inl q
  · exact .inr (by omega))
 exact⟨_,rfl,eK.shut (hs4'.mv (Mv.cu x5 fun x hx q=>⟨fun q2=>q (.inr q2),fun q2=>q (.inl q2)⟩)),aj.only (e03.trans e4) x5 (by omega)⟩
abbrev PJ (k n:Int) (s f:By):List Value:=[.int .i64 k,.int .i64 n,.string (bs s),.string (bs f),.int .i64 0,.string (bs []),.slice none 0 0,.slice none 0 0]
abbrev ML (k n:Int) (s:By):Value:=.agg #[.int .i64 k,.int .i64 n,.string (bs s),.string (bs []),.int .i64 0,.string (bs []),.slice none 0 0,.slice none 0 0]
theorem EU (h:ai) (O:Nat->Prop) (k n:Int) (s:By):cQ h O (ML k n s) (.mk k n s [] bG []):=cQ.of (sn h O k n s [])
abbrev jV (k n:Int) (s f:By) (nk:Int) (nt:By) (a:Option Addr) (m c:Nat) (ea:Option Addr) (en ec:Nat):List Value:=[.int .i64 k,.int .i64 n,.string (bs s),.string (bs f),.int .i64 nk,.string (bs nt),.slice a m c,.slice ea en ec]
theorem fT {n:Int}{s f:By}{nk:Int}{nt:By}{a:Option Addr}{m c:Nat}{ea:Option Addr}{en ec:Nat}:∀v∈jV k n s f nk nt a m c ea en ec,v.oneCell'=true:=by
 intro v hv;simp only[List.mem_cons,List.not_mem_nil,or_false] at hv
 rcases hv with rfl|rfl|rfl|rfl|rfl|rfl|rfl|rfl<;>rfl
theorem dh (b:Bool):au Tryz.prog 39 #[.bool b] h (bL fun r h'=>r=ML 2 (if b then 1 else 0) []/\aj h h'):=by
 refine b9 ?_;refine af ?_;refine xo rfl (cH) ?_;rintro _ h1 ⟨rfl,k1,e1,z1⟩;refine af ?_;refine jo (fun hb=>?_) (fun hb=>?_)
 · refine af ?_;refine xp rfl (aq (H.fV _ _) rfl) ?_;refine aN rfl (aV rfl rfl k1) ?_;rintro _ h2 ⟨rfl,k2,x2,z2⟩;refine af ?_;refine cn (cg rfl k2.row cm) ?_;exact⟨_,rfl,by rw[hb];rfl,aj.only e1 x2 (Nat.le_refl _)⟩
 · refine af ?_;refine xp rfl (aq (H.Mr _) rfl) ?_;refine aN rfl (aV rfl rfl k1) ?_;rintro _ h2 ⟨rfl,k2,x2,z2⟩;refine af ?_;refine cn (cg rfl k2.row cm) ?_;exact⟨_,rfl,by rw[hb];rfl,aj.only e1 x2 (Nat.le_refl _)⟩
theorem oO (h:ai) (O:Nat->Prop) (b:Bool):cQ h O (ML 2 (if b then 1 else 0) []) (iP b):=EU h O _ _ _
theorem gX (h:ai) (O:Nat->Prop):cQ h O (ML 0 0 []) gY:=EU h O _ _ _
theorem vg (h:ai) (O:Nat->Prop) (n:Int):cQ h O (ML 1 n []) (fR n):=EU h O _ _ _
theorem K6 (h:ai) (O:Nat->Prop) (s:By):cQ h O (ML 3 0 s) (He s):=EU h O _ _ _
theorem mC {xs:List Bd}(hv:aZ eB h O v xs) (hx:xs.length<=1000000) :
 au Tryz.prog 41 #[v] h (bL fun r h'=>cF eB O h' h.size 32 r xs/\aj h h'):=by
 obtain⟨va,vn,vc,rfl,hvs⟩:=hv.open;have hl:xs.length=vn:=hvs.len;subst hl;refine b9 ?_;refine bl ?_;refine cW ?_;refine bz ?_;refine dH ?_
 iterate 2 refine bl ?_
 refine cW ?_;refine bz ?_;refine xp rfl (az.Kq underlying28 rfl rfl) ?_;refine af ?_;refine jo (fun hn=>?_) (fun hn=>?_)
 · refine af ?_;refine bw ?_
   have hx0:xs=[]:=by
    have hva:va=none:=by simpa using hn
    rcases xs with _|⟨x,xs⟩
    · rfl
    · obtain⟨b,o,cs,ha,_⟩:=hvs.get 0 x rfl;rw[hva] at ha;cases ha
   subst hx0;exact⟨_,rfl,cF.nil _ _ _ _ _,Ext.refl _ _⟩
 · refine af ?_;refine xo rfl (Qw) ?_;rintro _ h1 ⟨rfl,hh1⟩;have e1:aj h h1:=by rw[hh1];exact Ext.push _ _ _
   have z1:h1.size=h.size+1:=by rw[hh1];simp
   have ho1:aB h1 h.size 32 9 (.slice (some ⟨h.size,0,none⟩) 0 0) 0 []:=by rw[hh1];exact Ee h _ 9 h.size (Nat.le_refl _)
   obtain⟨css,hc1,hc2,hc3,hc4,hc5⟩:=hvs.Ns;have hrow:xs.length=0\/∃b o,va=some ⟨b,o,none⟩/\Lw.rowAt h1 b o css.flatten:=hc5.imp id fun⟨b,o,q1,q2⟩=>⟨b,o,q1,e1.rowAt (fun k=>k) q2⟩
   refine af ?_;refine xo rfl (aQ.append underlying28 H.Ks rfl rfl ho1 hc3 hrow hc4 (by simp only[maxLen];omega) (by omega) (by omega)) ?_;rintro v2 h2 ⟨ho2,hx2,_,hv2⟩;refine af ?_;refine bw ?_;have e2:=Ext.own e1 ho1 (Nat.le_refl _) hx2;have ho2:aB h2 h.size 32 9 v2 (0+xs.length) ([]++css.flatten):=ho2;rw[Nat.zero_add,List.nil_append] at ho2;exact⟨_,rfl,Eg hc1 hc2 rfl ho2 e2 (fun b q=>(ho2.lt q).1),e2⟩
theorem zE (ih:∀m,m<=n->Bi m):Ct 203 [] (.part 6) (n+1):=by
 intro c h s t s' hp hm;have hpl:=hp.lt;obtain⟨o1,o2⟩:=hp.old;rw[pM,if_neg (by decide),if_neg (by decide),if_pos rfl] at hm;refine b9 ?_;refine af ?_;refine xo rfl (cH) ?_;rintro _ h1 ⟨rfl,k1,e1,z1⟩;refine af ?_;refine xo rfl (jb [_]) ?_;rintro _ w2 ⟨rfl,hw2⟩;have y2:aj h1 w2:=by rw[hw2];exact Ext.push _ _ _
 have ts2:aZ oz w2 (fun _=>False) (.slice (some ⟨Array.size h1,0,none⟩) 1 1) [iQ]:=by rw[hw2];exact bB _ [iQ] _ rfl (by simp[maxLen]) rfl
 refine xo rfl (aF rfl (bA ((hp.ah e1).ah y2) 6 ts2)) ?_;rintro _ h2 ⟨rfl,hp2,x2⟩;have x2:=y2.of.trans x2
 rcases hq2:bE 6 [iQ] s with ⟨o2,s2⟩
 rw[hq2] at hp2 hm;have k2:=k1.ext x2 (show ¬h.size=c.pb by omega);have x02:=e1.of.trans x2
 rcases o2 with _|v2
 · simp only at hm;refine af ?_;refine gm rfl (by simp) ?_;refine af ?_;refine xo rfl (aF rfl ((ih n (Nat.le_refl _)).p7 _ _ _ _ _ hp2 hm)) ?_;rintro r9 g9 ⟨y9,hp9,t9,hn9,ht9⟩;have k9:=(k2).ext y9 (show ¬h.size=c.pb by omega);obtain⟨nk,nt,na,nn,nc,rfl,_⟩:=hn9.get;refine aN rfl (aV rfl rfl k9) ?_;rintro _ g10 ⟨rfl,k10,x10,z10⟩;refine af ?_;refine cn (cg rfl k10.row cm) ?_;exact⟨_,rfl,dX.ret ⟨y9,hp9,t9,hn9,ht9⟩ hp (x02) x10 (Nat.le_refl _) (k2).lt⟩
 · simp only at hm;obtain⟨v,s1,hv,hm⟩:=ay hm;obtain⟨rfl,rfl⟩:Tr.mk 4 iQ [v]=t/\s1=s':=by cases hm;exact⟨rfl,rfl⟩
   refine af ?_;refine fH rfl (by simp) ?_;refine af ?_;refine xo rfl (aF rfl ((ih n (Nat.le_refl _)).p6 _ _ _ _ _ hp2 hv)) ?_;rintro r6 h6 ⟨y6,hp6,t6,hn6,ht6⟩;have z6:=y6.size;obtain⟨nk,nt,na,nn,nc,rfl,hr6⟩:=hn6.get;refine xo rfl (rJ) ?_;rintro _ h7 ⟨rfl,hh7⟩;have e7:aj h6 h7:=by rw[hh7];exact Ext.push _ _ _
   have z7:h7.size=h6.size+1:=by rw[hh7];simp
   have hs7:aZ eN h7 (fun b=>b<Array.size h2) (.slice (some ⟨h6.size,0,none⟩) 1 1) [t6]:=by rw[hh7];exact lu hr6 (by omega)
   have zk:=(k2).lt;refine xp rfl (aq (H.jO _ _ _ _ _) rfl) ?_;refine aN rfl (aV rfl rfl (((k2.ext y6 (show ¬h.size=c.pb by omega)).ah e7)) kW) ?_;rintro _ hz ⟨rfl,kz,xz,zz⟩;refine af ?_;refine cn (cg rfl kz.row cm) ?_;exact⟨_,rfl,bC hp (((x02).trans y6).trans e7.of) (hp6.ah e7) (eK.shut (hs7.mv (Mv.cu (Ext.refl (fun _=>False) _) fun b hb q=>⟨fun q2=>q2,fun q2=>q (by omega)⟩))) (fun q=>by rw[ht6 q]) xz⟩
theorem C4 (ih:∀m,m<=n->Bi m):Ct 169 [] (.part 2) (n+1):=by
 intro c h s t s' hp hm;have hpl:=hp.lt;obtain⟨o1,o2⟩:=hp.old;rw[pM,if_neg (by decide),if_pos rfl] at hm;refine b9 ?_;refine af ?_;refine xo rfl (cH) ?_;rintro _ h1 ⟨rfl,k1,e1,z1⟩;refine af ?_;refine xo rfl (jb [_]) ?_;rintro _ w2 ⟨rfl,hw2⟩;have y2:aj h1 w2:=by rw[hw2];exact Ext.push _ _ _
 have ts2:aZ oz w2 (fun _=>False) (.slice (some ⟨Array.size h1,0,none⟩) 1 1) [kI]:=by rw[hw2];exact bB _ [kI] _ rfl (by simp[maxLen]) rfl
 refine xo rfl (aF rfl (bA ((hp.ah e1).ah y2) 4 ts2)) ?_;rintro _ h2 ⟨rfl,hp2,x2⟩;have x2:=y2.of.trans x2
 rcases hq2:bE 4 [kI] s with ⟨o2,s2⟩
 rw[hq2] at hp2 hm;have k2:=k1.ext x2 (show ¬h.size=c.pb by omega);have x02:=e1.of.trans x2
 rcases o2 with _|v2
 · simp only at hm;refine af ?_;refine fH rfl (by simp) ?_;refine af ?_;refine xo rfl (jb [_]) ?_;rintro _ w3 ⟨rfl,hw3⟩;have y3:aj h2 w3:=by rw[hw3];exact Ext.push _ _ _
   have ts3:aZ oz w3 (fun _=>False) (.slice (some ⟨Array.size h2,0,none⟩) 1 1) [sX]:=by rw[hw3];exact bB _ [sX] _ rfl (by simp[maxLen]) rfl
   refine xo rfl (aF rfl (bA (hp2.ah y3) 6 ts3)) ?_;rintro _ h3 ⟨rfl,hp3,x3⟩;have x3:=y3.of.trans x3
   rcases hq3:bE 6 [sX] s2 with ⟨o3,s3⟩
   rw[hq3] at hp3 hm;have k3:=k2.ext x3 (show ¬h.size=c.pb by omega);have x03:=x02.trans x3
   rcases o3 with _|v3
   · simp only at hm;refine af ?_;refine fH rfl (by simp) ?_;refine af ?_;refine xo rfl (aF rfl ((ih n (Nat.le_refl _)).p3 _ _ _ _ _ hp3 hm)) ?_;rintro r9 g9 ⟨y9,hp9,t9,hn9,ht9⟩;have k9:=(k3).ext y9 (show ¬h.size=c.pb by omega);obtain⟨nk,nt,na,nn,nc,rfl,_⟩:=hn9.get;refine aN rfl (aV rfl rfl k9) ?_;rintro _ g10 ⟨rfl,k10,x10,z10⟩;refine af ?_;refine cn (cg rfl k10.row cm) ?_;exact⟨_,rfl,dX.ret ⟨y9,hp9,t9,hn9,ht9⟩ hp (x03) x10 (Nat.le_refl _) (k3).lt⟩
   · simp only at hm;obtain⟨v,s1,hv,hm⟩:=ay hm;obtain⟨rfl,rfl⟩:Tr.mk 4 kI [v]=t/\s1=s':=by cases hm;exact⟨rfl,rfl⟩
     refine af ?_;refine gm rfl (by simp) ?_;refine af ?_;refine xo rfl (aF rfl ((ih n (Nat.le_refl _)).p2 _ _ _ _ _ hp3 hv)) ?_;rintro r6 h6 ⟨y6,hp6,t6,hn6,ht6⟩;have z6:=y6.size;obtain⟨nk,nt,na,nn,nc,rfl,hr6⟩:=hn6.get;refine xo rfl (rJ) ?_;rintro _ h7 ⟨rfl,hh7⟩;have e7:aj h6 h7:=by rw[hh7];exact Ext.push _ _ _
     have z7:h7.size=h6.size+1:=by rw[hh7];simp
     have hs7:aZ eN h7 (fun b=>b<Array.size h3) (.slice (some ⟨h6.size,0,none⟩) 1 1) [t6]:=by rw[hh7];exact lu hr6 (by omega)
     have zk:=(k3).lt;refine xp rfl (aq (H.jO _ _ _ _ _) rfl) ?_;refine aN rfl (aV rfl rfl (((k3.ext y6 (show ¬h.size=c.pb by omega)).ah e7)) kW) ?_;rintro _ hz ⟨rfl,kz,xz,zz⟩;refine af ?_;refine cn (cg rfl kz.row cm) ?_;exact⟨_,rfl,bC hp (((x03).trans y6).trans e7.of) (hp6.ah e7) (eK.shut (hs7.mv (Mv.cu (Ext.refl (fun _=>False) _) fun b hb q=>⟨fun q2=>q2,fun q2=>q (by omega)⟩))) (fun q=>by rw[ht6 q]) xz⟩
 · simp only at hm;obtain⟨v,s1,hv,hm⟩:=ay hm;obtain⟨rfl,rfl⟩:Tr.mk 4 kI [v]=t/\s1=s':=by cases hm;exact⟨rfl,rfl⟩
   refine af ?_;refine gm rfl (by simp) ?_;refine af ?_;refine xo rfl (aF rfl ((ih n (Nat.le_refl _)).p2 _ _ _ _ _ hp2 hv)) ?_;rintro r6 h6 ⟨y6,hp6,t6,hn6,ht6⟩;have z6:=y6.size;obtain⟨nk,nt,na,nn,nc,rfl,hr6⟩:=hn6.get;refine xo rfl (rJ) ?_;rintro _ h7 ⟨rfl,hh7⟩;have e7:aj h6 h7:=by rw[hh7];exact Ext.push _ _ _
   have z7:h7.size=h6.size+1:=by rw[hh7];simp
   have hs7:aZ eN h7 (fun b=>b<Array.size h2) (.slice (some ⟨h6.size,0,none⟩) 1 1) [t6]:=by rw[hh7];exact lu hr6 (by omega)
   have zk:=(k2).lt;refine xp rfl (aq (H.jO _ _ _ _ _) rfl) ?_;refine aN rfl (aV rfl rfl (((k2.ext y6 (show ¬h.size=c.pb by omega)).ah e7)) kW) ?_;rintro _ hz ⟨rfl,kz,xz,zz⟩;refine af ?_;refine cn (cg rfl kz.row cm) ?_;exact⟨_,rfl,bC hp (((x02).trans y6).trans e7.of) (hp6.ah e7) (eK.shut (hs7.mv (Mv.cu (Ext.refl (fun _=>False) _) fun b hb q=>⟨fun q2=>q2,fun q2=>q (by omega)⟩))) (fun q=>by rw[ht6 q]) xz⟩
structure CZ (c:PC) (h g:ai) (b3:Nat) (t1:Tr) (s1:PS):Prop where
 st:rG c g s1
 ext:Ext (fun b=>b=c.pb) h g
 res:aD g h.size 27 [.int .i64 0,.string (bs []),.slice none 0 0]
 lt:h.size<b3
 nd:∃k x a n cc u,aD g b3 27 [.int .i64 k,.string (bs x),.slice a n cc]/\eN.R g (fun b=>b<=h.size\/b=b3) [.int .i64 k,.string (bs x),.slice a n cc] u/\(s1.bI=false->u=t1)
theorem CZ.mv {c:PC}{g':ai}{t1:Tr}{s2:PS}(k:CZ c h g b3 t1 s1) (hp:c.pb<h.size) (x:Ext (fun b=>b=c.pb) g g') (hs:rG c g' s2) (hg:s2.bI=false->s1.bI=false):CZ c h g' b3 t1 s2:=by
 obtain⟨k1,k2,k3,k4,kk,xx,a,n,cc,u,k5,k6,k7⟩:=k;exact⟨hs,k2.trans x,k3.ext x (by omega),k4,kk,xx,a,n,cc,u,k5.ext x (by omega),bM k6 x (fun b hb q=>⟨fun q2=>q (by omega),q⟩),fun q=>k7 (hg q)⟩
theorem NF (s:PS):xP 0 s=(match bE 4 [rO] s with|(some _,s)=>(some rO,s)|(none,s)=>match bE 6 [uK] s with|(some _,s)=>(some rO,s)|(none,s)=>(none,s)):=rfl
theorem ND (s:PS):xP 1 s=(match bE 4 [kJ] s with|(some _,s)=>(some kJ,s)|(none,s)=>match bE 6 [uL] s with|(some _,s)=>(some kJ,s)|(none,s)=>(none,s)):=rfl
theorem NC (s:PS):xP 3 s=bE 6 Hl s:=rfl
theorem NB (s:PS):xP 4 s=bE 6 Hj s:=rfl
theorem NA (s:PS):xP 5 s=bE 6 Bz s:=rfl
theorem Fp (ih:∀m,m<=n->Bi m):Ct 114 [] (.part 0) (n+1):=by
 intro c h s t s' hp hm;have hpl:=hp.lt;obtain⟨o1,o2⟩:=hp.old;rw[pM,if_neg (by decide),if_neg (by decide),if_neg (by decide)] at hm;obtain⟨v,s1,hv,hm⟩:=ay hm;refine b9 ?_;refine af ?_;refine xo rfl (cH) ?_;rintro _ h1 ⟨rfl,k1,e1,z1⟩;refine af ?_;refine xo rfl (aF rfl ((ih n (Nat.le_refl _)).p1 _ _ _ _ _ (hp.ah e1) hv)) ?_;rintro r2 h2 ⟨y2,hp2,t2,hn2,vX⟩;obtain⟨nk,nt,na,nn,nc,rfl,hr2⟩:=hn2.get;refine xo rfl (cH) ?_;rintro _ h3 ⟨rfl,k3,e3,z3⟩;refine aN rfl (aV rfl rfl k3 kW) ?_;rintro _ h4 ⟨rfl,k4,x4,z4⟩;have z2:=y2.size;have x24:Ext (fun b=>b=h2.size) h2 h4:=e3.of.trans x4;have hI:CZ c h h4 h2.size v s1:=⟨(hp2.ah e3).ext x4 (fun b hb q=>by omega),((e1.of.trans y2).trans e3.of).bH x4 (fun b hb q=>by omega),((k1.ext y2 (by omega)).ah e3).ext x4 (show ¬h.size=h2.size by omega),by omega,nk,nt,na,nn,nc,t2,k4,bM hr2 x24 (fun b hb q=>⟨fun q2=>by omega,fun q2=>q (by omega)⟩),vX⟩
 refine af ?_;refine jd (σ:=Nat×Tr×PS) (fun _=>[]) (fun w g=>w.1<=n/\pM c.e w.1 (.opL 0 w.2.1) w.2.2=some (t,s')/\CZ c h g h2.size w.2.1 w.2.2) (fun w=>w.1) ((n,v,s1)) ⟨Nat.le_refl _,hm,hI⟩ rfl ?_;rintro⟨m,u,sI⟩ g ⟨hmn,hm,hI⟩ ihL
 try dsimp only
 obtain⟨m,rfl⟩:∃m',m=m'+1:=by cases m with|zero=>cases hm|succ m=>exact⟨m,rfl⟩
 rw[pM,NF] at hm;refine af ?_;refine xo rfl (jb [_]) ?_;rintro _ w5 ⟨rfl,hw5⟩;have y5:aj g w5:=by rw[hw5];exact Ext.push _ _ _
 have ts5:aZ oz w5 (fun _=>False) (.slice (some ⟨Array.size g,0,none⟩) 1 1) [rO]:=by rw[hw5];exact bB _ [rO] _ rfl (by simp[maxLen]) rfl
 refine xo rfl (aF rfl (bA (hI.st.ah y5) 4 ts5)) ?_;rintro _ h5 ⟨rfl,hp5,x5⟩;have x5:=y5.of.trans x5
 rcases hq5:bE 4 [rO] sI with ⟨o5,s5⟩
 rw[hq5] at hp5 hm
 rcases o5 with _|v5
 · simp only at hm;refine af ?_;refine fH rfl (by simp) ?_;refine af ?_;refine xo rfl (jb [_]) ?_;rintro _ w6 ⟨rfl,hw6⟩;have y6:aj h5 w6:=by rw[hw6];exact Ext.push _ _ _
   have ts6:aZ oz w6 (fun _=>False) (.slice (some ⟨Array.size h5,0,none⟩) 1 1) [uK]:=by rw[hw6];exact bB _ [uK] _ rfl (by simp[maxLen]) rfl
   refine xo rfl (aF rfl (bA (hp5.ah y6) 6 ts6)) ?_;rintro _ h6 ⟨rfl,hp6,x6⟩;have x6:=y6.of.trans x6
   rcases hq6:bE 6 [uK] s5 with ⟨o6,s6⟩
   rw[hq6] at hp6 hm;have x56:=x5.trans x6
   rcases o6 with _|v6
   · simp only at hm;obtain⟨rfl,rfl⟩:u=t/\s6=s':=by cases hm;exact⟨rfl,rfl⟩
     refine af ?_;refine fH rfl (by simp) ?_;have hI2:=hI.mv hpl x56 hp6 (fun q=>aL hq5 (aL hq6 q));obtain⟨j1,j2,j3,j4,jk,jx,ja,jn,jc,ju,j5,j6,j7⟩:=hI2;refine af ?_;refine xp rfl (b7 rfl j5.row) ?_;refine aN rfl (aV rfl rfl j3 kW) ?_;rintro _ hz ⟨rfl,kz,xz,zz⟩;refine af ?_;refine cn (cg rfl kz.row cm) ?_;exact⟨_,rfl,bC hp j2 j1 (eK.of (bM j6 (Ext.refl (fun _=>False) _) (fun b hb q=>⟨fun q2=>q2,fun q2=>q (.inl q2)⟩))) j7 xz⟩
   · simp only at hm;obtain⟨v2,s3,hv2,hm⟩:=ay hm;rw[if_neg (by decide)] at hm;refine af ?_;refine gm rfl (by simp) ?_;have hI2:=hI.mv hpl x56 hp6 (fun q=>aL hq5 (aL hq6 q));obtain⟨j1,j2,j3,j4,jk,jx,ja,jn,jc,ju,j5,j6,j7⟩:=hI2;have j5l:=j5.lt;have j2z:=j2.size;refine af ?_;refine lO 5 (fun b=>b=c.pb\/Array.size h6<=b) (fun i=>Nat.blt i 4) ?_;refine bJ 0 rfl (fun h' e=>b7 rfl (e.rowAt (by omega) j5.row)) ?_;refine aG 1 ?_;refine dR 2 rfl (aF rfl ((ih m (by omega)).p1 _ _ _ _ _ hp6 hv2)) ?_;rintro r6 h6 ⟨y6,hp6,t6,hn6,ht6⟩;refine⟨fun _=>y6.mono (fun _ _ q=>.inl q),?_⟩;have z6:=y6.size;refine dR 3 rfl (aF rfl (gp (O:=fun b=>b<=h.size\/b=h2.size) rO (fun b q=>by omega) (eK.of (bM j6 y6 (fun b hb q=>⟨fun q2=>q (by omega),q⟩))) (hn6.ext (Ext.refl (fun _=>False) _) (fun b hb q=>⟨fun q2=>q2,fun q2=>q (by omega)⟩)))) ?_;rintro r8 h8 ⟨hn8,e8⟩;refine⟨fun _=>e8.of,?_⟩;have z8:=e8.size;obtain⟨mk,mt,ma,mn,mc,rfl,hr8⟩:=hn8.get;refine jZ 4 rfl (aV rfl rfl (((j5.ext y6 (show ¬h2.size=c.pb by omega)).ah e8)) kW) ?_;rintro _ h9 ⟨rfl,k9,x9,z9⟩;refine⟨nofun,?_⟩;refine iO ?_;refine af ?_;exact ihL (m,.mk 5 rO [u,v2],s3) ⟨by omega,hm,⟨(hp6.ah e8).ext x9 (fun b hb q=>by omega),((j2.trans y6).trans e8.of).bH x9 (fun b hb q=>by omega),((j3.ext y6 (show ¬h.size=c.pb by omega)).ah e8).ext x9 (show ¬h.size=h2.size by omega),j4,mk,mt,ma,mn,mc,_,k9,bM hr8 x9 (fun b hb q=>⟨fun q2=>q (.inr q2),q⟩),fun q=>by rw[j7 (aS hv2 q),ht6 q]⟩⟩ (Nat.lt_succ_self _)
 · simp only at hm;obtain⟨v2,s3,hv2,hm⟩:=ay hm;rw[if_neg (by decide)] at hm;refine af ?_;refine gm rfl (by simp) ?_;have hI2:=hI.mv hpl x5 hp5 (fun q=>aL hq5 q);obtain⟨j1,j2,j3,j4,jk,jx,ja,jn,jc,ju,j5,j6,j7⟩:=hI2;have j5l:=j5.lt;have j2z:=j2.size;refine af ?_;refine lO 5 (fun b=>b=c.pb\/Array.size h5<=b) (fun i=>Nat.blt i 4) ?_;refine bJ 0 rfl (fun h' e=>b7 rfl (e.rowAt (by omega) j5.row)) ?_;refine aG 1 ?_;refine dR 2 rfl (aF rfl ((ih m (by omega)).p1 _ _ _ _ _ hp5 hv2)) ?_;rintro r6 h6 ⟨y6,hp6,t6,hn6,ht6⟩;refine⟨fun _=>y6.mono (fun _ _ q=>.inl q),?_⟩;have z6:=y6.size;refine dR 3 rfl (aF rfl (gp (O:=fun b=>b<=h.size\/b=h2.size) rO (fun b q=>by omega) (eK.of (bM j6 y6 (fun b hb q=>⟨fun q2=>q (by omega),q⟩))) (hn6.ext (Ext.refl (fun _=>False) _) (fun b hb q=>⟨fun q2=>q2,fun q2=>q (by omega)⟩)))) ?_;rintro r8 h8 ⟨hn8,e8⟩;refine⟨fun _=>e8.of,?_⟩;have z8:=e8.size;obtain⟨mk,mt,ma,mn,mc,rfl,hr8⟩:=hn8.get;refine jZ 4 rfl (aV rfl rfl (((j5.ext y6 (show ¬h2.size=c.pb by omega)).ah e8)) kW) ?_;rintro _ h9 ⟨rfl,k9,x9,z9⟩;refine⟨nofun,?_⟩;refine iO ?_;refine af ?_;exact ihL (m,.mk 5 rO [u,v2],s3) ⟨by omega,hm,⟨(hp6.ah e8).ext x9 (fun b hb q=>by omega),((j2.trans y6).trans e8.of).bH x9 (fun b hb q=>by omega),((j3.ext y6 (show ¬h.size=c.pb by omega)).ah e8).ext x9 (show ¬h.size=h2.size by omega),j4,mk,mt,ma,mn,mc,_,k9,bM hr8 x9 (fun b hb q=>⟨fun q2=>q (.inr q2),q⟩),fun q=>by rw[j7 (aS hv2 q),ht6 q]⟩⟩ (Nat.lt_succ_self _)
theorem C7 (ih:∀m,m<=n->Bi m):Ct 146 [] (.part 1) (n+1):=by
 intro c h s t s' hp hm;have hpl:=hp.lt;obtain⟨o1,o2⟩:=hp.old;rw[pM,if_neg (by decide),if_neg (by decide),if_neg (by decide)] at hm;obtain⟨v,s1,hv,hm⟩:=ay hm;refine b9 ?_;refine af ?_;refine xo rfl (cH) ?_;rintro _ h1 ⟨rfl,k1,e1,z1⟩;refine af ?_;refine xo rfl (aF rfl ((ih n (Nat.le_refl _)).p2 _ _ _ _ _ (hp.ah e1) hv)) ?_;rintro r2 h2 ⟨y2,hp2,t2,hn2,vX⟩;obtain⟨nk,nt,na,nn,nc,rfl,hr2⟩:=hn2.get;refine xo rfl (cH) ?_;rintro _ h3 ⟨rfl,k3,e3,z3⟩;refine aN rfl (aV rfl rfl k3 kW) ?_;rintro _ h4 ⟨rfl,k4,x4,z4⟩;have z2:=y2.size;have x24:Ext (fun b=>b=h2.size) h2 h4:=e3.of.trans x4;have hI:CZ c h h4 h2.size v s1:=⟨(hp2.ah e3).ext x4 (fun b hb q=>by omega),((e1.of.trans y2).trans e3.of).bH x4 (fun b hb q=>by omega),((k1.ext y2 (by omega)).ah e3).ext x4 (show ¬h.size=h2.size by omega),by omega,nk,nt,na,nn,nc,t2,k4,bM hr2 x24 (fun b hb q=>⟨fun q2=>by omega,fun q2=>q (by omega)⟩),vX⟩
 refine af ?_;refine jd (σ:=Nat×Tr×PS) (fun _=>[]) (fun w g=>w.1<=n/\pM c.e w.1 (.opL 1 w.2.1) w.2.2=some (t,s')/\CZ c h g h2.size w.2.1 w.2.2) (fun w=>w.1) ((n,v,s1)) ⟨Nat.le_refl _,hm,hI⟩ rfl ?_;rintro⟨m,u,sI⟩ g ⟨hmn,hm,hI⟩ ihL
 try dsimp only
 obtain⟨m,rfl⟩:∃m',m=m'+1:=by cases m with|zero=>cases hm|succ m=>exact⟨m,rfl⟩
 rw[pM,ND] at hm;refine af ?_;refine xo rfl (jb [_]) ?_;rintro _ w5 ⟨rfl,hw5⟩;have y5:aj g w5:=by rw[hw5];exact Ext.push _ _ _
 have ts5:aZ oz w5 (fun _=>False) (.slice (some ⟨Array.size g,0,none⟩) 1 1) [kJ]:=by rw[hw5];exact bB _ [kJ] _ rfl (by simp[maxLen]) rfl
 refine xo rfl (aF rfl (bA (hI.st.ah y5) 4 ts5)) ?_;rintro _ h5 ⟨rfl,hp5,x5⟩;have x5:=y5.of.trans x5
 rcases hq5:bE 4 [kJ] sI with ⟨o5,s5⟩
 rw[hq5] at hp5 hm
 rcases o5 with _|v5
 · simp only at hm;refine af ?_;refine fH rfl (by simp) ?_;refine af ?_;refine xo rfl (jb [_]) ?_;rintro _ w6 ⟨rfl,hw6⟩;have y6:aj h5 w6:=by rw[hw6];exact Ext.push _ _ _
   have ts6:aZ oz w6 (fun _=>False) (.slice (some ⟨Array.size h5,0,none⟩) 1 1) [uL]:=by rw[hw6];exact bB _ [uL] _ rfl (by simp[maxLen]) rfl
   refine xo rfl (aF rfl (bA (hp5.ah y6) 6 ts6)) ?_;rintro _ h6 ⟨rfl,hp6,x6⟩;have x6:=y6.of.trans x6
   rcases hq6:bE 6 [uL] s5 with ⟨o6,s6⟩
   rw[hq6] at hp6 hm;have x56:=x5.trans x6
   rcases o6 with _|v6
   · simp only at hm;obtain⟨rfl,rfl⟩:u=t/\s6=s':=by cases hm;exact⟨rfl,rfl⟩
     refine af ?_;refine fH rfl (by simp) ?_;have hI2:=hI.mv hpl x56 hp6 (fun q=>aL hq5 (aL hq6 q));obtain⟨j1,j2,j3,j4,jk,jx,ja,jn,jc,ju,j5,j6,j7⟩:=hI2;refine af ?_;refine xp rfl (b7 rfl j5.row) ?_;refine aN rfl (aV rfl rfl j3 kW) ?_;rintro _ hz ⟨rfl,kz,xz,zz⟩;refine af ?_;refine cn (cg rfl kz.row cm) ?_;exact⟨_,rfl,bC hp j2 j1 (eK.of (bM j6 (Ext.refl (fun _=>False) _) (fun b hb q=>⟨fun q2=>q2,fun q2=>q (.inl q2)⟩))) j7 xz⟩
   · simp only at hm;obtain⟨v2,s3,hv2,hm⟩:=ay hm;rw[if_neg (by decide)] at hm;refine af ?_;refine gm rfl (by simp) ?_;have hI2:=hI.mv hpl x56 hp6 (fun q=>aL hq5 (aL hq6 q));obtain⟨j1,j2,j3,j4,jk,jx,ja,jn,jc,ju,j5,j6,j7⟩:=hI2;have j5l:=j5.lt;have j2z:=j2.size;refine af ?_;refine lO 5 (fun b=>b=c.pb\/Array.size h6<=b) (fun i=>Nat.blt i 4) ?_;refine bJ 0 rfl (fun h' e=>b7 rfl (e.rowAt (by omega) j5.row)) ?_;refine aG 1 ?_;refine dR 2 rfl (aF rfl ((ih m (by omega)).p2 _ _ _ _ _ hp6 hv2)) ?_;rintro r6 h6 ⟨y6,hp6,t6,hn6,ht6⟩;refine⟨fun _=>y6.mono (fun _ _ q=>.inl q),?_⟩;have z6:=y6.size;refine dR 3 rfl (aF rfl (gp (O:=fun b=>b<=h.size\/b=h2.size) kJ (fun b q=>by omega) (eK.of (bM j6 y6 (fun b hb q=>⟨fun q2=>q (by omega),q⟩))) (hn6.ext (Ext.refl (fun _=>False) _) (fun b hb q=>⟨fun q2=>q2,fun q2=>q (by omega)⟩)))) ?_;rintro r8 h8 ⟨hn8,e8⟩;refine⟨fun _=>e8.of,?_⟩;have z8:=e8.size;obtain⟨mk,mt,ma,mn,mc,rfl,hr8⟩:=hn8.get;refine jZ 4 rfl (aV rfl rfl (((j5.ext y6 (show ¬h2.size=c.pb by omega)).ah e8)) kW) ?_;rintro _ h9 ⟨rfl,k9,x9,z9⟩;refine⟨nofun,?_⟩;refine iO ?_;refine af ?_;exact ihL (m,.mk 5 kJ [u,v2],s3) ⟨by omega,hm,⟨(hp6.ah e8).ext x9 (fun b hb q=>by omega),((j2.trans y6).trans e8.of).bH x9 (fun b hb q=>by omega),((j3.ext y6 (show ¬h.size=c.pb by omega)).ah e8).ext x9 (show ¬h.size=h2.size by omega),j4,mk,mt,ma,mn,mc,_,k9,bM hr8 x9 (fun b hb q=>⟨fun q2=>q (.inr q2),q⟩),fun q=>by rw[j7 (aS hv2 q),ht6 q]⟩⟩ (Nat.lt_succ_self _)
 · simp only at hm;obtain⟨v2,s3,hv2,hm⟩:=ay hm;rw[if_neg (by decide)] at hm;refine af ?_;refine gm rfl (by simp) ?_;have hI2:=hI.mv hpl x5 hp5 (fun q=>aL hq5 q);obtain⟨j1,j2,j3,j4,jk,jx,ja,jn,jc,ju,j5,j6,j7⟩:=hI2;have j5l:=j5.lt;have j2z:=j2.size;refine af ?_;refine lO 5 (fun b=>b=c.pb\/Array.size h5<=b) (fun i=>Nat.blt i 4) ?_;refine bJ 0 rfl (fun h' e=>b7 rfl (e.rowAt (by omega) j5.row)) ?_;refine aG 1 ?_;refine dR 2 rfl (aF rfl ((ih m (by omega)).p2 _ _ _ _ _ hp5 hv2)) ?_;rintro r6 h6 ⟨y6,hp6,t6,hn6,ht6⟩;refine⟨fun _=>y6.mono (fun _ _ q=>.inl q),?_⟩;have z6:=y6.size;refine dR 3 rfl (aF rfl (gp (O:=fun b=>b<=h.size\/b=h2.size) kJ (fun b q=>by omega) (eK.of (bM j6 y6 (fun b hb q=>⟨fun q2=>q (by omega),q⟩))) (hn6.ext (Ext.refl (fun _=>False) _) (fun b hb q=>⟨fun q2=>q2,fun q2=>q (by omega)⟩)))) ?_;rintro r8 h8 ⟨hn8,e8⟩;refine⟨fun _=>e8.of,?_⟩;have z8:=e8.size;obtain⟨mk,mt,ma,mn,mc,rfl,hr8⟩:=hn8.get;refine jZ 4 rfl (aV rfl rfl (((j5.ext y6 (show ¬h2.size=c.pb by omega)).ah e8)) kW) ?_;rintro _ h9 ⟨rfl,k9,x9,z9⟩;refine⟨nofun,?_⟩;refine iO ?_;refine af ?_;exact ihL (m,.mk 5 kJ [u,v2],s3) ⟨by omega,hm,⟨(hp6.ah e8).ext x9 (fun b hb q=>by omega),((j2.trans y6).trans e8.of).bH x9 (fun b hb q=>by omega),((j3.ext y6 (show ¬h.size=c.pb by omega)).ah e8).ext x9 (show ¬h.size=h2.size by omega),j4,mk,mt,ma,mn,mc,_,k9,bM hr8 x9 (fun b hb q=>⟨fun q2=>q (.inr q2),q⟩),fun q=>by rw[j7 (aS hv2 q),ht6 q]⟩⟩ (Nat.lt_succ_self _)
theorem C1 (ih:∀m,m<=n->Bi m):Ct 195 [] (.part 4) (n+1):=by
 intro c h s t s' hp hm;have hpl:=hp.lt;obtain⟨o1,o2⟩:=hp.old;rw[pM,if_neg (by decide),if_neg (by decide),if_neg (by decide)] at hm;obtain⟨v,s1,hv,hm⟩:=ay hm;refine b9 ?_;refine af ?_;refine xo rfl (cH) ?_;rintro _ h1 ⟨rfl,k1,e1,z1⟩;refine af ?_;refine xo rfl (aF rfl ((ih n (Nat.le_refl _)).p5 _ _ _ _ _ (hp.ah e1) hv)) ?_;rintro r2 h2 ⟨y2,hp2,t2,hn2,vX⟩;obtain⟨nk,nt,na,nn,nc,rfl,hr2⟩:=hn2.get;refine xo rfl (cH) ?_;rintro _ h3 ⟨rfl,k3,e3,z3⟩;refine aN rfl (aV rfl rfl k3 kW) ?_;rintro _ h4 ⟨rfl,k4,x4,z4⟩;have z2:=y2.size;have x24:Ext (fun b=>b=h2.size) h2 h4:=e3.of.trans x4;have hI:CZ c h h4 h2.size v s1:=⟨(hp2.ah e3).ext x4 (fun b hb q=>by omega),((e1.of.trans y2).trans e3.of).bH x4 (fun b hb q=>by omega),((k1.ext y2 (by omega)).ah e3).ext x4 (show ¬h.size=h2.size by omega),by omega,nk,nt,na,nn,nc,t2,k4,bM hr2 x24 (fun b hb q=>⟨fun q2=>by omega,fun q2=>q (by omega)⟩),vX⟩
 refine af ?_;refine jd (σ:=Nat×Tr×PS) (fun _=>[]) (fun w g=>w.1<=n/\pM c.e w.1 (.opL 4 w.2.1) w.2.2=some (t,s')/\CZ c h g h2.size w.2.1 w.2.2) (fun w=>w.1) ((n,v,s1)) ⟨Nat.le_refl _,hm,hI⟩ rfl ?_;rintro⟨m,u,sI⟩ g ⟨hmn,hm,hI⟩ ihL
 try dsimp only
 obtain⟨m,rfl⟩:∃m',m=m'+1:=by cases m with|zero=>cases hm|succ m=>exact⟨m,rfl⟩
 rw[pM,NB] at hm;refine af ?_;refine xo rfl (jb [_,_]) ?_;rintro _ w5 ⟨rfl,hw5⟩;have y5:aj g w5:=by rw[hw5];exact Ext.push _ _ _
 have ts5:aZ oz w5 (fun _=>False) (.slice (some ⟨Array.size g,0,none⟩) 2 2) Hj:=by rw[hw5];exact bB _ Hj _ rfl (by simp[maxLen]) rfl
 refine xo rfl (aF rfl (bA (hI.st.ah y5) 6 ts5)) ?_;rintro _ h5 ⟨rfl,hp5,x5⟩;have x5:=y5.of.trans x5
 rcases hq5:bE 6 Hj sI with ⟨o5,s5⟩
 rw[hq5] at hp5 hm
 rcases o5 with _|v5
 · simp only at hm;obtain⟨rfl,rfl⟩:u=t/\s5=s':=by cases hm;exact⟨rfl,rfl⟩
   refine af ?_;refine fH rfl (by simp) ?_;have hI2:=hI.mv hpl x5 hp5 (fun q=>aL hq5 q);obtain⟨j1,j2,j3,j4,jk,jx,ja,jn,jc,ju,j5,j6,j7⟩:=hI2;refine af ?_;refine xp rfl (b7 rfl j5.row) ?_;refine aN rfl (aV rfl rfl j3 kW) ?_;rintro _ hz ⟨rfl,kz,xz,zz⟩;refine af ?_;refine cn (cg rfl kz.row cm) ?_;exact⟨_,rfl,bC hp j2 j1 (eK.of (bM j6 (Ext.refl (fun _=>False) _) (fun b hb q=>⟨fun q2=>q2,fun q2=>q (.inl q2)⟩))) j7 xz⟩
 · simp only at hm;obtain⟨v2,s3,hv2,hm⟩:=ay hm;rw[if_neg (by decide)] at hm;refine af ?_;refine gm rfl (by simp) ?_;have hI2:=hI.mv hpl x5 hp5 (fun q=>aL hq5 q);obtain⟨j1,j2,j3,j4,jk,jx,ja,jn,jc,ju,j5,j6,j7⟩:=hI2;have j5l:=j5.lt;have j2z:=j2.size;refine af ?_;refine lO 6 (fun b=>b=c.pb\/Array.size h5<=b) (fun i=>Nat.blt i 5) ?_;refine aG 0 ?_;refine bJ 1 rfl (fun h' e=>b7 rfl (e.rowAt (by omega) j5.row)) ?_;refine aG 2 ?_;refine dR 3 rfl (aF rfl ((ih m (by omega)).p5 _ _ _ _ _ hp5 hv2)) ?_;rintro r6 h6 ⟨y6,hp6,t6,hn6,ht6⟩;refine⟨fun _=>y6.mono (fun _ _ q=>.inl q),?_⟩;have z6:=y6.size;refine dR 4 rfl (aF rfl (gp (O:=fun b=>b<=h.size\/b=h2.size) v5 (fun b q=>by omega) (eK.of (bM j6 y6 (fun b hb q=>⟨fun q2=>q (by omega),q⟩))) (hn6.ext (Ext.refl (fun _=>False) _) (fun b hb q=>⟨fun q2=>q2,fun q2=>q (by omega)⟩)))) ?_;rintro r8 h8 ⟨hn8,e8⟩;refine⟨fun _=>e8.of,?_⟩;have z8:=e8.size;obtain⟨mk,mt,ma,mn,mc,rfl,hr8⟩:=hn8.get;refine jZ 5 rfl (aV rfl rfl (((j5.ext y6 (show ¬h2.size=c.pb by omega)).ah e8)) kW) ?_;rintro _ h9 ⟨rfl,k9,x9,z9⟩;refine⟨nofun,?_⟩;refine iO ?_;refine af ?_;exact ihL (m,.mk 5 v5 [u,v2],s3) ⟨by omega,hm,⟨(hp6.ah e8).ext x9 (fun b hb q=>by omega),((j2.trans y6).trans e8.of).bH x9 (fun b hb q=>by omega),((j3.ext y6 (show ¬h.size=c.pb by omega)).ah e8).ext x9 (show ¬h.size=h2.size by omega),j4,mk,mt,ma,mn,mc,_,k9,bM hr8 x9 (fun b hb q=>⟨fun q2=>q (.inr q2),q⟩),fun q=>by rw[j7 (aS hv2 q),ht6 q]⟩⟩ (Nat.lt_succ_self _)
theorem Bj (ih:∀m,m<=n->Bi m):Ct 201 [] (.part 5) (n+1):=by
 intro c h s t s' hp hm;have hpl:=hp.lt;obtain⟨o1,o2⟩:=hp.old;rw[pM,if_neg (by decide),if_neg (by decide),if_neg (by decide)] at hm;obtain⟨v,s1,hv,hm⟩:=ay hm;refine b9 ?_;refine af ?_;refine xo rfl (cH) ?_;rintro _ h1 ⟨rfl,k1,e1,z1⟩;refine af ?_;refine xo rfl (aF rfl ((ih n (Nat.le_refl _)).p6 _ _ _ _ _ (hp.ah e1) hv)) ?_;rintro r2 h2 ⟨y2,hp2,t2,hn2,vX⟩;obtain⟨nk,nt,na,nn,nc,rfl,hr2⟩:=hn2.get;refine xo rfl (cH) ?_;rintro _ h3 ⟨rfl,k3,e3,z3⟩;refine aN rfl (aV rfl rfl k3 kW) ?_;rintro _ h4 ⟨rfl,k4,x4,z4⟩;have z2:=y2.size;have x24:Ext (fun b=>b=h2.size) h2 h4:=e3.of.trans x4;have hI:CZ c h h4 h2.size v s1:=⟨(hp2.ah e3).ext x4 (fun b hb q=>by omega),((e1.of.trans y2).trans e3.of).bH x4 (fun b hb q=>by omega),((k1.ext y2 (by omega)).ah e3).ext x4 (show ¬h.size=h2.size by omega),by omega,nk,nt,na,nn,nc,t2,k4,bM hr2 x24 (fun b hb q=>⟨fun q2=>by omega,fun q2=>q (by omega)⟩),vX⟩
 refine af ?_;refine jd (σ:=Nat×Tr×PS) (fun _=>[]) (fun w g=>w.1<=n/\pM c.e w.1 (.opL 5 w.2.1) w.2.2=some (t,s')/\CZ c h g h2.size w.2.1 w.2.2) (fun w=>w.1) ((n,v,s1)) ⟨Nat.le_refl _,hm,hI⟩ rfl ?_;rintro⟨m,u,sI⟩ g ⟨hmn,hm,hI⟩ ihL
 try dsimp only
 obtain⟨m,rfl⟩:∃m',m=m'+1:=by cases m with|zero=>cases hm|succ m=>exact⟨m,rfl⟩
 rw[pM,NA] at hm;refine af ?_;refine xo rfl (jb [_,_,_]) ?_;rintro _ w5 ⟨rfl,hw5⟩;have y5:aj g w5:=by rw[hw5];exact Ext.push _ _ _
 have ts5:aZ oz w5 (fun _=>False) (.slice (some ⟨Array.size g,0,none⟩) 3 3) Bz:=by rw[hw5];exact bB _ Bz _ rfl (by simp[maxLen]) rfl
 refine xo rfl (aF rfl (bA (hI.st.ah y5) 6 ts5)) ?_;rintro _ h5 ⟨rfl,hp5,x5⟩;have x5:=y5.of.trans x5
 rcases hq5:bE 6 Bz sI with ⟨o5,s5⟩
 rw[hq5] at hp5 hm
 rcases o5 with _|v5
 · simp only at hm;obtain⟨rfl,rfl⟩:u=t/\s5=s':=by cases hm;exact⟨rfl,rfl⟩
   refine af ?_;refine fH rfl (by simp) ?_;have hI2:=hI.mv hpl x5 hp5 (fun q=>aL hq5 q);obtain⟨j1,j2,j3,j4,jk,jx,ja,jn,jc,ju,j5,j6,j7⟩:=hI2;refine af ?_;refine xp rfl (b7 rfl j5.row) ?_;refine aN rfl (aV rfl rfl j3 kW) ?_;rintro _ hz ⟨rfl,kz,xz,zz⟩;refine af ?_;refine cn (cg rfl kz.row cm) ?_;exact⟨_,rfl,bC hp j2 j1 (eK.of (bM j6 (Ext.refl (fun _=>False) _) (fun b hb q=>⟨fun q2=>q2,fun q2=>q (.inl q2)⟩))) j7 xz⟩
 · simp only at hm;obtain⟨v2,s3,hv2,hm⟩:=ay hm;rw[if_neg (by decide)] at hm;refine af ?_;refine gm rfl (by simp) ?_;have hI2:=hI.mv hpl x5 hp5 (fun q=>aL hq5 q);obtain⟨j1,j2,j3,j4,jk,jx,ja,jn,jc,ju,j5,j6,j7⟩:=hI2;have j5l:=j5.lt;have j2z:=j2.size;refine af ?_;refine lO 6 (fun b=>b=c.pb\/Array.size h5<=b) (fun i=>Nat.blt i 5) ?_;refine aG 0 ?_;refine bJ 1 rfl (fun h' e=>b7 rfl (e.rowAt (by omega) j5.row)) ?_;refine aG 2 ?_;refine dR 3 rfl (aF rfl ((ih m (by omega)).p6 _ _ _ _ _ hp5 hv2)) ?_;rintro r6 h6 ⟨y6,hp6,t6,hn6,ht6⟩;refine⟨fun _=>y6.mono (fun _ _ q=>.inl q),?_⟩;have z6:=y6.size;refine dR 4 rfl (aF rfl (gp (O:=fun b=>b<=h.size\/b=h2.size) v5 (fun b q=>by omega) (eK.of (bM j6 y6 (fun b hb q=>⟨fun q2=>q (by omega),q⟩))) (hn6.ext (Ext.refl (fun _=>False) _) (fun b hb q=>⟨fun q2=>q2,fun q2=>q (by omega)⟩)))) ?_;rintro r8 h8 ⟨hn8,e8⟩;refine⟨fun _=>e8.of,?_⟩;have z8:=e8.size;obtain⟨mk,mt,ma,mn,mc,rfl,hr8⟩:=hn8.get;refine jZ 5 rfl (aV rfl rfl (((j5.ext y6 (show ¬h2.size=c.pb by omega)).ah e8)) kW) ?_;rintro _ h9 ⟨rfl,k9,x9,z9⟩;refine⟨nofun,?_⟩;refine iO ?_;refine af ?_;exact ihL (m,.mk 5 v5 [u,v2],s3) ⟨by omega,hm,⟨(hp6.ah e8).ext x9 (fun b hb q=>by omega),((j2.trans y6).trans e8.of).bH x9 (fun b hb q=>by omega),((j3.ext y6 (show ¬h.size=c.pb by omega)).ah e8).ext x9 (show ¬h.size=h2.size by omega),j4,mk,mt,ma,mn,mc,_,k9,bM hr8 x9 (fun b hb q=>⟨fun q2=>q (.inr q2),q⟩),fun q=>by rw[j7 (aS hv2 q),ht6 q]⟩⟩ (Nat.lt_succ_self _)
theorem uF (ih:∀m,m<=n->Bi m):Ct 182 [] (.part 3) (n+1):=by
 intro c h s t s' hp hm;have hpl:=hp.lt;obtain⟨o1,o2⟩:=hp.old;rw[pM,if_neg (by decide),if_neg (by decide),if_neg (by decide)] at hm;obtain⟨v,s1,hv,hm⟩:=ay hm;refine b9 ?_;refine af ?_;refine xo rfl (cH) ?_;rintro _ h1 ⟨rfl,k1,e1,z1⟩;refine af ?_;refine xo rfl (aF rfl ((ih n (Nat.le_refl _)).p4 _ _ _ _ _ (hp.ah e1) hv)) ?_;rintro r2 h2 ⟨y2,hp2,t2,hn2,vX⟩;obtain⟨nk,nt,na,nn,nc,rfl,hr2⟩:=hn2.get;refine xo rfl (cH) ?_;rintro _ h3 ⟨rfl,k3,e3,z3⟩;refine aN rfl (aV rfl rfl k3 kW) ?_;rintro _ h4 ⟨rfl,k4,x4,z4⟩;have z2:=y2.size;have x24:Ext (fun b=>b=h2.size) h2 h4:=e3.of.trans x4;have hI:CZ c h h4 h2.size v s1:=⟨(hp2.ah e3).ext x4 (fun b hb q=>by omega),((e1.of.trans y2).trans e3.of).bH x4 (fun b hb q=>by omega),((k1.ext y2 (by omega)).ah e3).ext x4 (show ¬h.size=h2.size by omega),by omega,nk,nt,na,nn,nc,t2,k4,bM hr2 x24 (fun b hb q=>⟨fun q2=>by omega,fun q2=>q (by omega)⟩),vX⟩
 obtain⟨m,rfl⟩:∃m',n=m'+1:=by cases n with|zero=>cases hm|succ m=>exact⟨m,rfl⟩
 rw[pM,NC] at hm;refine af ?_;refine xo rfl (jb [_,_,_,_,_,_]) ?_;rintro _ w5 ⟨rfl,hw5⟩;have y5:aj h4 w5:=by rw[hw5];exact Ext.push _ _ _
 have ts5:aZ oz w5 (fun _=>False) (.slice (some ⟨Array.size h4,0,none⟩) 6 6) Hl:=by rw[hw5];exact bB _ Hl _ rfl (by simp[maxLen]) rfl
 refine xo rfl (aF rfl (bA (hI.st.ah y5) 6 ts5)) ?_;rintro _ h5 ⟨rfl,hp5,x5⟩;have x5:=y5.of.trans x5
 rcases hq5:bE 6 Hl s1 with ⟨o5,s5⟩
 rw[hq5] at hp5 hm
 rcases o5 with _|v5
 · simp only at hm;obtain⟨rfl,rfl⟩:v=t/\s5=s':=by cases hm;exact⟨rfl,rfl⟩
   refine af ?_;refine gm rfl (by simp) ?_;have hI2:=hI.mv hpl x5 hp5 (fun q=>aL hq5 q);obtain⟨j1,j2,j3,j4,jk,jx,ja,jn,jc,ju,j5,j6,j7⟩:=hI2;refine af ?_;refine xp rfl (b7 rfl j5.row) ?_;refine aN rfl (aV rfl rfl j3 kW) ?_;rintro _ hz ⟨rfl,kz,xz,zz⟩;refine af ?_;refine cn (cg rfl kz.row cm) ?_;exact⟨_,rfl,bC hp j2 j1 (eK.of (bM j6 (Ext.refl (fun _=>False) _) (fun b hb q=>⟨fun q2=>q2,fun q2=>q (.inl q2)⟩))) j7 xz⟩
 · simp only at hm;obtain⟨v2,s3,hv2,hm⟩:=ay hm;rw[if_pos trivial] at hm;obtain⟨rfl,rfl⟩:Tr.mk 5 v5 [v,v2]=t/\s3=s':=by cases hm;exact⟨rfl,rfl⟩
   refine af ?_;refine fH rfl (by simp) ?_;have hI2:=hI.mv hpl x5 hp5 (fun q=>aL hq5 q);obtain⟨j1,j2,j3,j4,jk,jx,ja,jn,jc,ju,j5,j6,j7⟩:=hI2;have j5l:=j5.lt;have j2z:=j2.size;refine af ?_;refine lO 6 (fun b=>b=c.pb\/Array.size h5<=b) (fun i=>Nat.blt i 5) ?_;refine aG 0 ?_;refine bJ 1 rfl (fun h' e=>b7 rfl (e.rowAt (by omega) j5.row)) ?_;refine aG 2 ?_;refine dR 3 rfl (aF rfl ((ih m (by omega)).p4 _ _ _ _ _ hp5 hv2)) ?_;rintro r6 h6 ⟨y6,hp6,t6,hn6,ht6⟩;refine⟨fun _=>y6.mono (fun _ _ q=>.inl q),?_⟩;have z6:=y6.size;refine dR 4 rfl (aF rfl (gp (O:=fun b=>b<=h.size\/b=h2.size) v5 (fun b q=>by omega) (eK.of (bM j6 y6 (fun b hb q=>⟨fun q2=>q (by omega),q⟩))) (hn6.ext (Ext.refl (fun _=>False) _) (fun b hb q=>⟨fun q2=>q2,fun q2=>q (by omega)⟩)))) ?_;rintro r8 h8 ⟨hn8,e8⟩;refine⟨fun _=>e8.of,?_⟩;have z8:=e8.size;obtain⟨mk,mt,ma,mn,mc,rfl,hr8⟩:=hn8.get;refine jZ 5 rfl (aV rfl rfl (((j3.ext y6 (show ¬h.size=c.pb by omega)).ah e8)) kW) ?_;rintro _ h9 ⟨rfl,k9,x9,z9⟩;refine⟨nofun,?_⟩;refine iO ?_;refine cn (cg rfl k9.row cm) ?_;exact⟨_,rfl,bC hp ((j2.trans y6).trans e8.of) (hp6.ah e8) (eK.of (bM hr8 (Ext.refl (fun _=>False) _) (fun b hb q=>⟨fun q2=>q2,fun q2=>q (.inl q2)⟩))) (fun q=>by rw[j7 (aS hv2 q),ht6 q]) x9⟩
theorem Bm (ih:∀m,m<=n->Bi m):Ct 205 [] (.part 7) (n+1):=by
 intro c h s t s' hp hm;have hpl:=hp.lt;obtain⟨o1,o2⟩:=hp.old;rw[pM,if_pos rfl] at hm;obtain⟨v,s1,hv,hm⟩:=ay hm;refine b9 ?_;refine af ?_;refine xo rfl (cH) ?_;rintro _ h1 ⟨rfl,k1,e1,z1⟩;refine af ?_;refine xo rfl (aF rfl ((ih n (Nat.le_refl _)).atom _ _ _ _ _ (hp.ah e1) hv)) ?_;rintro r2 h2 ⟨y2,hp2,t2,hn2,vX⟩;obtain⟨nk,nt,na,nn,nc,rfl,hr2⟩:=hn2.get;refine xo rfl (cH) ?_;rintro _ h3 ⟨rfl,k3,e3,z3⟩;refine aN rfl (aV rfl rfl k3 kW) ?_;rintro _ h4 ⟨rfl,k4,x4,z4⟩;have z2:=y2.size;have x24:Ext (fun b=>b=h2.size) h2 h4:=e3.of.trans x4;have hI:CZ c h h4 h2.size v s1:=⟨(hp2.ah e3).ext x4 (fun b hb q=>by omega),((e1.of.trans y2).trans e3.of).bH x4 (fun b hb q=>by omega),((k1.ext y2 (by omega)).ah e3).ext x4 (show ¬h.size=h2.size by omega),by omega,nk,nt,na,nn,nc,t2,k4,bM hr2 x24 (fun b hb q=>⟨fun q2=>by omega,fun q2=>q (by omega)⟩),vX⟩
 refine af ?_;refine jd (σ:=Nat×Tr×PS) (fun _=>[]) (fun w g=>w.1<=n/\pM c.e w.1 (.callL w.2.1) w.2.2=some (t,s')/\CZ c h g h2.size w.2.1 w.2.2) (fun w=>w.1) ((n,v,s1)) ⟨Nat.le_refl _,hm,hI⟩ rfl ?_;rintro⟨m,u,sI⟩ g ⟨hmn,hm,hI⟩ ihL
 try dsimp only
 obtain⟨m,rfl⟩:∃m',m=m'+1:=by cases m with|zero=>cases hm|succ m=>exact⟨m,rfl⟩
 rw[pM] at hm;refine af ?_;refine xo rfl (jb [_]) ?_;rintro _ w5 ⟨rfl,hw5⟩;have y5:aj g w5:=by rw[hw5];exact Ext.push _ _ _
 have ts5:aZ oz w5 (fun _=>False) (.slice (some ⟨Array.size g,0,none⟩) 1 1) [[40]]:=by rw[hw5];exact bB _ [[40]] _ rfl (by simp[maxLen]) rfl
 refine xo rfl (aF rfl (bA (hI.st.ah y5) 7 ts5)) ?_;rintro _ h5 ⟨rfl,hp5,x5⟩;have x5:=y5.of.trans x5
 rcases hq5:bE 7 [[40]] sI with ⟨o5,s5⟩
 rw[hq5] at hp5 hm
 rcases o5 with _|v5
 · simp only at hm;obtain⟨rfl,rfl⟩:u=t/\s5=s':=by cases hm;exact⟨rfl,rfl⟩
   refine af ?_;refine fH rfl (by simp) ?_;have hI2:=hI.mv hpl x5 hp5 (fun q=>aL hq5 q);obtain⟨j1,j2,j3,j4,jk,jx,ja,jn,jc,ju,j5,j6,j7⟩:=hI2;refine af ?_;refine xp rfl (b7 rfl j5.row) ?_;refine aN rfl (aV rfl rfl j3 kW) ?_;rintro _ hz ⟨rfl,kz,xz,zz⟩;refine af ?_;refine cn (cg rfl kz.row cm) ?_;exact⟨_,rfl,bC hp j2 j1 (eK.of (bM j6 (Ext.refl (fun _=>False) _) (fun b hb q=>⟨fun q2=>q2,fun q2=>q (.inl q2)⟩))) j7 xz⟩
 · simp only at hm;refine af ?_;refine gm rfl (by simp) ?_;have hI5:=hI.mv hpl x5 hp5 (fun q=>aL hq5 q);refine af ?_;refine jd (σ:=Nat×Tr×PS) (fun _=>[]) (fun w g=>w.1<=m/\pM c.e w.1 (.argL w.2.1) w.2.2=some (t,s')/\CZ c h g h2.size w.2.1 w.2.2) (fun w=>w.1) ((m,u,s5)) ⟨Nat.le_refl _,hm,hI5⟩ rfl ?_;rintro⟨m2,u2,sJ⟩ g2 ⟨hmn2,hm,hJ⟩ ihA
   try dsimp only
   obtain⟨m2,rfl⟩:∃m',m2=m'+1:=by cases m2 with|zero=>cases hm|succ m=>exact⟨m,rfl⟩
   rw[pM] at hm;obtain⟨v2,s3,hv2,hm⟩:=ay hm;obtain⟨j1,j2,j3,j4,jk,jx,ja,jn,jc,ju,j5,j6,j7⟩:=hJ;have j5l:=j5.lt;have j2z:=j2.size;refine af ?_;refine lO 6 (fun b=>b=c.pb\/Array.size g2<=b) (fun i=>Nat.blt i 5) ?_;refine bJ 0 rfl (fun h' e=>b7 rfl (e.rowAt (by omega) j5.row)) ?_;refine aG 1 ?_;refine dR 2 rfl (aF rfl ((ih m2 (by omega)).expr _ _ _ _ _ j1 hv2)) ?_;rintro r6 h6 ⟨y6,hp6,t6,hn6,ht6⟩;refine⟨fun _=>y6.mono (fun _ _ q=>.inl q),?_⟩;have z6:=y6.size;obtain⟨mk,mt,ma,mn,mc,rfl,hr6⟩:=hn6.get;refine dR 3 rfl (aQ.sw underlying25 H.Kt ([[.int .i64 jk,.string (bs jx),.slice ja jn jc],[.int .i64 mk,.string (bs mt),.slice ma mn mc]]) rfl rfl (by decide) (by simp<;>repeat' (first|rfl|constructor))) ?_;rintro _ h8 ⟨rfl,hh8⟩;refine⟨fun _=>(by rw[hh8];exact Ext.push _ _ _),?_⟩;have e8:aj h6 h8:=by rw[hh8];exact Ext.push _ _ _
   have z8:h8.size=h6.size+1:=by rw[hh8];simp
   have hs8:cF eN (fun b=>b<=h.size\/b=h2.size) h8 h6.size 27 (.slice (some ⟨h6.size,0,none⟩) 2 2) [ju,t6]:=by
    rw[hh8];exact vq (bM j6 y6 (fun b hb q=>⟨fun q2=>q (by omega),q⟩)) (bM hr6 (Ext.refl (fun _=>False) _) (fun b hb q=>⟨fun q2=>q2,fun q2=>q (by omega)⟩)) (Nat.le_refl _)
   have hs8':aZ eN h8 (fun b=>b<=h.size\/b=h2.size) (.slice (some ⟨h6.size,0,none⟩) 2 2) [ju,t6]:=hs8.read (fun b hb q=>by omega) (fun b hb q=>q);refine bJ 4 rfl (fun h' e=>aq (H.CL _ _ _ _) rfl) ?_;refine jZ 5 rfl (aV rfl rfl (((j5.ext y6 (show ¬h2.size=c.pb by omega)).ah e8)) kW) ?_;rintro _ h9 ⟨rfl,k9,x9,z9⟩;refine⟨nofun,?_⟩;have k9:aD h9 h2.size 27 [.int .i64 9,.string (bs []),.slice (some ⟨h6.size,0,none⟩) 2 2]:=k9;have hI9:CZ c h h9 h2.size (.mk 9 [] [u2,v2]) s3:=⟨(hp6.ah e8).ext x9 (fun b hb q=>by omega),((j2.trans y6).trans e8.of).bH x9 (fun b hb q=>by omega),((j3.ext y6 (show ¬h.size=c.pb by omega)).ah e8).ext x9 (show ¬h.size=h2.size by omega),j4,_,_,_,_,_,_,k9,oy (hs8'.mv (Mv.cu x9 fun b hb q=>⟨fun q2=>q (.inr q2),q⟩)),fun q=>by rw[j7 (aS hv2 q),ht6 q]⟩
   refine iO ?_;refine af ?_;refine xo rfl (jb [_]) ?_;rintro _ w10 ⟨rfl,hw10⟩;have y10:aj h9 w10:=by rw[hw10];exact Ext.push _ _ _
   have ts10:aZ oz w10 (fun _=>False) (.slice (some ⟨Array.size h9,0,none⟩) 1 1) [[44]]:=by rw[hw10];exact bB _ [[44]] _ rfl (by simp[maxLen]) rfl
   refine xo rfl (aF rfl (bA (hI9.st.ah y10) 6 ts10)) ?_;rintro _ h10 ⟨rfl,hp10,x10⟩;have x10:=y10.of.trans x10
   rcases hq10:bE 6 [[44]] s3 with ⟨o10,s10⟩
   rw[hq10] at hp10 hm;have hI10:=hI9.mv hpl x10 hp10 (fun q=>aL hq10 q)
   rcases o10 with _|v10
   · simp only at hm;refine af ?_;refine fH rfl (by simp) ?_;refine af ?_;refine xo rfl (aF rfl (gH hp10 8 [41])) ?_;rintro _ h11 ⟨hp11,x11⟩;have hI11:=hI10.mv hpl x11 hp11 (fun q=>cJ q);refine af ?_;exact ihL (m2,.mk 9 [] [u2,v2],_) ⟨by omega,hm,hI11⟩
   · simp only at hm;refine af ?_;refine gm rfl (by simp) ?_;refine af ?_;exact ihA (m2,.mk 9 [] [u2,v2],_) ⟨by omega,hm,hI10⟩
structure Fk (c:PC) (h g:ai) (b3:Nat) (K:Int) (l:List Tr) (kv:Value) (s1:PS):Prop where
 st:rG c g s1
 ext:Ext (fun b=>b=c.pb) h g
 res:aD g h.size 27 [.int .i64 0,.string (bs []),.slice none 0 0]
 lt:h.size<b3
 nd:aD g b3 27 [.int .i64 K,.string (bs []),kv]
 row:cF eN (fun b=>b<=h.size\/b=b3) g (h.size+1) 27 kv l
 own:∀b,kv.ownBlock=some b->h.size<b/\b≠b3/\b<g.size
 sl:∃a m d,kv= .slice a m d
theorem Fk.mv {c:PC}{g':ai}{K:Int}{l:List Tr}{kv:Value}{s2:PS}(k:Fk c h g b3 K l kv s1) (hp:c.pb<h.size) (x:Ext (fun b=>b=c.pb) g g') (hs:rG c g' s2):Fk c h g' b3 K l kv s2:=by
 obtain⟨k1,k2,k3,k4,k5,k6,k7,k8⟩:=k;have:=x.size;exact⟨hs,k2.trans x,k3.ext x (by omega),k4,k5.ext x (by omega),k6.rL x (fun b q q2=>by have:=k7 b q;omega) (fun b hb q=>by omega) (fun _ _ q=>q),fun b q=>by have:=k7 b q;omega,k8⟩
theorem Fk.tell {c:PC}{K:Int}{l:List Tr}{kv:Value}(k:Fk c h g b3 K l kv s1):eK g (fun b=>b<=h.size) (.agg #[.int .i64 K,.string (bs []),kv]) (.mk K [] l) :=
 eK.shut (k.row.read (fun b hb q=>by omega) (fun b hb q=>.inl q))
theorem zH (ih:∀m,m<=n->Bi m):Ct 145 [] .block (n+1):=by
 intro c h s t s' hp hm;have hpl:=hp.lt;obtain⟨o1,o2⟩:=hp.old;rw[pM] at hm;refine b9 ?_;refine af ?_;refine xo rfl (cH) ?_;rintro _ h1 ⟨rfl,k1,e1,z1⟩;refine af ?_;refine xo rfl (aF rfl (gH (hp.ah e1) 7 [123])) ?_;rintro _ h2 ⟨hp2,x2⟩;have z2:=x2.size;refine af ?_;refine xp rfl (aq (H.Ms _) rfl) ?_;refine xo rfl (cH) ?_;rintro _ h3 ⟨rfl,k3,e3,z3⟩;refine aN rfl (aV rfl rfl k3) ?_;rintro _ h4 ⟨rfl,k4,x4,z4⟩;have hs4:=hp2.short
 have hsl:(ck c.e 7 [123] s).bI=false->(ck c.e 7 [123] s).len+1<=c.us.length:=fun q=>by
  have:=hp.short;unfold ck at q ⊢
  rcases hq:bE 7 [[123]] s with ⟨o,s1⟩
  rw[hq] at q;cases o with
  |none=>rw[cV] at q;cases q
  |some x=>have:=ct hq;simp only;omega
 have hK4:Fk c h h4 h2.size 10 [] (.slice none 0 0) (ck c.e 7 [123] s):=⟨(hp2.ah e3).ext x4 (fun b hb q=>by omega),((e1.of.trans x2).trans e3.of).bH x4 (fun i hi q=>by omega),((k1.ext x2 (show ¬h.size=c.pb by omega)).ah e3).ext x4 (show ¬h.size=h2.size by omega),by omega,k4,cF.nil _ _ _ _ _,fun b q=>(by cases q),⟨_,_,_,rfl⟩⟩
 refine af ?_;refine jd (σ:=Nat×List Tr×Value×PS) (fun _=>[]) (fun w g=>Fk c h g h2.size 10 w.2.1 w.2.2.1 w.2.2.2/\(w.2.2.2.bI=true->w.2.2.2=s')/\(w.2.2.2.bI=false->w.1<=n/\pM c.e w.1 (.blockL w.2.1) w.2.2.2=some (t,s')/\w.2.1.length+w.2.2.2.len+1<=c.us.length)) (fun w=>w.1) ((n,[],.slice none 0 0,ck c.e 7 [123] s)) ⟨hK4,fun q=>by obtain⟨k,hk⟩:∃k,ck c.e 7 [123] s= .bad k:=by { cases hq:ck c.e 7 [123] s with|ok r=>rw[hq] at q;cases q|bad k=>exact⟨k,rfl⟩ };rw[hk] at hm ⊢;exact(HT hm).symm,fun q=>⟨Nat.le_refl _,hm,by have:=hsl q;simp only[List.length_nil];omega⟩⟩ rfl ?_;rintro⟨m,l,kv,sI⟩ g ⟨hI,hbad,hok⟩ ihL
 try dsimp only
 obtain⟨pi,pbb,pm,pk,_,_,ps,_⟩:=id hI.st;refine af ?_;refine xp rfl (aA rfl (pk.cell (i:=3) rfl)) ?_;refine af ?_
 rcases sI with r|q
 · obtain⟨rfl,_⟩:=ps;obtain⟨hmn,hm,hlen⟩:=hok rfl;obtain⟨m,rfl⟩:∃m',m=m'+1:=by cases m with|zero=>cases hm|succ m=>exact⟨m,rfl⟩
   rw[pM] at hm;obtain⟨v,s2,hv,hm⟩:=ay hm;have hsh:=hI.st.short;refine fH rfl (by simp) ?_;obtain⟨i1,i2,i3,i4,i5,i6,i7,_⟩:=id hI;have i5l:=i5.lt;have i2z:=i2.size
   have hM:¬(h2.size=c.pb\/cx (kv).ownBlock h2.size\/Array.size g<=h2.size):=fun q=>by
    rcases q with q|q|q
    · omega
    · have:=i7 _ q.symm;omega
    · omega
   refine af ?_;refine lO 8 (fun b=>b=c.pb\/cx (kv).ownBlock b\/Array.size g<=b) (fun i=>Nat.blt i 7) ?_;refine aG 0 ?_;refine bJ 1 rfl (fun h' e=>aA rfl (e.cell hM (i5.cell (i:=2) rfl))) ?_;refine aG 2 ?_;refine dR 3 rfl (aF rfl ((ih m (by omega)).stmt _ _ _ _ _ i1 hv)) ?_;rintro r6 h6 ⟨y6,hp6,t6,hn6,ht6⟩;refine⟨fun _=>y6.mono (fun _ _ q=>.inl q),?_⟩;have z6:=y6.size;obtain⟨mk,mt,ma,mn,mc,rfl,hr6⟩:=hn6.get;have ho6:=i6.rL y6 (fun b q q2=>by have:=i7 b q;omega) (fun b hb q=>by omega) (fun _ _ q=>q);obtain⟨css,hc1,hc2,hc3⟩:=id ho6;refine dR 4 rfl (rJ) ?_;rintro _ _ ⟨rfl,rfl⟩;refine⟨fun _=>by first|exact Ext.push _ _ _|assumption,?_⟩;refine dR 5 rfl (xO rfl rfl hc2 rfl rfl) ?_;rintro v7 h7 ⟨ho7,hx7,hx7',hv7⟩;refine⟨fun _=>hx7'.mono (fun b _ q=>.inr (.inl q)),?_⟩;have z7:=hx7.size;obtain⟨va,vm,vc,rfl⟩:=uk ho7;refine aG 6 ?_;refine jZ 7 rfl (mG rfl rfl (((i5.ext y6 (show ¬h2.size=c.pb by omega)).ext hx7 (fun q=>by have:=i7 _ q.symm;omega)))) ?_;rintro _ h8 ⟨rfl,k8,x8,z8⟩;refine⟨nofun,?_⟩
   have hr6':eN.R h6 (fun b=>cx (kv).ownBlock b\/(b<=h.size\/b=h2.size)) [.int .i64 mk,.string (bs mt),.slice ma mn mc] t6:=bM hr6 (Ext.refl (fun _=>False) _) (fun b hb q=>⟨fun k=>k,fun q2=>by
    rcases q2 with q2|q2
    · have:=i7 _ q2.symm;omega
    · omega⟩)
   have ho7x:cF eN (fun b=>b<=h.size\/b=h2.size) h7 (h.size+1) 27 (.slice va vm vc) (l++[t6]):=cF.fq hc1 hc3 ho7 hx7 hv7 hr6'
   have hown7:∀b,(Value.slice va vm vc).ownBlock=some b->h.size<b/\b≠h2.size/\b<h7.size:=fun b q=>by
    have hl:=(ho7.lt q).2
    rcases hv7 b q with q2|q2
    · have:=i7 b q2;omega
    · omega
   have hK:Fk c h h8 h2.size 10 (l++[t6]) (.slice va vm vc) s2:=Fk.mk ((hp6.ext hx7 (fun b hb q=>by have:=i7 _ q.symm;omega)).ext x8 (fun b hb q=>by omega)) (((i2.trans y6).bH hx7 (fun i hi q=>by have:=i7 _ q.symm;omega)).bH x8 (fun i hi q=>by omega)) (((i3.ext y6 (show ¬h.size=c.pb by omega)).ext hx7 (fun q=>by have:=i7 _ q.symm;omega)).ext x8 (show ¬h.size=h2.size by omega)) i4 k8 (ho7x.rL x8 (fun b q q2=>by have:=hown7 b q;omega) (fun b hb q=>.inr q) (fun _ _ q=>q)) (fun b q=>by have:=hown7 b q;omega) ⟨_,_,_,rfl⟩;have hvl:=iz hv;refine iO ?_;refine af ?_;refine xo rfl (jb [_]) ?_;rintro _ w9 ⟨rfl,hw9⟩;have y9:aj h8 w9:=by rw[hw9];exact Ext.push _ _ _
   have ts9:aZ oz w9 (fun _=>False) (.slice (some ⟨Array.size h8,0,none⟩) 1 1) [[59]]:=by rw[hw9];exact bB _ [[59]] _ rfl (by simp[maxLen]) rfl
   refine xo rfl (aF rfl (bA (hK.st.ah y9) 6 ts9)) ?_;rintro _ h9 ⟨rfl,hp9,x9⟩;have x9:=y9.of.trans x9
   rcases hq9:bE 6 [[59]] s2 with ⟨o9,s9⟩
   rw[hq9] at hp9 hm;have hK9:=hK.mv hpl x9 hp9;simp only at hm;refine af ?_;refine xo rfl (jb [_]) ?_;rintro _ w10 ⟨rfl,hw10⟩;have y10:aj h9 w10:=by rw[hw10];exact Ext.push _ _ _
   have ts10:aZ oz w10 (fun _=>False) (.slice (some ⟨Array.size h9,0,none⟩) 1 1) [[125]]:=by rw[hw10];exact bB _ [[125]] _ rfl (by simp[maxLen]) rfl
   refine xo rfl (aF rfl (bA (hK9.st.ah y10) 8 ts10)) ?_;rintro _ h10 ⟨rfl,hp10,x10⟩;have x10:=y10.of.trans x10
   rcases hq10:bE 8 [[125]] s9 with ⟨o10,s10⟩
   rw[hq10] at hp10 hm;have hK10:=hK9.mv hpl x10 hp10
   rcases o10 with _|v10
   · simp only at hm;have e10:=aE hq10;refine af ?_;refine gm rfl (by simp) ?_
     rcases o9 with _|v9
     · simp only[Option.isSome_none,Bool.false_and,Bool.false_eq_true,if_false] at hm;refine af ?_;refine fH rfl (by simp) ?_;refine af ?_;refine xo rfl (aF rfl (eE hK10.st)) ?_;rintro _ h11 ⟨rfl,hp11,x11⟩;have hK11:=hK10.mv hpl x11 hp11;have hs':cB c.e s10=s':=by cases hm;rfl
       refine af ?_;exact ihL (m,l++[t6],_,_) ⟨hK11,fun _=>hs',fun q=>by have q:(cB c.e s10).bI=false:=q;rw[cV] at q;cases q⟩
     · obtain⟨u0,r0,hs2,hs9,_⟩:=lF hq9;subst hs9;subst e10;simp only[Option.isSome_some,PS.bI,Bool.not_false,Bool.and_true,if_true] at hm;refine af ?_;refine gm rfl (by simp) ?_;refine af ?_;exact ihL (m,l++[t6],_,_) ⟨hK10,fun q=>(by cases q),fun _=>⟨by show m<=n;omega,by rw[ht6 (by rw[hs2];rfl)];exact hm,by have:=ct hq9;simp only[List.length_append,List.length_singleton,PS.len] at this hvl hlen ⊢;omega⟩⟩
   · simp only at hm;obtain⟨rfl,rfl⟩:Tr.mk 10 [] (l++[v])=t/\s10=s':=by cases hm;exact⟨rfl,rfl⟩
     refine af ?_;refine fH rfl (by simp) ?_;refine af ?_;refine xp rfl (b7 rfl hK10.nd.row) ?_;refine aN rfl (aV rfl rfl hK10.res kW) ?_;rintro _ hz ⟨rfl,kz,xz,zz⟩;refine af ?_;refine cn (cg rfl kz.row cm) ?_;exact⟨_,rfl,bC hp hK10.ext hK10.st hK10.tell (fun q=>by rw[ht6 (aL hq9 (aL hq10 q))]) xz⟩
 · obtain⟨rfl,_⟩:=ps;obtain rfl:=hbad rfl;obtain⟨ka,km,kd,rfl⟩:=hI.sl;refine gm rfl (by simp) ?_;refine af ?_;refine xp rfl (b7 rfl hI.nd.row) ?_;refine aN rfl (aV rfl rfl hI.res kW) ?_;rintro _ hz ⟨rfl,kz,xz,zz⟩;refine af ?_;refine cn (cg rfl kz.row cm) ?_;exact⟨_,rfl,bC hp hI.ext hI.st hI.tell (fun q=>by cases q) xz⟩
theorem xU (ih:∀m,m<=n->Bi m):Ct 112 [] .choice (n+1):=by
 intro c h s t s' hp hm;have hpl:=hp.lt;obtain⟨o1,o2⟩:=hp.old;rw[pM] at hm;obtain⟨va0,s1,hva,hm⟩:=ay hm;obtain⟨vb0,s2,hvb,hm⟩:=ay hm;refine b9 ?_;refine af ?_;refine xo rfl (cH) ?_;rintro _ h1 ⟨rfl,k1,e1,z1⟩;refine af ?_;refine xo rfl (aF rfl ((ih n (Nat.le_refl _)).expr _ _ _ _ _ (hp.ah e1) hva)) ?_;rintro r2 h2 ⟨y2,hp2,t2,hn2,vX⟩;obtain⟨ak,at_,aa,an,ac,rfl,hr2⟩:=hn2.get;have z2:=y2.size;refine af ?_;refine xo rfl (aF rfl ((ih n (Nat.le_refl _)).block _ _ _ _ _ hp2 hvb)) ?_;rintro r3 h3 ⟨y3,hp3,t3,hn3,ht3⟩;obtain⟨bk,bt,ba,bn,bc,rfl,hr3⟩:=hn3.get;have z3:=y3.size;refine xo rfl (aQ.sw underlying25 H.Kt ([[.int .i64 ak,.string (bs at_),.slice aa an ac],[.int .i64 bk,.string (bs bt),.slice ba bn bc]]) rfl rfl (by decide) (by simp<;>repeat' (first|rfl|constructor))) ?_;rintro _ h4 ⟨rfl,hh4⟩;have e4:aj h3 h4:=by rw[hh4];exact Ext.push _ _ _
 have z4:h4.size=h3.size+1:=by rw[hh4];simp
 have hs4:cF eN (fun b=>b<=h.size\/h3.size<=b) h4 (h.size+1) 27 (.slice (some ⟨h3.size,0,none⟩) 2 2) [t2,t3]:=by
  rw[hh4];exact vq (bM hr2 y3 (fun b hb q=>⟨fun q2=>q (by omega),fun q2=>q (by omega)⟩)) (bM hr3 (Ext.refl (fun _=>False) _) (fun b hb q=>⟨fun q2=>q2,fun q2=>q (by omega)⟩)) (by omega)
 refine xp rfl (aq (H.CL _ _ _ _) rfl) ?_;refine xo rfl (cH) ?_;rintro _ h5 ⟨rfl,k5,e5,z5⟩;refine aN rfl (aV rfl rfl k5) ?_;rintro _ h6 ⟨rfl,k6,x6,z6⟩;have x26:Ext (fun b=>b=h4.size) h4 h6:=e5.of.trans x6;have x06:Ext (fun b=>b=c.pb) h h6:=(((e1.of.trans y2).trans y3).trans e4.of).bH x26 (fun i hi q=>by omega);have hK6:Fk c h h6 h4.size 6 [t2,t3] (.slice (some ⟨h3.size,0,none⟩) 2 2) s2:=⟨(hp3.ah e4).ext x26 (fun b hb q=>by omega),x06,(((k1.ext y2 (show ¬h.size=c.pb by omega)).ext y3 (show ¬h.size=c.pb by omega)).ah e4).ext x26 (show ¬h.size=h4.size by omega),by omega,k6,hs4.rL x26 (fun b q q2=>by have:=jE q;omega) (fun b hb q=>by omega) (fun b hb q=>by omega),fun b q=>(by have:=jE q;omega),⟨_,_,_,rfl⟩⟩
 refine af ?_;refine xo rfl (aF rfl (gH hK6.st 4 ke)) ?_;rintro _ h7 ⟨hp7,x7⟩;have hK7:=hK6.mv hpl x7 hp7;refine af ?_;refine xo rfl (jb [_]) ?_;rintro _ w9 ⟨rfl,hw9⟩;have y9:aj h7 w9:=by rw[hw9];exact Ext.push _ _ _
 have ts9:aZ oz w9 (fun _=>False) (.slice (some ⟨Array.size h7,0,none⟩) 1 1) [Bg]:=by rw[hw9];exact bB _ [Bg] _ rfl (by simp[maxLen]) rfl
 refine xo rfl (aF rfl (bA (hK7.st.ah y9) 4 ts9)) ?_;rintro _ h9 ⟨rfl,hp9,x9⟩;have x9:=y9.of.trans x9
 rcases hq9:bE 4 [Bg] (ck c.e 4 ke s2) with ⟨o9,s9⟩
 rw[hq9] at hp9 hm;have hK9:=hK7.mv hpl x9 hp9
 have hgood:s9.bI=false->t2=va0/\t3=vb0:=fun q=>by
  have q2:=cJ (aL hq9 q);exact⟨vX (aS hvb q2),ht3 q2⟩
 rcases o9 with _|v9
 · simp only at hm;obtain⟨vc0,s3,hvc,hm⟩:=ay hm;obtain⟨rfl,rfl⟩:Tr.mk 6 [] [va0,vb0,vc0]=t/\s3=s':=by cases hm;exact⟨rfl,rfl⟩
   refine af ?_;refine gm rfl (by simp) ?_;obtain⟨i1,i2,i3,i4,i5,i6,i7,_⟩:=id hK9;have i5l:=i5.lt;have i2z:=i2.size
   have hM:¬(h4.size=c.pb\/cx ((Value.slice (some ⟨h3.size,0,none⟩) 2 2)).ownBlock h4.size\/Array.size h9<=h4.size):=fun q=>by
    rcases q with q|q|q
    · omega
    · have:=i7 _ q.symm;omega
    · omega
   refine lO 8 (fun b=>b=c.pb\/cx ((Value.slice (some ⟨h3.size,0,none⟩) 2 2)).ownBlock b\/Array.size h9<=b) (fun i=>Nat.blt i 7) ?_;refine aG 0 ?_;refine bJ 1 rfl (fun h' e=>aA rfl (e.cell hM (i5.cell (i:=2) rfl))) ?_;refine aG 2 ?_;refine dR 3 rfl (aF rfl ((ih n (Nat.le_refl _)).block _ _ _ _ _ i1 hvc)) ?_;rintro r6 h6 ⟨y6,hp6,t6,hn6,ht6⟩;refine⟨fun _=>y6.mono (fun _ _ q=>.inl q),?_⟩;have z6:=y6.size;obtain⟨mk,mt,ma,mn,mc,rfl,hr6⟩:=hn6.get;have ho6:=i6.rL y6 (fun b q q2=>by have:=i7 b q;omega) (fun b hb q=>by omega) (fun _ _ q=>q);obtain⟨css,hc1,hc2,hc3⟩:=id ho6;refine dR 4 rfl (rJ) ?_;rintro _ _ ⟨rfl,rfl⟩;refine⟨fun _=>by first|exact Ext.push _ _ _|assumption,?_⟩;refine dR 5 rfl (xO rfl rfl hc2 rfl rfl (by simp) (by omega)) ?_;rintro v7 h7 ⟨ho7,hx7,hx7',hv7⟩;refine⟨fun _=>hx7'.mono (fun b _ q=>.inr (.inl q)),?_⟩;have z7:=hx7.size;obtain⟨va,vm,vc,rfl⟩:=uk ho7;refine aG 6 ?_;refine jZ 7 rfl (mG rfl rfl (((i5.ext y6 (show ¬h4.size=c.pb by omega)).ext hx7 (fun q=>by have:=i7 _ q.symm;omega)))) ?_;rintro _ h8 ⟨rfl,k8,x8,z8⟩;refine⟨nofun,?_⟩
   have hr6':eN.R h6 (fun b=>cx ((Value.slice (some ⟨h3.size,0,none⟩) 2 2)).ownBlock b\/(b<=h.size\/b=h4.size)) [.int .i64 mk,.string (bs mt),.slice ma mn mc] t6:=bM hr6 (Ext.refl (fun _=>False) _) (fun b hb q=>⟨fun k=>k,fun q2=>by
    rcases q2 with q2|q2
    · have:=i7 _ q2.symm;omega
    · omega⟩)
   have ho7x:cF eN (fun b=>b<=h.size\/b=h4.size) h7 (h.size+1) 27 (.slice va vm vc) ([t2,t3]++[t6]):=cF.fq hc1 hc3 ho7 hx7 hv7 hr6'
   have hown7:∀b,(Value.slice va vm vc).ownBlock=some b->h.size<b/\b≠h4.size/\b<h7.size:=fun b q=>by
    have hl:=(ho7.lt q).2
    rcases hv7 b q with q2|q2
    · have:=i7 b q2;omega
    · omega
   have hK:Fk c h h8 h4.size 6 ([t2,t3]++[t6]) (.slice va vm vc) s3:=Fk.mk ((hp6.ext hx7 (fun b hb q=>by have:=i7 _ q.symm;omega)).ext x8 (fun b hb q=>by omega)) (((i2.trans y6).bH hx7 (fun i hi q=>by have:=i7 _ q.symm;omega)).bH x8 (fun i hi q=>by omega)) (((i3.ext y6 (show ¬h.size=c.pb by omega)).ext hx7 (fun q=>by have:=i7 _ q.symm;omega)).ext x8 (show ¬h.size=h4.size by omega)) i4 k8 (ho7x.rL x8 (fun b q q2=>by have:=hown7 b q;omega) (fun b hb q=>.inr q) (fun _ _ q=>q)) (fun b q=>by have:=hown7 b q;omega) ⟨_,_,_,rfl⟩;refine iO ?_;refine af ?_;refine xp rfl (b7 rfl hK.nd.row) ?_;refine aN rfl (aV rfl rfl hK.res kW) ?_;rintro _ hz ⟨rfl,kz,xz,zz⟩;refine af ?_;refine cn (cg rfl kz.row cm) ?_;exact⟨_,rfl,bC hp hK.ext hK.st hK.tell (fun q=>by rw[ht6 q,(hgood (aS hvc q)).1,(hgood (aS hvc q)).2];rfl) xz⟩
 · simp only at hm;obtain⟨vc0,s3,hvc,hm⟩:=ay hm;obtain⟨rfl,rfl⟩:Tr.mk 6 [] [va0,vb0,vc0]=t/\s3=s':=by cases hm;exact⟨rfl,rfl⟩
   refine af ?_;refine fH rfl (by simp) ?_;obtain⟨i1,i2,i3,i4,i5,i6,i7,_⟩:=id hK9;have i5l:=i5.lt;have i2z:=i2.size
   have hM:¬(h4.size=c.pb\/cx ((Value.slice (some ⟨h3.size,0,none⟩) 2 2)).ownBlock h4.size\/Array.size h9<=h4.size):=fun q=>by
    rcases q with q|q|q
    · omega
    · have:=i7 _ q.symm;omega
    · omega
   refine lO 8 (fun b=>b=c.pb\/cx ((Value.slice (some ⟨h3.size,0,none⟩) 2 2)).ownBlock b\/Array.size h9<=b) (fun i=>Nat.blt i 7) ?_;refine aG 0 ?_;refine bJ 1 rfl (fun h' e=>aA rfl (e.cell hM (i5.cell (i:=2) rfl))) ?_;refine aG 2 ?_;refine dR 3 rfl (aF rfl ((ih n (Nat.le_refl _)).choice _ _ _ _ _ i1 hvc)) ?_;rintro r6 h6 ⟨y6,hp6,t6,hn6,ht6⟩;refine⟨fun _=>y6.mono (fun _ _ q=>.inl q),?_⟩;have z6:=y6.size;obtain⟨mk,mt,ma,mn,mc,rfl,hr6⟩:=hn6.get;have ho6:=i6.rL y6 (fun b q q2=>by have:=i7 b q;omega) (fun b hb q=>by omega) (fun _ _ q=>q);obtain⟨css,hc1,hc2,hc3⟩:=id ho6;refine dR 4 rfl (rJ) ?_;rintro _ _ ⟨rfl,rfl⟩;refine⟨fun _=>by first|exact Ext.push _ _ _|assumption,?_⟩;refine dR 5 rfl (xO rfl rfl hc2 rfl rfl (by simp) (by omega)) ?_;rintro v7 h7 ⟨ho7,hx7,hx7',hv7⟩;refine⟨fun _=>hx7'.mono (fun b _ q=>.inr (.inl q)),?_⟩;have z7:=hx7.size;obtain⟨va,vm,vc,rfl⟩:=uk ho7;refine aG 6 ?_;refine jZ 7 rfl (mG rfl rfl (((i5.ext y6 (show ¬h4.size=c.pb by omega)).ext hx7 (fun q=>by have:=i7 _ q.symm;omega)))) ?_;rintro _ h8 ⟨rfl,k8,x8,z8⟩;refine⟨nofun,?_⟩
   have hr6':eN.R h6 (fun b=>cx ((Value.slice (some ⟨h3.size,0,none⟩) 2 2)).ownBlock b\/(b<=h.size\/b=h4.size)) [.int .i64 mk,.string (bs mt),.slice ma mn mc] t6:=bM hr6 (Ext.refl (fun _=>False) _) (fun b hb q=>⟨fun k=>k,fun q2=>by
    rcases q2 with q2|q2
    · have:=i7 _ q2.symm;omega
    · omega⟩)
   have ho7x:cF eN (fun b=>b<=h.size\/b=h4.size) h7 (h.size+1) 27 (.slice va vm vc) ([t2,t3]++[t6]):=cF.fq hc1 hc3 ho7 hx7 hv7 hr6'
   have hown7:∀b,(Value.slice va vm vc).ownBlock=some b->h.size<b/\b≠h4.size/\b<h7.size:=fun b q=>by
    have hl:=(ho7.lt q).2
    rcases hv7 b q with q2|q2
    · have:=i7 b q2;omega
    · omega
   have hK:Fk c h h8 h4.size 6 ([t2,t3]++[t6]) (.slice va vm vc) s3:=Fk.mk ((hp6.ext hx7 (fun b hb q=>by have:=i7 _ q.symm;omega)).ext x8 (fun b hb q=>by omega)) (((i2.trans y6).bH hx7 (fun i hi q=>by have:=i7 _ q.symm;omega)).bH x8 (fun i hi q=>by omega)) (((i3.ext y6 (show ¬h.size=c.pb by omega)).ext hx7 (fun q=>by have:=i7 _ q.symm;omega)).ext x8 (show ¬h.size=h4.size by omega)) i4 k8 (ho7x.rL x8 (fun b q q2=>by have:=hown7 b q;omega) (fun b hb q=>.inr q) (fun _ _ q=>q)) (fun b q=>by have:=hown7 b q;omega) ⟨_,_,_,rfl⟩;refine iO ?_;refine af ?_;refine xp rfl (b7 rfl hK.nd.row) ?_;refine aN rfl (aV rfl rfl hK.res kW) ?_;rintro _ hz ⟨rfl,kz,xz,zz⟩;refine af ?_;refine cn (cg rfl kz.row cm) ?_;exact⟨_,rfl,bC hp hK.ext hK.st hK.tell (fun q=>by rw[ht6 q,(hgood (aS hvc q)).1,(hgood (aS hvc q)).2];rfl) xz⟩
theorem vu (h:ai) (O:Nat->Prop):eK h O Qe Es:=eK.shut (aZ.nil _ _ _)
theorem KF (h:u.1=5):kE u=some (.mk 0 u.2.1 []):=by unfold kE;rw[if_pos h]
theorem KE (h:u.1=9):kE u=some (.mk 1 u.2.1 []):=by unfold kE;rw[if_neg (by omega),if_pos h]
theorem KH (h:u.1=3):kE u=some (.mk 3 u.2.1 []):=by unfold kE;rw[if_neg (by omega),if_neg (by omega),if_pos h]
theorem KG (h:u.1=4) (h2:u.2.1=kY\/u.2.1=pK):kE u=some (.mk 2 u.2.1 []):=by unfold kE;rw[if_neg (by omega),if_neg (by omega),if_neg (by omega),if_pos ⟨h,h2⟩]
theorem Jo (h5:¬u.1=5) (h9:¬u.1=9) (h3:¬u.1=3) (h4:¬(u.1=4/\(u.2.1=kY\/u.2.1=pK))):kE u=none:=by unfold kE;rw[if_neg h5,if_neg h9,if_neg h3,if_neg h4]
theorem Bn (ih:∀m,m<=n->Bi m):Ct 206 [] .atom (n+1):=by
 intro c h s t s' hp hm;have hpl:=hp.lt;obtain⟨pb,lv,n0,us,e⟩:=c;obtain⟨i,b,m,hk,hl,hi,hs,hpn,hn0⟩:=id hp;dsimp only at hk hl hi hs hpn hn0 hpl hm ⊢;obtain⟨la,ln,lc,rfl,hls⟩:=hl.open;have hln:us.length=ln:=hls.len;subst hln;have hlm:=hls.cap;have hlc:=hls.le;simp only[maxLen] at hlm;cases s with
 |bad q =>
  obtain⟨rfl,rfl⟩:=hs;have hm:some (Es,PS.bad m)=some (t,s'):=hm;refine b9 ?_;refine af ?_;refine xo rfl (cH) ?_;rintro _ h1 ⟨rfl,k1,e1,z1⟩;have hf:=eE (hp.ah e1);dsimp only at hf;refine dH ?_
  iterate 2 refine bl ?_
  refine GS ?_
  iterate 3 refine uE ?_
  refine cG rfl (aA rfl ((hk.ah e1).cell (i:=3) rfl)) ?_;refine uE ?_;refine RQ.cy (d:=9) (b':=true) rfl (rfl) ?_;refine af ?_;refine fH rfl (by simp) ?_;refine af ?_;refine xo rfl (aF rfl hf) ?_;rintro _ h2 ⟨rfl,hp2,x2⟩;refine aN rfl (aV rfl rfl ((k1.ext x2 (show ¬h.size=pb by omega)))) ?_;rintro _ h3 ⟨rfl,k3,x3,z3⟩;refine af ?_;refine cn (cg rfl k3.row cm) ?_;obtain⟨rfl,rfl⟩:Es=t/\PS.bad m=s':=by cases hm;exact⟨rfl,rfl⟩
  exact⟨_,rfl,bC hp (e1.of.trans x2) hp2 (vu _ _) (fun _=>rfl) x3⟩
  |ok r =>
  obtain⟨rfl,hr⟩:=hs;cases r with
  |nil =>
   have hie:=Dc hr hi;have hm:some (Es,cB e (.ok []))=some (t,s'):=hm;refine b9 ?_;refine af ?_;refine xo rfl (cH) ?_;rintro _ h1 ⟨rfl,k1,e1,z1⟩;have hf:=eE (hp.ah e1);dsimp only at hf;have hk1:=hk.ah e1;refine dH ?_
   iterate 2 refine bl ?_
   refine GS ?_
   iterate 3 refine uE ?_
   refine cG rfl (aA rfl (hk1.cell (i:=3) rfl)) ?_;refine af ?_;refine RQ.cy (d:=9) (b':=false) rfl (rfl) ?_;refine af ?_;refine cG rfl (aA rfl (hk1.cell (i:=1) rfl)) ?_;refine af ?_;refine cG rfl (aA rfl (hk1.cell (i:=0) rfl)) ?_;refine af ?_;refine fH rfl (by simp;omega) ?_;refine af ?_;refine xo rfl (aF rfl hf) ?_;rintro _ h2 ⟨rfl,hp2,x2⟩;refine aN rfl (aV rfl rfl ((k1.ext x2 (show ¬h.size=pb by omega)))) ?_;rintro _ h3 ⟨rfl,k3,x3,z3⟩;refine af ?_;refine cn (cg rfl k3.row cm) ?_;obtain⟨rfl,rfl⟩:Es=t/\cB e (.ok [])=s':=by cases hm;exact⟨rfl,rfl⟩
   exact⟨_,rfl,bC hp (e1.of.trans x2) hp2 (vu _ _) (fun _=>rfl) x3⟩
   |cons u r =>
   obtain⟨hu,hil,hr'⟩:=G8 hls hr;rw[pM] at hm;refine b9 ?_;refine af ?_;refine xo rfl (cH) ?_;rintro _ h1 ⟨rfl,k1,e1,z1⟩;have hk1:=hk.ah e1;have hls1:=hls.mv (Mv.ah e1);obtain⟨b1,o1,u',hua,hub,hu',hrow⟩:=hls1.xZ hil;rw[hu] at hu';cases hu';refine dH ?_
   iterate 2 refine bl ?_
   refine GS ?_
   iterate 3 refine uE ?_
   refine cG rfl (aA rfl (hk1.cell (i:=3) rfl)) ?_;refine af ?_;refine RQ.cy (d:=9) (b':=false) rfl (rfl) ?_;refine af ?_;refine cG rfl (aA rfl (hk1.cell (i:=1) rfl)) ?_;refine af ?_;refine cG rfl (aA rfl (hk1.cell (i:=0) rfl)) ?_;refine af ?_;refine gm rfl (by simp;omega) ?_;refine af ?_;refine LH 12 11 ?_;refine aG 0 ?_;refine aG 1 ?_;refine aG 2 ?_;refine bJ 3 rfl (fun h' e=>aA rfl (e.old (hk1.cell (i:=0) rfl))) ?_;refine aG 4 ?_;refine aG 5 ?_;refine aG 6 ?_;refine bJ 7 rfl (fun h' e=>aA rfl (e.old (hk1.cell (i:=1) rfl))) ?_;refine bJ 8 rfl (fun h' e=>cM rfl rfl i rfl hua) ?_;refine bJ 9 rfl (fun h' e=>b7 rfl (e.Ao hrow)) ?_;refine dR 10 rfl (cH) ?_;rintro _ h2 ⟨rfl,k2,e2,z2⟩;refine⟨fun _=>e2.of,?_⟩;refine jZ 11 rfl (aV rfl rfl k2 (by simpa using zN u)) ?_;rintro _ h4 ⟨rfl,hku,x4,z4⟩;refine⟨nofun,?_⟩;have x14:Ext (fun b=>b=h1.size) h1 h4:=e2.of.trans x4;have x04:Ext (fun b=>b=pb) h h4:=e1.of.bH x14 (fun i hi q=>by omega);have hku:aD h4 h1.size 172 (sr u):=hku;have hk4:=hk1.ext x14 (show ¬pb=h1.size by omega);have hkr:=k1.ext x14 (show ¬h.size=h1.size by omega);have hls4:=hls1.mv (Mv.cu x14 fun b hb ho=>⟨fun q=>ho (by omega),ho⟩);have hp4:rG ⟨pb,_,n0,us,e⟩ h4 (.ok (u::r)):=⟨i,false,m,hk4,hls4.shut,hi,⟨rfl,hr⟩,hpn,by have:=x04.size;dsimp only;omega⟩
   refine iO ?_;refine af ?_;refine xp rfl (aA rfl (hku.cell (i:=0) rfl)) ?_;refine af ?_;refine aX (fun c5=>?_) (fun c5=>?_)
   · refine af ?_;refine xp rfl (aA rfl (hk4.cell (i:=1) rfl)) ?_;refine af ?_;refine aN rfl (mG rfl rfl hk4) ?_;rintro _ h5 ⟨rfl,k5,x5,z5⟩;have hu5:=hku.ext x5 (show ¬h1.size=pb by omega);refine af ?_;refine xp rfl (aA rfl (hu5.cell (i:=1) rfl)) ?_;refine xp rfl (aq (H.iM _ _) rfl) ?_;refine aN rfl (aV rfl rfl ((hkr.ext x5 (show ¬h.size=pb by omega))) kW) ?_;rintro _ h6 ⟨rfl,k6,x6,z6⟩;refine af ?_;refine cn (cg rfl k6.row cm) ?_;rw[KF c5] at hm;obtain⟨rfl,rfl⟩:Tr.mk 0 u.2.1 []=t/\PS.ok r=s':=by cases hm;exact⟨rfl,rfl⟩
     have hp5:rG ⟨pb,_,n0,us,e⟩ h5 (.ok r):=⟨i+1,false,m,k5,(hls4.mv (Mv.cu x5 fun b _ ho=>⟨fun q=>ho (.inl q),ho⟩)).shut,hil,⟨rfl,hr'⟩,hpn,by have:=x5.size;dsimp only;omega⟩
     exact⟨_,rfl,bC hp (x04.trans x5) hp5 (eK.shut (aZ.nil _ _ _)) (fun _=>rfl) x6⟩
   · refine af ?_;refine xp rfl (aA rfl (hku.cell (i:=0) rfl)) ?_;refine af ?_;refine aX (fun c9=>?_) (fun c9=>?_)
     · refine af ?_;refine xp rfl (aA rfl (hk4.cell (i:=1) rfl)) ?_;refine af ?_;refine aN rfl (mG rfl rfl hk4) ?_;rintro _ h5 ⟨rfl,k5,x5,z5⟩;have hu5:=hku.ext x5 (show ¬h1.size=pb by omega);refine af ?_;refine xp rfl (aA rfl (hu5.cell (i:=1) rfl)) ?_;refine xp rfl (aq (H.iM _ _) rfl) ?_;refine aN rfl (aV rfl rfl ((hkr.ext x5 (show ¬h.size=pb by omega))) kW) ?_;rintro _ h6 ⟨rfl,k6,x6,z6⟩;refine af ?_;refine cn (cg rfl k6.row cm) ?_;rw[KE c9] at hm;obtain⟨rfl,rfl⟩:Tr.mk 1 u.2.1 []=t/\PS.ok r=s':=by cases hm;exact⟨rfl,rfl⟩
       have hp5:rG ⟨pb,_,n0,us,e⟩ h5 (.ok r):=⟨i+1,false,m,k5,(hls4.mv (Mv.cu x5 fun b _ ho=>⟨fun q=>ho (.inl q),ho⟩)).shut,hil,⟨rfl,hr'⟩,hpn,by have:=x5.size;dsimp only;omega⟩
       exact⟨_,rfl,bC hp (x04.trans x5) hp5 (eK.shut (aZ.nil _ _ _)) (fun _=>rfl) x6⟩
     · refine af ?_;refine xp rfl (aA rfl (hku.cell (i:=0) rfl)) ?_;refine af ?_;refine aX (fun c3=>?_) (fun c3=>?_)
       · refine af ?_;refine xp rfl (aA rfl (hk4.cell (i:=1) rfl)) ?_;refine af ?_;refine aN rfl (mG rfl rfl hk4) ?_;rintro _ h5 ⟨rfl,k5,x5,z5⟩;have hu5:=hku.ext x5 (show ¬h1.size=pb by omega);refine af ?_;refine xp rfl (aA rfl (hu5.cell (i:=1) rfl)) ?_;refine xp rfl (aq (H.iM _ _) rfl) ?_;refine aN rfl (aV rfl rfl ((hkr.ext x5 (show ¬h.size=pb by omega))) kW) ?_;rintro _ h6 ⟨rfl,k6,x6,z6⟩;refine af ?_;refine cn (cg rfl k6.row cm) ?_;rw[KH c3] at hm;obtain⟨rfl,rfl⟩:Tr.mk 3 u.2.1 []=t/\PS.ok r=s':=by cases hm;exact⟨rfl,rfl⟩
         have hp5:rG ⟨pb,_,n0,us,e⟩ h5 (.ok r):=⟨i+1,false,m,k5,(hls4.mv (Mv.cu x5 fun b _ ho=>⟨fun q=>ho (.inl q),ho⟩)).shut,hil,⟨rfl,hr'⟩,hpn,by have:=x5.size;dsimp only;omega⟩
         exact⟨_,rfl,bC hp (x04.trans x5) hp5 (eK.shut (aZ.nil _ _ _)) (fun _=>rfl) x6⟩
       · refine bl ?_;refine gG [(75,.bool (decide (u.1=4/\(u.2.1=kY\/u.2.1=pK))))] rfl ?_ ?_
         · refine af ?_;refine xp rfl (aA rfl (hku.cell (i:=0) rfl)) ?_;refine af ?_;refine dV 79 (fun g4=>?_) (fun g4=>?_)
           · have g4:=of_decide_eq_true g4;refine af ?_;refine xp rfl (aA rfl (hku.cell (i:=1) rfl)) ?_;refine af ?_;refine dV 83 (fun gt=>?_) (fun gt=>?_)
             · have gt:u.2.1=kY:=bu (of_decide_eq_true gt);refine af ?_;exact aH rfl ⟨av rfl (by rw[decide_eq_true ⟨g4,.inl gt⟩]),sb rfl⟩
             · have gt:¬u.2.1=kY:=fun q=>of_decide_eq_false gt (congrArg bs q)
               refine af ?_;refine xp rfl (aA rfl (hku.cell (i:=1) rfl)) ?_;refine af ?_;exact aH rfl ⟨av rfl (by rw[Bool.eq_iff_iff,decide_eq_true_iff,decide_eq_true_iff];exact⟨fun q=>⟨g4,.inr (bu q)⟩,fun q=>congrArg bs (q.2.resolve_left gt)⟩),sb rfl⟩
           · have g4:=of_decide_eq_false g4;refine af ?_;exact aH rfl ⟨av rfl (by rw[decide_eq_false (fun q=>g4 q.1)]),sb rfl⟩
         · refine aX (fun c4=>?_) (fun c4=>?_)
           · refine af ?_;refine xp rfl (aA rfl (hk4.cell (i:=1) rfl)) ?_;refine af ?_;refine aN rfl (mG rfl rfl hk4) ?_;rintro _ h5 ⟨rfl,k5,x5,z5⟩;have hu5:=hku.ext x5 (show ¬h1.size=pb by omega);refine af ?_;refine xp rfl (aA rfl (hu5.cell (i:=1) rfl)) ?_;refine xp rfl (aq (H.iM _ _) rfl) ?_;refine aN rfl (aV rfl rfl ((hkr.ext x5 (show ¬h.size=pb by omega))) kW) ?_;rintro _ h6 ⟨rfl,k6,x6,z6⟩;refine af ?_;refine cn (cg rfl k6.row cm) ?_;rw[KG c4.1 c4.2] at hm;obtain⟨rfl,rfl⟩:Tr.mk 2 u.2.1 []=t/\PS.ok r=s':=by cases hm;exact⟨rfl,rfl⟩
             have hp5:rG ⟨pb,_,n0,us,e⟩ h5 (.ok r):=⟨i+1,false,m,k5,(hls4.mv (Mv.cu x5 fun b _ ho=>⟨fun q=>ho (.inl q),ho⟩)).shut,hil,⟨rfl,hr'⟩,hpn,by have:=x5.size;dsimp only;omega⟩
             exact⟨_,rfl,bC hp (x04.trans x5) hp5 (eK.shut (aZ.nil _ _ _)) (fun _=>rfl) x6⟩
           · have hno:=Jo c5 c9 c3 c4;rw[hno] at hm;simp only at hm;refine bl ?_;refine gG [(99,.bool (decide (u.1=7/\u.2.1=[123])))] rfl ?_ ?_
             · refine af ?_;refine xp rfl (aA rfl (hku.cell (i:=0) rfl)) ?_;refine af ?_;refine dV 103 (fun g4=>?_) (fun g4=>?_)
               · have g4:=of_decide_eq_true g4;refine af ?_;refine xp rfl (aA rfl (hku.cell (i:=1) rfl)) ?_;refine af ?_;exact aH rfl ⟨av rfl (by rw[Bool.eq_iff_iff,decide_eq_true_iff,decide_eq_true_iff];exact⟨fun q=>⟨g4,bu q⟩,fun q=>congrArg bs q.2⟩),sb rfl⟩
               · have g4:=of_decide_eq_false g4;refine af ?_;exact aH rfl ⟨av rfl (by rw[decide_eq_false (fun q=>g4 q.1)]),sb rfl⟩
             · refine aX (fun cb=>?_) (fun cb=>?_)
               · rw[if_pos cb] at hm;have hcall:=(ih n (Nat.le_refl _)).block ⟨pb,_,n0,us,e⟩ _ _ _ _ hp4 hm;refine af ?_;refine xo rfl (aF rfl hcall) ?_;rintro r9 g9 ⟨y9,hp9,t9,hn9,ht9⟩;have k9:=hkr.ext y9 (show ¬h.size=pb by omega);obtain⟨nk,nt,na,nn,nc,rfl,_⟩:=hn9.get;refine aN rfl (aV rfl rfl k9) ?_;rintro _ g10 ⟨rfl,k10,x10,z10⟩;refine af ?_;refine cn (cg rfl k10.row cm) ?_;exact⟨_,rfl,dX.ret ⟨y9,hp9,t9,hn9,ht9⟩ hp x04 x10 (Nat.le_refl _) hkr.lt⟩
               · rw[if_neg cb] at hm;refine bl ?_;refine gG [(110,.bool (decide (u.1=7/\u.2.1=[40])))] rfl ?_ ?_
                 · refine af ?_;refine xp rfl (aA rfl (hku.cell (i:=0) rfl)) ?_;refine af ?_;refine dV 114 (fun g4=>?_) (fun g4=>?_)
                   · have g4:=of_decide_eq_true g4;refine af ?_;refine xp rfl (aA rfl (hku.cell (i:=1) rfl)) ?_;refine af ?_;exact aH rfl ⟨av rfl (by rw[Bool.eq_iff_iff,decide_eq_true_iff,decide_eq_true_iff];exact⟨fun q=>⟨g4,bu q⟩,fun q=>congrArg bs q.2⟩),sb rfl⟩
                   · have g4:=of_decide_eq_false g4;refine af ?_;exact aH rfl ⟨av rfl (by rw[decide_eq_false (fun q=>g4 q.1)]),sb rfl⟩
                 · refine aX (fun cp=>?_) (fun cp=>?_)
                   · rw[if_pos cp] at hm;obtain⟨v,s1,hv,hm⟩:=ay hm;obtain⟨rfl,rfl⟩:v=t/\ck e 8 [41] s1=s':=by cases hm;exact⟨rfl,rfl⟩
                     refine af ?_;refine xp rfl (aA rfl (hk4.cell (i:=1) rfl)) ?_;refine af ?_;refine aN rfl (mG rfl rfl hk4) ?_;rintro _ h5 ⟨rfl,k5,x5,z5⟩;have hp5:rG ⟨pb,_,n0,us,e⟩ h5 (.ok r):=⟨i+1,false,m,k5,(hls4.mv (Mv.cu x5 fun b _ ho=>⟨fun q=>ho (.inl q),ho⟩)).shut,hil,⟨rfl,hr'⟩,hpn,by have:=x5.size;dsimp only;omega⟩
                     have hcall:=(ih n (Nat.le_refl _)).expr ⟨pb,_,n0,us,e⟩ _ _ _ _ hp5 hv;refine af ?_;refine xo rfl (aF rfl hcall) ?_;rintro r6 h6 ⟨y6,hp6,t6,hn6,ht6⟩;obtain⟨nk,nt,na,nn,nc,rfl,hr6⟩:=hn6.get;have z6:=y6.size;have z4':=x04.size;refine xo rfl (cH) ?_;rintro _ h7 ⟨rfl,k7,e7,z7⟩;refine aN rfl (aV rfl rfl k7 kW) ?_;rintro _ h8 ⟨rfl,k8,x8,z8⟩;have x68:Ext (fun b=>b=h6.size) h6 h8:=e7.of.trans x8;have hp8:=hp6.ext x68 (fun b (hb:b<n0) q=>by omega);have hmust:=gH hp8 8 [41];dsimp only at hmust;refine af ?_;refine xo rfl (aF rfl hmust) ?_;rintro _ h9 ⟨hp9,x9⟩;have y6':Ext (fun b=>b=pb) h5 h6:=y6;refine af ?_;refine xp rfl (b7 rfl (k8.ext x9 (show ¬h6.size=pb by omega)).row) ?_;refine aN rfl (aV rfl rfl (((((hkr.ext x5 (show ¬h.size=pb by omega)).ext y6' (show ¬h.size=pb by omega)).ext x68 (show ¬h.size=h6.size by omega)).ext x9 (show ¬h.size=pb by omega))) kW) ?_;rintro _ hz ⟨rfl,kz,xz,zz⟩;refine af ?_;refine cn (cg rfl kz.row cm) ?_;have x09:Ext (fun b=>b=pb) h h9:=(((x04.trans x5).trans y6').bH x68 (fun i hi q=>by omega)).trans x9;exact⟨_,rfl,bC hp x09 hp9 (eK.of (bM (bM (O':=fun b=>b<=h.size) hr6 x68 (fun b hb q=>⟨fun q2=>by omega,fun q2=>q (by omega)⟩)) x9 (fun b hb q=>⟨fun q2=>q (by omega),q⟩))) (fun q=>by rw[ht6 (cJ q)]) xz⟩
                   · rw[if_neg cp] at hm;obtain⟨rfl,rfl⟩:Es=t/\cB e (.ok (u::r))=s':=by cases hm;exact⟨rfl,rfl⟩
                     have hf:=eE hp4;dsimp only at hf;refine af ?_;refine xo rfl (aF rfl hf) ?_;rintro _ h5 ⟨rfl,hp5,x5⟩;refine aN rfl (aV rfl rfl ((hkr.ext x5 (show ¬h.size=pb by omega)))) ?_;rintro _ h6 ⟨rfl,k6,x6,z6⟩;refine af ?_;refine cn (cg rfl k6.row cm) ?_;exact⟨_,rfl,bC hp (x04.trans x5) hp5 (vu _ _) (fun _=>rfl) x6⟩
theorem HQ:Bi 0:=by
 have z:∀f ex j,Ct f ex j 0:=fun f ex j c h s t s' hp hm=>by cases hm
 exact⟨z _ _ _,z _ _ _,fun _=>z _ _ _,z _ _ _,z _ _ _,z _ _ _,z _ _ _,z _ _ _,z _ _ _,z _ _ _,z _ _ _,z _ _ _,z _ _ _,z _ _ _,z _ _ _⟩
theorem JT:∀n,Bi n:=by
 intro n
 induction n using Nat.strongRecOn with
 |_ n ih =>
  cases n with
  |zero=>exact HQ
  |succ n =>
   have ih:∀m,m<=n->Bi m:=fun m hm=>ih m (Nat.lt_succ_of_le hm)
   exact⟨Bk ih,Bl ih,C5 ih,xU ih,C6 ih,zH ih,Fp ih,C7 ih,C4 ih,uF ih,C1 ih,Bj ih,zE ih,Bm ih,Bn ih⟩
def oK (m:Int):bF:=match mz (iw m) with|.inr d=>d|.inl _=>⟨[],[]⟩
theorem vI (m:Nat) (hm:m<3):∃ss st,eZ (iw m)= .inr (ss,st)/\mz (iw m)= .inr (oK m)/\gF ss st= .inr (oK m)/\(∀l,eW m l=cZ ss st l)/\∀l,(aJ (oK m) l 0 0 (0,-1)).2.2<=(eW m l).1+2:=by
 have key:∀{ss:List aY}{st:Nat},eZ (iw m)= .inr (ss,st)->(∀l,eW m l=cZ ss st l)->(∃d,gF ss st= .inr d/\(∀l,(aJ d l 0 0 (0,-1)).2.2<=(cZ ss st l).1+2)/\∀l x:By,(cZ ss st l).1+2<l.length->cZ ss st (l++x)=cZ ss st l)->∃ss st,eZ (iw m)= .inr (ss,st)/\mz (iw m)= .inr (oK m)/\gF ss st= .inr (oK m)/\(∀l,eW m l=cZ ss st l)/\∀l,(aJ (oK m) l 0 0 (0,-1)).2.2<=(eW m l).1+2:=by
  intro ss st h1 h2 ⟨d,h3,h4,_⟩;have h5:mz (iw m)= .inr d:=by unfold mz;rw[h1];exact h3
  have h6:oK m=d:=by unfold oK;rw[h5]
  rw[h6];exact⟨ss,st,h1,h5,h3,h2,fun l=>by rw[h2];exact h4 l⟩
 match m,hm with
 | 0,_=>exact key PF (fun l=>rfl) (rY PF N0 N3 NX AL.1)
 | 1,_=>exact key J7 (fun l=>rfl) (rY J7 NZ N2 NW AL.2.1)
 | 2,_=>exact key PE (fun l=>rfl) (rY PE NY N1 NV AL.2.2)
def OU:gN bF:=⟨1,by decide,fun h O cs d=>∃db,cs=[.pointer (some ⟨db,0,none⟩)]/\nU h O db d,fun h=>by obtain⟨db,rfl,_⟩:=h;rfl,fun h=>by
 obtain⟨db,rfl,_⟩:=h;intro u hu;simp at hu;subst hu;rfl,fun h m=>by
 obtain⟨db,hc,hv⟩:=h;exact⟨db,hc,hv.mv m⟩⟩
def vJ (k:Nat):List bF:=([0,1,2].take k).map fun m:Int=>l7 (oK m)
theorem DF (k:Nat) (hk:k<3):vJ (k+1)=vJ k++[l7 (oK k)]/\(vJ k).length=k:=by
 match k,hk with
 | 0,_=>exact⟨rfl,rfl⟩
 | 1,_=>exact⟨rfl,rfl⟩
 | 2,_=>exact⟨rfl,rfl⟩
def pH (h:ai) (p:Value):Prop:=∃lb vm,p= .pointer (some ⟨lb,0,none⟩)/\aD h lb 81 [vm]/\aZ OU h (fun _=>False) vm (vJ 3)
theorem pH.ah {h h':ai}{p:Value}(k:pH h p) (e:aj h h'):pH h' p:=by
 obtain⟨lb,vm,h1,h2,h3⟩:=k;exact⟨lb,vm,h1,h2.ah e,h3.mv (Mv.ah e)⟩
theorem yO {lim:Nat}(hg:Sg h lim) (hlim:lim<=h.size) (htens:sL h) (hR:mF h) :
 au Tryz.prog 12 #[] h (bL fun r h'=>pH h' r/\aj h h'):=by
 refine b9 ?_;refine af ?_;refine xp rfl (aq (H.N8 ) rfl) ?_;refine xo rfl (kH) ?_;rintro _ h1 ⟨rfl,k1,e1,z1⟩;have k1:aD h1 h.size 81 [.slice none 0 0]:=k1;refine af ?_;refine jd (σ:=Nat×Value) (fun q=>[(2,.int .i64 (q.1:Nat))]) (fun q h'=>q.1<=3/\aj h h'/\aD h' h.size 81 [q.2]/\cF OU (fun b=>b=h.size) h' h1.size 87 q.2 (vJ q.1)/\h1.size<=h'.size) (fun q=>3-q.1) ((0,.slice none 0 0)) ⟨by decide,e1,k1,cF.nil _ _ _ _ _,Nat.le_refl _⟩ rfl ?_;rintro⟨m,vm⟩ g ⟨hm,eg,kb,hx,hz⟩ ih
 try dsimp only
 dsimp only at hm kb hx;refine af ?_;refine aX (fun hlt=>?_) (fun hlt=>?_)
 · have hm3:m<3:=by omega
   obtain⟨ss,st,hmk,hdm,hdk,_⟩:=vI m hm3;obtain⟨hnext,hlen⟩:=DF m hm3;have hok:=oA hdm;have hM:=gy hmk;have hb:=Ce hM
   have hrl:∀s∈iw m,s.length<=1000000:=by
    have:m=0\/m=1\/m=2:=by omega
    rcases this with rfl|rfl|rfl
    · exact of_decide_eq_true rfl
    · exact of_decide_eq_true rfl
    · exact of_decide_eq_true rfl
   refine af ?_;refine xo rfl (aF rfl (FM (hR.ah eg) m hm3)) ?_;rintro _ g1 ⟨hr1,f1⟩;have eg1:=eg.trans f1;refine xo rfl (aF rfl (F8 (hg.ext eg1 (fun _ k=>k.elim)) (by have:=eg1.size;omega) hr1 hrl)) ?_;rintro _ g2 ⟨⟨p,rfl,hp⟩,f2⟩
   have hp:∃(O:Nat->Prop) (nb:Nat) (v:Value),p= .pointer (some ⟨nb,0,none⟩)/\bP g2 O nb v ss st:=by
    rcases hp with ⟨e,he,_⟩|⟨O,nb,v,ss',st',hp,hn,hm'⟩
    · rw[hmk] at he;cases he
    · rw[hmk] at hm';cases hm';exact⟨O,nb,v,hp,hn⟩
   obtain⟨O,nb,v,rfl,hn⟩:=hp;have eg2:=eg1.trans f2;refine af ?_;refine xo rfl (aF rfl (CC (htens.ah eg2) hn hM.good hM.len hM.stl hb.2.1 hb.2.2)) ?_;rintro r3 g3 ⟨hr3,f3⟩;unfold A6 at hr3;rw[hdk] at hr3;obtain⟨db,rfl,hk⟩:=hr3;have eg3:=eg2.trans f3;have f03:=(f1.trans f2).trans f3;have zz:=f03.size;have kb3:=kb.ah f03;have hx3:=hx.ah f03;obtain⟨css3,_,hw3,_⟩:=id hx3;have vge:∀b,vm.ownBlock=some b->h1.size<=b/\b<g3.size:=fun b hb=>hw3.lt hb
   have hkM:¬(cx vm.ownBlock h.size\/Array.size g3<=h.size):=by
    rintro(k|k)
    · have:=(vge _ k.symm).1;omega
    · omega
   refine af ?_;refine lO 12 (fun b=>cx vm.ownBlock b\/Array.size g3<=b) (fun i=>Nat.blt i 11) ?_;refine aG 0 ?_;refine aG 1 ?_;refine aG 2 ?_;refine aG 3 ?_;refine bJ 4 rfl (fun h' e=>aA rfl (e.cell hkM (kb3.cell (i:=0) rfl))) ?_;refine aG 5 ?_;refine dR 6 rfl (aF rfl (Jc (htens.ah eg3) hk hok.1 hok.2)) ?_;rintro r4 g4 ⟨⟨b4,rfl,hk4⟩,f4⟩;refine⟨fun _=>f4.mono (fun _ _ k=>k.elim),?_⟩;have hx4:=hx3.ah f4;have kb4:=kb3.ah f4;have z4:=f4.size;obtain⟨css,hc1,hc2,hc3⟩:=id hx4;rw[hlen] at hc2;refine dR 7 rfl (jb [_]) ?_;rintro _ _ ⟨rfl,rfl⟩;refine⟨fun _=>by first|exact Ext.push _ _ _|assumption,?_⟩;refine dR 8 rfl (xO rfl rfl hc2 rfl rfl) ?_;rintro v5 g5 ⟨ho5,hx5,hx5',hv5⟩;refine⟨fun _=>hx5'.mono (fun _ _ k=>.inl k),?_⟩
   have hnew:nU g4 (fun b=>cx vm.ownBlock b\/b=h.size) b4 (l7 (oK m)):=hk4.mv ⟨Nat.le_refl _,fun b _ hn=>⟨rfl,fun k=>hn (by
    rcases k with k|k
    · exact(vge _ k.symm).2
    · omega)⟩⟩
   have hx5w:=cF.fq (e:=OU) (h:=g4) (v:=vm) (css:=css) (cs:=[.pointer (some ⟨b4,0,none⟩)]) (y:=l7 (oK m)) (O:=fun b=>b=h.size) hc1 hc3 (by rw[hlen];exact ho5) hx5 hv5 ⟨b4,rfl,hnew⟩;obtain⟨va5,vc5,rfl,_⟩:=ho5.open;have z5:=hx5.size;have kb5:=kb4.ext hx5 (fun k=>by have:=(vge _ k.symm).1;omega);have v5ge:∀b,(Value.slice va5 (m+1) vc5).ownBlock=some b->h1.size<=b:=fun b hb=>(ho5.lt hb).1
   refine K3 9 ?_;refine aG 10 ?_;refine jZ 11 rfl (mG rfl rfl kb5) ?_;rintro _ g6 ⟨rfl,kb6,x6,z6⟩;refine⟨nofun,?_⟩;have kb6:aD g6 h.size 81 [.slice va5 (m+1) vc5]:=by simpa using kb6
   have hx6:=hx5w.rL (O':=fun b=>b=h.size) x6 (fun b hb k=>by have:=v5ge b hb;omega) (fun b _ k=>k) (fun b _ k=>k)
   have eg6:aj h g6:=⟨by have:=x6.size;omega,fun b hb _=>by
    rw[x6.block b (by omega) (by omega),hx5.block b (by omega) (fun k=>by have:=(vge _ k.symm).1;omega),f4.block b (by omega) (fun k=>k)];exact eg3.block b hb (fun k=>k)⟩
   refine iO ?_;refine af ?_;exact ih (m+1,_) ⟨by show m+1<=3;omega,eg6,kb6,by show cF OU _ g6 h1.size _ _ (vJ (m+1));rw[hnext];exact hx6,by have:=x6.size;omega⟩
 · obtain rfl:m=3:=by omega
   refine af ?_;refine bw ?_;exact⟨_,rfl,⟨h.size,vm,rfl,kb,hx.EL (fun b hb k=>k) (fun b _ k=>k.elim)⟩,eg⟩
end
end Go.Proofs.YtdgckfkoihcmjaaGreatDoor

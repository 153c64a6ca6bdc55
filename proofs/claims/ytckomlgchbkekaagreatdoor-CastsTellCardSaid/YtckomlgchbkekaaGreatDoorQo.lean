/- What the proof of the statement leans on (part 15). -/
import Derived.Recover
import Derived.Test.YtckomlgchbkekaaGreatDoorQn

namespace Go.Lw
open Go.RowKit
section
variable {D:List Deferred}{n d:Nat}{ρ:Env}{a:Act}{P:Program}{o:Oper}{Φ:Value->ai->Prop}{w:World}{v:Value}{g:FuncId}{fn:Func}
structure iN (D:List Deferred) (n:Nat) (ρ:Env) (a:Act):Prop where
 size:a.tmps.size=n
 ok:∀i v,ρ.at i=some v->a.tmps[i]? =some v
 nd:a.defers=D
theorem iN.zero (f:iN D n ρ a):Fits n ρ { a with defers:=[] }:=⟨f.size,f.ok,rfl⟩
theorem iN.put {D:List Deferred}{n:Nat}{ρ:Env}{a:Act}(f:iN D n ρ a){dst:Option Nat}(hd:iG n dst=true) (v:Value):iN D n (ρ.put dst v) (a.put dst v):=by
 have h:=f.zero.put hd v;cases dst with
 |none=>exact⟨h.size,h.ok,f.nd⟩
 |some d=>exact⟨h.size,h.ok,f.nd⟩
theorem iN.sub {ρ':Env}(f:iN D n ρ a) (h:Sub ρ' ρ):iN D n ρ' a:=⟨f.size,fun i v hi=>f.ok i v (h.at i v hi),f.nd⟩
theorem aH.Qn {h:ai}{X:List PanicEntry->ai->Prop}(k:aH P o ρ h Φ X){B:World}(hf:iN D n ρ a) (ha:At B h w)
 {next:Act->World->Prop}{Q:Exit->Act->World->Prop}(hn:∀v h' w',At B h' w'->Φ v h'->next (a.put o.dst v) w') (hx:∀ch h' w',At B h' w'->X ch h'->Q (.panic ch) a w'):o.wp P a w next Q:=by
 have hput:∀v,({ (({ a with defers:=[] }:Act).put o.dst v) with defers:=a.defers }:Act)=a.put o.dst v:=fun v=>by cases hd:o.dst<;>simp[Act.put]
 have hput0:∀v,(({ a with defers:=[] }:Act).put o.dst v).defers=[]:=fun v=>by cases hd:o.dst<;>simp[Act.put]
 have h0:=k n B { a with defers:=[] } w hf.zero ha (fun a' w'=>a'.defers=[]/\next { a' with defers:=a.defers } w')
  (fun e a' w'=>match e with|.panic ch=>Q (.panic ch) { a' with defers:=a.defers } w'|_=>False)
  (fun v h' w' ha' hv=>⟨hput0 v,by rw[hput v];exact hn v h' w' ha' hv⟩) (fun ch h' w' ha' hv=>hx ch h' w' ha' hv)
 unfold Oper.wp at *;have he:execOp ({ a with defers:=[] }:Act).eval o=execOp a.eval o:=rfl;rw[he] at h0;generalize (execOp a.eval o).run P w=r at *;cases r with
 |ok x w' =>
  cases x<;>simp only[Oper.upon] at h0 ⊢
  case value v=>have:=h0.2;rwa [hput v] at this
  case skip=>have:=h0.2;rwa [hput undef] at this
  case defer d=>have:=h0.1;cases hd:o.dst<;>simp[Act.put,hd] at this
  case enter g args =>
   refine h0.mono fun e w'' hr=>?_
   cases e with
   |returned v=>have:=hr.2;rwa [hput v] at this
   |panicked c=>exact hr
   |outgrown=>obtain⟨a₁,w₁,h3⟩:=hr;exact h3.elim
  case row row args=>exact h0.mono fun v w'' hr=>by have:=hr.2;rwa [hput v] at this
 |halt x w'=>cases x<;>simp only[Oper.upon] at h0 ⊢;exact h0
def fE (P:Program) (D:List Deferred) (n:Nat) (ops:Array Oper) (i:Nat) (ρ:Env) (h:ai) (N:Env->ai->Prop) (X:List PanicEntry->Env->ai->Prop):Prop :=
 ∀B a w,iN D n ρ a->At B h w->∀Q:Exit->Act->World->Prop,(∀ρ' h' a' w',iN D n ρ' a'->At B h' w'->N ρ' h'->Q .normal a' w') ->
  (∀ch ρ' h' a' w',iN D n ρ' a'->At B h' w'->X ch ρ' h'->Q (.panic ch) a' w')->wpOps P ops Q ((List.range ops.size).drop i) a w
section
variable {P:Program}{D:List Deferred}{n:Nat}{ops:Array Oper}{i:Nat}{ρ:Env}{h:ai}{N:Env->ai->Prop}{X:List PanicEntry->Env->ai->Prop}
theorem fE.op (ho':nth ops.toList i=some o) (hg:o.guard=none){od:Option Nat}(hod:o.dst=od) (hd:iG n od=true) (k:aH P o ρ h Φ (fun ch h'=>X ch ρ h'))
 (next:∀v h',Φ v h'->fE P D n ops (i+1) (ρ.put od v) h' N X):fE P D n ops i ρ h N X:=by
 subst hod;have ho:=dV ho';intro B a w hf ha Q hN hX;rw[fh (gj ho)];simp only[wpOps,ho];have hw:Region.wanted o (yielded ops a.tmps)=true:=by unfold Region.wanted;rw[hg]
 rw[hw,if_pos rfl];refine .inl (k.Qn hf ha (fun v h' w' ha' hv=>?_) (fun ch h' w' ha' hx=>hX ch ρ h' a w' hf ha' hx));exact next v h' hv B _ w' (hf.put hd v) ha' Q hN hX
theorem fE.r9 (ho:nth ops.toList i=some o) (hg:o.guard=none) (hod:o.dst=some d) (hd:Nat.blt d n=true) (k:aH P o ρ h Φ (fun ch h'=>X ch ρ h'))
 (next:∀v h',Φ v h'->fE P D n ops (i+1) ((d,v)::ρ) h' N X):fE P D n ops i ρ h N X:=fE.op ho hg hod hd k next
theorem fE.mL (ho:nth ops.toList i=some o) (hg:o.guard=none) (hod:o.dst=none) (k:aH P o ρ h Φ (fun ch h'=>X ch ρ h'))
 (next:∀v h',Φ v h'->fE P D n ops (i+1) ρ h' N X):fE P D n ops i ρ h N X:=fE.op ho hg hod rfl k next
theorem fE.aB (ho:nth ops.toList i=some o) (hg:o.guard=none) (hod:o.dst=some d) (hd:Nat.blt d n=true) (k:an P o ρ h v)
 (next:fE P D n ops (i+1) ((d,v)::ρ) h N X):fE P D n ops i ρ h N X:=fE.r9 ho hg hod hd k.jF (fun _ _ ⟨hv,hh⟩=>by subst hv;subst hh;exact next)
theorem eD (hi:Nat.ble ops.size i=true) (next:N ρ h):fE P D n ops i ρ h N X:=by
 intro B a w hf ha Q hN _;have:ops.size<=i:=Nat.le_of_ble_eq_true hi;rw[List.drop_eq_nil_of_le (by simpa using this)];exact hN ρ h a w hf ha next
end
def GD (P:Program) (D:List Deferred) (f:FuncId) (fn:Func) (k:List It) (ρ:Env) (h:ai) (R:Ending->ai->Prop):Prop :=
 ∀B a w,iN D fn.ntmps ρ a->At B h w->∀b:Frame,b.fn=f->b.kind= .normal->∀cs,∃e w' fr h',At B h' w'/\R e h' /\
  Comes P (lone (b.at a (k.map (aF (aq fn)))) cs w) (lone fr cs w') e/\fr.fn=f/\fr.leaving P w' e
def mm (P:Program) (fn:Func) (D:List Deferred) (u:FrameMode) (ρ:Env) (h:ai) (R:Ending->ai->Prop):Prop :=
 ∀B a w,iN D fn.ntmps ρ a->At B h w->Leaves P fn a.tmps (lift B R) D u w
section
variable {P:Program}{D:List Deferred}{f:FuncId}{fn:Func}{k:List It}{ρ:Env}{h:ai}{R:Ending->ai->Prop}{p:List Nat}
theorem zw {k':List It}(hs:∀(b:Frame) (a:Act) cs w,Go.step P (lone (b.at a (k.map (aF (aq fn)))) cs w)= .next (lone (b.at a (k'.map (aF (aq fn)))) cs w))
 (next:GD P D f fn k' ρ h R):GD P D f fn k ρ h R:=by
 intro B a w hf ha b hb hk cs;obtain⟨e,w',fr,h',h1,h2,h3,h4,h5⟩:=next B a w hf ha b hb hk cs
 exact⟨e,w',fr,h',h1,h2,.of_steps (.one (hs b a cs w)) h3,h4,h5⟩
theorem Eh (hk:kind (sub (aq fn) p)=0) (next:GD P D f fn k ρ h R):GD P D f fn (.code p::k) ρ h R:=by
 refine zw (fun b a cs w=>?_) next
 simp only[List.map_cons,aF];cases hc:sub (aq fn) p<;>simp[hc,kind] at hk
 · exact step_skip
 · rename_i d;cases d<;>simp at hk
theorem GD.seq (hk:kind (sub (aq fn) p)=1) (next:GD P D f fn (.code (0::p):: .code (1::p)::k) ρ h R):GD P D f fn (.code p::k) ρ h R:=by
 refine zw (fun b a cs w=>?_) next
 simp only[List.map_cons,aF,sub];cases hc:sub (aq fn) p<;>simp[hc,kind] at hk
 · rename_i d;cases d<;>simp at hk
 · exact step_seq
theorem GD.sub {ρ':Env}(hs:Sub ρ' ρ) (next:GD P D f fn k ρ' h R):GD P D f fn k ρ h R :=
 fun B a w hf ha=>next B a w (hf.sub hs) ha
theorem Jz {t:Bool}(hk:kind (Lw.sub (aq fn) p)=7) (hc:aT ρ (j8 (Lw.sub (aq fn) p))=some (.bool t))
 (ht:t=true->GD P D f fn (.code (0::p)::k) ρ h R) (hn:t=false->GD P D f fn (.code (1::p)::k) ρ h R):GD P D f fn (.code p::k) ρ h R:=by
 intro B a w hf ha b hb hkk cs
 have hstep:Go.step P (lone (b.at a ((It.code p::k).map (aF (aq fn)))) cs w)= .next (lone (b.at a ((It.code ((if t then 0 else 1)::p)::k).map (aF (aq fn)))) cs w):=by
  simp only[List.map_cons,aF,Lw.sub];cases hcc:Lw.sub (aq fn) p<;>simp[hcc,kind] at hk
  · rename_i d;cases d<;>simp at hk
  · rw[hcc] at hc;refine(step_cond (P:=P) (b:=b) (a:=a) (k:=k.map (aF (aq fn))) (cs:=cs) (w:=w) (hf.zero.eval hc)).trans ?_;cases t<;>rfl
 cases t with
 |true =>
  obtain⟨e,w',fr,h',h1,h2,h3,h4,h5⟩:=ht rfl B a w hf ha b hb hkk cs;exact⟨e,w',fr,h',h1,h2,.of_steps (.one hstep) h3,h4,h5⟩
 |false =>
  obtain⟨e,w',fr,h',h1,h2,h3,h4,h5⟩:=hn rfl B a w hf ha b hb hkk cs;exact⟨e,w',fr,h',h1,h2,.of_steps (.one hstep) h3,h4,h5⟩
theorem Ia {φ:Prop}[Decidable φ] (hk:kind (Lw.sub (aq fn) p)=7) (hc:aT ρ (j8 (Lw.sub (aq fn) p))=some (.bool (decide φ)))
 (ht:φ->GD P D f fn (.code (0::p)::k) ρ h R) (hn:¬φ->GD P D f fn (.code (1::p)::k) ρ h R):GD P D f fn (.code p::k) ρ h R :=
 Jz hk hc (fun e=>ht (of_decide_eq_true e)) (fun e=>hn (of_decide_eq_false e))
theorem sH {u:FrameMode}{B:World}(hfn:P.funcs[f]? =some fn) (hf:iN D fn.ntmps ρ a) (ha:At B h w) (hL:mm P fn D u ρ h R) (b:Frame) (hb:b.fn=f) (hk:b.kind= .normal) (cs:List Frame) (todo:List Item) :
 ∃e w' fr h',At B h' w'/\R e h'/\Comes P (lone { b.at a todo with mode:=u } cs w) (lone fr cs w') e/\fr.fn=f/\fr.leaving P w' e:=by
 obtain⟨e,w',fr,⟨h',h1,h2⟩,h3,h4,h5⟩:=leaves_steps (P:=P) (fn:=fn) (tmps:=a.tmps) (R:=lift B R) D u w { b.at a todo with mode:=u } cs rfl hf.nd rfl (by rw[show ({ b.at a todo with mode:=u }:Frame).fn=f from hb];exact hfn) hk (hL B a w hf ha);exact⟨e,w',fr,h',h1,h2,h3,h4.trans hb,h5⟩
theorem GD.eE (hfn:P.funcs[f]? =some fn) (hk:kind (Lw.sub (aq fn) p)=5)
 (next:fE P D fn.ntmps (opsOf (Lw.sub (aq fn) p)) 0 ρ h (fun ρ' h'=>GD P D f fn k ρ' h' R) (fun ch ρ' h'=>mm P fn D (.panicking ch) ρ' h' R)):GD P D f fn (.code p::k) ρ h R:=by
 intro B a w hf ha b hb hkk cs;cases hc:Lw.sub (aq fn) p<;>simp[hc,kind] at hk;rename_i id ops d;cases d<;>simp at hk;rw[hc] at next
 let Q:Exit->Act->World->Prop:=fun e a' w'=>match e with
  |.normal=>∃ρ' h',iN D fn.ntmps ρ' a'/\At B h' w'/\GD P D f fn k ρ' h' R
  |.panic ch=>∃ρ' h',iN D fn.ntmps ρ' a'/\At B h' w'/\mm P fn D (.panicking ch) ρ' h' R
  |_=>False
 have hw:(Code.region id ops false).wp P Q a w:=wp_region (by
  have:=next B a w hf ha Q (fun ρ' h' a' w' f' a'' hn=>⟨ρ',h',f',a'',hn⟩) (fun ch ρ' h' a' w' f' a'' hx=>⟨ρ',h',f',a'',hx⟩)
  simpa [opsOf] using this)
 obtain⟨e,a',w',hq,harr⟩:=hw b (k.map (aF (aq fn))) cs;have hit:(It.code p::k).map (aF (aq fn))=Item.code (Code.region id ops false)::k.map (aF (aq fn)):=by simp[aF,hc]
 rw[hit];cases e with
 |normal =>
  obtain⟨ρ',h',f',a'',hg⟩:=hq;obtain⟨e,w'',fr,h'',h1,h2,h3,h4,h5⟩:=hg B a' w' f' a'' b hb hkk cs;exact⟨e,w'',fr,h'',h1,h2,.of_steps harr h3,h4,h5⟩
 |panic ch =>
  obtain⟨ρ',h',f',a'',hl⟩:=hq;obtain⟨todo,hs⟩:=harr;obtain⟨e,w'',fr,h'',h1,h2,h3,h4,h5⟩:=sH hfn f' a'' hl b hb hkk cs todo
  exact⟨e,w'',fr,h'',h1,h2,.of_steps hs h3,h4,h5⟩
 |exit id=>exact hq.elim
 |goto l=>exact hq.elim
 |ret=>exact hq.elim
 |outgrown=>exact hq.elim
theorem GD.ret (hfn:P.funcs[f]? =some fn) (hk:kind (Lw.sub (aq fn) p)=4) (hL:mm P fn D .returning ρ h R):GD P D f fn (.code p::k) ρ h R:=by
 intro B a w hf ha b hb hkk cs
 have hstep:Go.step P (lone (b.at a ((It.code p::k).map (aF (aq fn)))) cs w)= .next (lone { b.at a ((It.code p::k).map (aF (aq fn))) with mode:=.returning } cs w):=by
  simp only[List.map_cons,aF];cases hc:Lw.sub (aq fn) p<;>simp[hc,kind] at hk
  · rename_i d;cases d<;>simp at hk
  · exact step_ret
 obtain⟨e,w'',fr,h'',h1,h2,h3,h4,h5⟩:=sH hfn hf ha hL b hb hkk cs ((It.code p::k).map (aF (aq fn)));exact⟨e,w'',fr,h'',h1,h2,.of_steps (.one hstep) h3,h4,h5⟩
theorem G.Lf {o1 o2:Oper}{caps:List Value}{xs:Array Operand}(_hfn:P.funcs[f]? =some fn) (hk:kind (Lw.sub (aq fn) p)=5) (hops:opsOf (Lw.sub (aq fn) p)= #[o1,o2])
 (h1:o1.op= .makeFunc (.func g) #[] xs) (hg1:o1.guard=none) (hd1:o1.dst=some d) (hdn:Nat.blt d fn.ntmps=true) (hx:xs.toList.map (aT ρ)=caps.map some)
 (hnd:ρ.at d=none) (h2:o2.op= .defer ⟨.value (.tmp d),#[],#[]⟩) (hg2:o2.guard=none) (hd2:o2.dst=none)
 (next:GD P [{ target:=.fn (.func g) caps.toArray,args:= #[] }] f fn k ρ h R):G P f fn (.code p::k) ρ h R:=by
 intro B a w hf ha b hb hkk cs;cases hc:Lw.sub (aq fn) p<;>simp[hc,kind] at hk;rename_i id ops dr;cases dr<;>simp at hk;rw[hc] at hops;have hops':ops= #[o1,o2]:=hops;subst hops'
 let D:List Deferred:=[{ target:=.fn (.func g) caps.toArray,args:= #[] }]
 let Q:Exit->Act->World->Prop:=fun e a' w'=>match e with
  |.normal=>iN D fn.ntmps ρ a'/\At B h w'
  |_=>False
 have hargs:xs.map a.eval=caps.toArray:=by
  apply Array.ext'
  simp only[Array.toList_map]
  have key:∀(l:List Operand) (us:List Value),l.map (aT ρ)=us.map some->l.map a.eval=us:=by
   intro l
   induction l with
   |nil=>intro us hu;cases us<;>simp_all
   |cons x r ih =>
    intro us hu;cases us with
    |nil=>simp at hu
    |cons u us =>
     simp only[List.map_cons,List.cons.injEq] at hu ⊢;exact⟨hf.eval hu.1,ih us hu.2⟩
  exact key _ _ hx
 have hlt:d<a.tmps.size:=by rw[hf.size];exact Nat.blt_eq.mp hdn
 have hget:∀v,(a.tmps.setIfInBounds d v).getD d undef=v:=fun v=>by
  rw[Array.getD_eq_getD_getElem?,Array.getElem?_setIfInBounds_self_of_lt hlt];rfl
 have hw:(Code.region id #[o1,o2] false).wp P Q a w:=wp_region (by
  show wpOps P #[o1,o2] Q [0,1] a w
  simp only[wpOps,List.getElem?_toArray,List.getElem?_cons_zero,List.getElem?_cons_succ];rw[show Region.wanted o1 (yielded #[o1,o2] a.tmps)=true by unfold Region.wanted;rw[hg1],if_pos rfl];refine .inl ?_;unfold Oper.wp;rw[show (execOp a.eval o1).run P w= .ok (.value (.func (.func g) #[] caps.toArray)) w by simp[execOp,h1,Instr.makeFunc,hargs]];simp only[Oper.upon,hd1,Act.put];rw[show ∀t,Region.wanted o2 (yielded #[o1,o2] t)=true from fun t=>by unfold Region.wanted;rw[hg2],if_pos rfl];refine .inl ?_
  try unfold Oper.wp
  rw[show (execOp (Act.eval { a with tmps:=a.tmps.setIfInBounds d (.func (.func g) #[] caps.toArray) }) o2).run P w= .ok (.defer { target:=.fn (.func g) caps.toArray,args:= #[] }) w by
   simp[execOp,h2,resolve,Act.eval,hget,Deferred.ofValue]]
  simp only[hd2];have hput:=hf.put (dst:=some d) hdn (.func (.func g) #[] caps.toArray)
  exact⟨⟨hput.size,fun i v hi=>by
   by_cases e:d=i
   · subst e;rw[hnd] at hi;cases hi
   · have:=hf.ok i v hi;rw[Array.getElem?_setIfInBounds_ne e];exact this,by rw[hf.nd]⟩,ha⟩)
 obtain⟨e,a',w',hq,harr⟩:=hw b (k.map (aF (aq fn))) cs;have hit:(It.code p::k).map (aF (aq fn))=Item.code (Code.region id #[o1,o2] false)::k.map (aF (aq fn)):=by simp[aF,hc]
 rw[hit];cases e with
 |normal =>
  obtain⟨f',a''⟩:=hq;obtain⟨e,w'',fr,h'',h1,h2,h3,h4,h5⟩:=next B a' w' f' a'' b hb hkk cs
  exact⟨e,w'',fr,h'',h1,h2,.of_steps harr h3,h4,h5⟩
 |panic ch=>exact hq.elim
 |exit id=>exact hq.elim
 |goto l=>exact hq.elim
 |ret=>exact hq.elim
 |outgrown=>exact hq.elim
end
theorem CI (vs:List Value) (hle:vs.length<=fn.ntmps):Fits fn.ntmps (kE 0 vs) { tmps:=vs.toArray++Array.replicate (fn.ntmps-vs.toArray.size) undef,defers:=[] }:=by
 refine⟨by simp;omega,fun i v hi=>?_,rfl⟩;obtain⟨_,h2⟩:=pG vs 0 i v hi
 have hlt:i<vs.length:=by
  rcases Nat.lt_or_ge i vs.length with hl|hl
  · exact hl
  · simp[List.getElem?_eq_none hl] at h2
 rw[Array.getElem?_append_left (by simpa using hlt)];simpa using h2
theorem lU {vs:List Value}{id:Nat}{o1 o2:Oper}{rest:Code}{u u':FrameMode}{d1 d2:Nat}{ts:Array TypeId}{R:Ending->FrameMode->World->Prop}
 (hfn:P.funcs[g]? =some fn) (hb:fn.body=some (.seq (.region id #[o1,o2] false) rest)) (hn:Nat.ble vs.length fn.ntmps=true)
 (h1:o1.op= .call ⟨.builtin .recover,#[],ts⟩) (hg1:o1.guard=none) (hd1:o1.dst=some d1) (hl1:Nat.blt d1 fn.ntmps=true)
 (h2:o2.op= .assign (.tmp d1)) (hg2:o2.guard=none) (hd2:o2.dst=some d2) (hl2:Nat.blt d2 fn.ntmps=true)
 (hrec:∀(c₀ : Frame) (cs:List Frame),c₀.mode=u->recoverD (c₀::cs)=some (v,{ c₀ with mode:=u' }::cs)\/(recoverD (c₀::cs)=none/\v= .nilIface/\u'=u))
 (hw:∀a,Fits fn.ntmps ((d2,v)::(d1,v)::kE 0 vs) a->rest.wp P (fun e a' w'=>match e with
  |.normal|.ret=>a'.defers=[]/\∃r,(results fn a'.tmps).run P w'= .ok r w'/\R (.returned r) u' w'
  |_=>False) a w):CallsD P g vs.toArray u w R:=by
 refine callsD_of_wpS hfn hb fun c₀ cs hu=>?_
 have hf0:=CI (fn:=fn) vs (Nat.le_of_ble_eq_true hn);generalize ({ tmps:=vs.toArray++Array.replicate (fn.ntmps-vs.toArray.size) undef,defers:=[] }:Act)=a0 at hf0;refine wpS_seq (wpS_region ?_)
 show wpOpsS P #[o1,o2] _ [0,1] a0 (c₀::cs) w
 simp only[wpOpsS,List.getElem?_toArray,List.getElem?_cons_zero,List.getElem?_cons_succ];rw[show Region.wanted o1 (yielded #[o1,o2] a0.tmps)=true by unfold Region.wanted;rw[hg1],if_pos rfl];rw[show (execOp a0.eval o1).run P w= .ok .recover w by simp[execOp,h1,resolve,invoke,builtin]];have hf1:=hf0.put (dst:=some d1) hl1 v;have hf2:=hf1.put (dst:=some d2) hl2 v;have hwf:=hw _ hf2
 have hrun:(execOp (a0.put (some d1) v).eval o2).run P w= .ok (.value v) w:=by
  have he:(a0.put (some d1) v).eval (.tmp d1)=v:=hf1.eval (x:=.tmp d1) (by simp[aT,Env.put,Env.dY]);simp[execOp,h2,he]
 have fin:∀(cs':List Frame),cs'= { c₀ with mode:=u' }::cs->rest.wpS P (bodyPostS P fn c₀ cs R) ((a0.put (some d1) v).put (some d2) v) cs' w:=by
  intro cs' hcs;refine wpS_of_wp ?_;intro b k cs2;obtain⟨e,a',w',hq,harr⟩:=hwf b k cs2;refine⟨e,a',w',?_,harr⟩;cases e with
  |normal=>obtain⟨q1,r,q2,q3⟩:=hq;exact⟨q1,u',hcs,r,q2,q3⟩
  |ret=>obtain⟨q1,r,q2,q3⟩:=hq;exact⟨q1,u',hcs,r,q2,q3⟩
  |panic ch=>exact hq.elim
  |exit id=>exact hq.elim
  |goto l=>exact hq.elim
  |outgrown=>exact hq.elim
 rcases hrec c₀ cs hu with hr|⟨hr,rfl,rfl⟩
 · simp only[hr,hd1];rw[show ∀t,Region.wanted o2 (yielded #[o1,o2] t)=true from fun t=>by unfold Region.wanted;rw[hg2],if_pos rfl];rw[hrun];simp only[Oper.upon,hd2];exact fin _ rfl
 · simp only[hr,hd1];rw[show ∀t,Region.wanted o2 (yielded #[o1,o2] t)=true from fun t=>by unfold Region.wanted;rw[hg2],if_pos rfl];rw[hrun];simp only[Oper.upon,hd2];refine fin _ ?_;cases c₀;simp only at hu;subst hu;rfl
theorem mI {caps:Array Value}(hfn:P.funcs[g]? =some fn) (hb:fn.body.isSome=true) (hnm:(fn.name == "runtime.NumGoroutine")=false):(invoke (.fn (.func g) caps) #[]).run P w= .ok (.enter g caps) w:=by
 have hb':fn.body≠none:=by intro hbb;simp[hbb] at hb
 have hnm':¬fn.name= "runtime.NumGoroutine" :=by simpa using hnm
 simp[invoke,callFunc,hfn,hnm',hb']
theorem an.uw {h:ai}{dst:Option Nat}{ty:TypeId}{pos:String}{after:Array Edge}{guard:Option (Nat×Bool)}{t xt:TypeId}{fs:Array Field}{x:Operand}(hu:P.underlying t=some (.struct fs)) (hx:aT ρ x=some (.iface t v)) :
 an P ⟨dst,.typeAssert x xt t false,ty,pos,after,guard⟩ ρ h v:=by
 intro n B a w hf ha;simp[execOp,Instr.typeAssert,run_underlying hu,hf.eval hx]
end
end Go.Lw

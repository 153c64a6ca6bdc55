/- Part 18. -/
import Derived.Recover
import Derived.Test.YtnjahnbpnpkmhaaGreatDoorQq

namespace Go.Lw
open Go.RowKit
section
variable {D:List Deferred}{n d:Nat}{ρ:Env}{a:Act}{P:Program}{o:Oper}{Φ:Value->aq->Prop}{w:World}{v:Value}{g:FuncId}{fn:Func}
structure n8 (D:List Deferred) (n:Nat) (ρ:Env) (a:Act):Prop where
 size:a.tmps.size=n
 ok:∀i v,ρ.at i=some v->a.tmps[i]? =some v
 nd:a.defers=D
theorem n8.zero (f:n8 D n ρ a):Fits n ρ { a with defers:=[] }:=⟨f.size,f.ok,rfl⟩
theorem n8.put {D:List Deferred}{n:Nat}{ρ:Env}{a:Act}(f:n8 D n ρ a){dst:Option Nat}(I:ou n dst=true) (v:Value):n8 D n (ρ.put dst v) (a.put dst v):=by
 have h:=f.zero.put I v;cases dst with
 |none=>exact⟨h.size,h.ok,f.nd⟩
 |some d=>exact⟨h.size,h.ok,f.nd⟩
theorem n8.sub {ρ':Env}(f:n8 D n ρ a) (h:Sub ρ' ρ):n8 D n ρ' a:=⟨f.size,λi v hi=>f.ok i v (h.at i v hi),f.nd⟩
theorem aV.Rg {h:aq}{X:List PanicEntry->aq->Prop}(k:aV P o ρ h Φ X){B:World}(hf:n8 D n ρ a) (ha:At B h w)
 {next:Act->World->Prop}{Q:Exit->Act->World->Prop}(hn:∀v h' w',At B h' w'->Φ v h'->next (a.put o.dst v) w') (hx:∀ch h' w',At B h' w'->X ch h'->Q (.panic ch) a w'):o.wp P a w next Q:=by
 have hput:∀v,({ (({ a with defers:=[] }:Act).put o.dst v) with defers:=a.defers }:Act)=a.put o.dst v:=λv=>by cases hd:o.dst<;>simp[Act.put]
 have hput0:∀v,(({ a with defers:=[] }:Act).put o.dst v).defers=[]:=λv=>by cases hd:o.dst<;>simp[Act.put]
 have h0:=k n B { a with defers:=[] } w hf.zero ha (λa' w'=>a'.defers=[]/\next { a' with defers:=a.defers } w')
  (λe a' w'=>match e with|.panic ch=>Q (.panic ch) { a' with defers:=a.defers } w'|_=>False)
  (λv h' w' ha' hv=>⟨hput0 v,by rw[hput v];exact hn v h' w' ha' hv⟩) (λch h' w' ha' hv=>hx ch h' w' ha' hv)
 unfold Oper.wp at *;have he:execOp ({ a with defers:=[] }:Act).eval o=execOp a.eval o:=rfl;rw[he] at h0;generalize (execOp a.eval o).run P w=r at *;cases r with
 |ok x w' =>
  cases x<;>simp only[Oper.upon] at h0 ⊢
  case value v=>have:=h0.2;rwa [hput v] at this
  case skip=>have:=h0.2;rwa [hput undef] at this
  case defer d=>have:=h0.1;cases hd:o.dst<;>simp[Act.put,hd] at this
  case enter g args =>
   refine h0.mono λe w'' hr=>?_
   cases e with
   |returned v=>have:=hr.2;rwa [hput v] at this
   |panicked c=>exact hr
   |outgrown=>obtain⟨a₁,w₁,h3⟩:=hr;exact h3.elim
  case row row args=>exact h0.mono λv w'' hr=>by have:=hr.2;rwa [hput v] at this
 |halt x w'=>cases x<;>simp only[Oper.upon] at h0 ⊢;exact h0
def kV (P:Program) (D:List Deferred) (n:Nat) (ops:Array Oper) (i:Nat) (ρ:Env) (h:aq) (N:Env->aq->Prop) (X:List PanicEntry->Env->aq->Prop):Prop :=
 ∀B a w,n8 D n ρ a->At B h w->∀Q:Exit->Act->World->Prop,(∀ρ' h' a' w',n8 D n ρ' a'->At B h' w'->N ρ' h'->Q .normal a' w') ->
  (∀ch ρ' h' a' w',n8 D n ρ' a'->At B h' w'->X ch ρ' h'->Q (.panic ch) a' w')->wpOps P ops Q ((List.range ops.size).drop i) a w
section
variable {P:Program}{D:List Deferred}{n:Nat}{ops:Array Oper}{i:Nat}{ρ:Env}{h:aq}{N:Env->aq->Prop}{X:List PanicEntry->Env->aq->Prop}
theorem kV.op (U:nth ops.toList i=some o) (hg:o.guard=none){od:Option Nat}(J:o.dst=od) (hd:ou n od=true) (k:aV P o ρ h Φ (λZ h'=>X Z ρ h'))
 (next:∀v h',Φ v h'->kV P D n ops (i+1) (ρ.put od v) h' N X):kV P D n ops i ρ h N X:=by
 subst J;have ho:=jb U;intro B a w Y ha Q hN hX;rw[kr (mI ho)];simp only[wpOps,ho];have hw:Region.wanted o (yielded ops a.tmps)=true:=by unfold Region.wanted;rw[hg]
 rw[hw,if_pos rfl];refine .inl (k.Rg Y ha (λv h' w' I hv=>?_) (λZ h' w' I hx=>hX Z ρ h' a w' Y I hx));exact next v h' hv B _ w' (Y.put hd v) I Q hN hX
theorem kV.HZ (J:nth ops.toList i=some o) (U:o.guard=none) (I:o.dst=some d) (Y:Nat.blt d n=true) (k:aV P o ρ h Φ (λZ h'=>X Z ρ h'))
 (next:∀v h',Φ v h'->kV P D n ops (i+1) ((d,v)::ρ) h' N X):kV P D n ops i ρ h N X:=kV.op J U I Y k next
theorem kV.FN (J:nth ops.toList i=some o) (U:o.guard=none) (I:o.dst=none) (k:aV P o ρ h Φ (λY h'=>X Y ρ h'))
 (next:∀v h',Φ v h'->kV P D n ops (i+1) ρ h' N X):kV P D n ops i ρ h N X:=kV.op J U I rfl k next
theorem kV.cC (U:nth ops.toList i=some o) (Z:o.guard=none) (I:o.dst=some d) (hd:Nat.blt d n=true) (k:az P o ρ h v)
 (next:kV P D n ops (i+1) ((d,v)::ρ) h N X):kV P D n ops i ρ h N X:=kV.HZ U Z I hd k.HX (λ_ _ ⟨J,Y⟩=>by subst J;subst Y;exact next)
theorem mU (hi:Nat.ble ops.size i=true) (next:N ρ h):kV P D n ops i ρ h N X:=by
 intro B a w I J Q U _;have:ops.size<=i:=Nat.le_of_ble_eq_true hi;rw[List.drop_eq_nil_of_le (by simpa using this)];exact U ρ h a w I J next
end
def GD (P:Program) (D:List Deferred) (f:FuncId) (fn:Func) (k:List It) (ρ:Env) (h:aq) (R:Ending->aq->Prop):Prop :=
 ∀B a w,n8 D fn.ntmps ρ a->At B h w->∀b:Frame,b.fn=f->b.kind= .normal->∀cs,∃e w' fr h',At B h' w'/\R e h' /\
  Comes P (lone (b.at a (k.map (aH (ax fn)))) cs w) (lone fr cs w') e/\fr.fn=f/\fr.leaving P w' e
def qn (P:Program) (fn:Func) (D:List Deferred) (u:FrameMode) (ρ:Env) (h:aq) (R:Ending->aq->Prop):Prop :=
 ∀B a w,n8 D fn.ntmps ρ a->At B h w->Leaves P fn a.tmps (lift B R) D u w
section
variable {P:Program}{D:List Deferred}{f:FuncId}{fn:Func}{k:List It}{ρ:Env}{h:aq}{R:Ending->aq->Prop}{p:List Nat}
theorem B5 {k':List It}(hs:∀(b:Frame) (a:Act) cs w,Go.step P (lone (b.at a (k.map (aH (ax fn)))) cs w)= .next (lone (b.at a (k'.map (aH (ax fn)))) cs w))
 (next:GD P D f fn k' ρ h R):GD P D f fn k ρ h R:=by
 intro B a w I U b J hk cs;obtain⟨e,w',fr,h',h1,h2,h3,Z,Y⟩:=next B a w I U b J hk cs
 exact⟨e,w',fr,h',h1,h2,.of_steps (.one (hs b a cs w)) h3,Z,Y⟩
theorem Lx (hk:kind (sub (ax fn) p)=0) (next:GD P D f fn k ρ h R):GD P D f fn (.code p::k) ρ h R:=by
 refine B5 (λb a cs w=>?_) next
 simp only[List.map_cons,aH];cases hc:sub (ax fn) p<;>simp[hc,kind] at hk
 · exact step_skip
 · rename_i d;cases d<;>simp at hk
theorem rN (hk:kind (sub (ax fn) p)=1) (next:GD P D f fn (.code (0::p):: .code (1::p)::k) ρ h R):GD P D f fn (.code p::k) ρ h R:=by
 refine B5 (λb a cs w=>?_) next
 simp only[List.map_cons,aH,sub];cases hc:sub (ax fn) p<;>simp[hc,kind] at hk
 · rename_i d;cases d<;>simp at hk
 · exact step_seq
theorem GD.sub {ρ':Env}(hs:Sub ρ' ρ) (next:GD P D f fn k ρ' h R):GD P D f fn k ρ h R :=
 λB a w I J=>next B a w (I.sub hs) J
theorem Ly {t:Bool}(hk:kind (Lw.sub (ax fn) p)=7) (hc:bp ρ (pG (Lw.sub (ax fn) p))=some (.bool t))
 (ht:t=true->GD P D f fn (.code (0::p)::k) ρ h R) (hn:t=false->GD P D f fn (.code (1::p)::k) ρ h R):GD P D f fn (.code p::k) ρ h R:=by
 intro B a w Y ha b hb J cs
 have I:Go.step P (lone (b.at a ((It.code p::k).map (aH (ax fn)))) cs w)= .next (lone (b.at a ((It.code ((if t then 0 else 1)::p)::k).map (aH (ax fn)))) cs w):=by
  simp only[List.map_cons,aH,Lw.sub];cases U:Lw.sub (ax fn) p<;>simp[U,kind] at hk
  · rename_i d;cases d<;>simp at hk
  · rw[U] at hc;refine(step_cond (P:=P) (b:=b) (a:=a) (k:=k.map (aH (ax fn))) (cs:=cs) (w:=w) (Y.zero.eval hc)).trans ?_;cases t<;>rfl
 cases t with
 |true =>
  obtain⟨e,w',fr,h',h1,h2,h3,h4,Z⟩:=ht rfl B a w Y ha b hb J cs;exact⟨e,w',fr,h',h1,h2,.of_steps (.one I) h3,h4,Z⟩
 |false =>
  obtain⟨e,w',fr,h',h1,h2,h3,h4,Z⟩:=hn rfl B a w Y ha b hb J cs;exact⟨e,w',fr,h',h1,h2,.of_steps (.one I) h3,h4,Z⟩
theorem Nb {φ:Prop}[Decidable φ] (hk:kind (Lw.sub (ax fn) p)=7) (hc:bp ρ (pG (Lw.sub (ax fn) p))=some (.bool (decide φ)))
 (I:φ->GD P D f fn (.code (0::p)::k) ρ h R) (J:¬φ->GD P D f fn (.code (1::p)::k) ρ h R):GD P D f fn (.code p::k) ρ h R :=
 Ly hk hc (λe=>I (of_decide_eq_true e)) (λe=>J (of_decide_eq_false e))
theorem xF {u:FrameMode}{B:World}(I:P.funcs[f]? =some fn) (J:n8 D fn.ntmps ρ a) (Y:At B h w) (Z:qn P fn D u ρ h R) (b:Frame) (U:b.fn=f) (hk:b.kind= .normal) (cs:List Frame) (todo:List Item) :
 ∃e w' fr h',At B h' w'/\R e h'/\Comes P (lone { b.at a todo with mode:=u } cs w) (lone fr cs w') e/\fr.fn=f/\fr.leaving P w' e:=by
 obtain⟨e,w',fr,⟨h',h1,h2⟩,h3,h4,h5⟩:=leaves_steps (P:=P) (fn:=fn) (tmps:=a.tmps) (R:=lift B R) D u w { b.at a todo with mode:=u } cs rfl J.nd rfl (by rw[show ({ b.at a todo with mode:=u }:Frame).fn=f from U];exact I) hk (Z B a w J Y);exact⟨e,w',fr,h',h1,h2,h3,h4.trans U,h5⟩
theorem GD.mE (ab:P.funcs[f]? =some fn) (hk:kind (Lw.sub (ax fn) p)=5)
 (next:kV P D fn.ntmps (opsOf (Lw.sub (ax fn) p)) 0 ρ h (λρ' h'=>GD P D f fn k ρ' h' R) (λch ρ' h'=>qn P fn D (.panicking ch) ρ' h' R)):GD P D f fn (.code p::k) ρ h R:=by
 intro B a w hf ha b hb aa cs;cases hc:Lw.sub (ax fn) p<;>simp[hc,kind] at hk;rename_i id ops d;cases d<;>simp at hk;rw[hc] at next
 let Q:Exit->Act->World->Prop:=λe a' w'=>match e with
  |.normal=>∃ρ' h',n8 D fn.ntmps ρ' a'/\At B h' w'/\GD P D f fn k ρ' h' R
  |.panic ch=>∃ρ' h',n8 D fn.ntmps ρ' a'/\At B h' w'/\qn P fn D (.panicking ch) ρ' h' R
  |_=>False
 have hw:(Code.region id ops false).wp P Q a w:=wp_region (by
  have:=next B a w hf ha Q (λρ' h' a' w' Z I hn=>⟨ρ',h',Z,I,hn⟩) (λch ρ' h' a' w' Z I hx=>⟨ρ',h',Z,I,hx⟩)
  simpa [opsOf] using this)
 obtain⟨e,a',w',hq,J⟩:=hw b (k.map (aH (ax fn))) cs;have hit:(It.code p::k).map (aH (ax fn))=Item.code (Code.region id ops false)::k.map (aH (ax fn)):=by simp[aH,hc]
 rw[hit];cases e with
 |normal =>
  obtain⟨ρ',h',Z,I,hg⟩:=hq;obtain⟨e,U,fr,Y,h1,h2,h3,h4,h5⟩:=hg B a' w' Z I b hb aa cs;exact⟨e,U,fr,Y,h1,h2,.of_steps J h3,h4,h5⟩
 |panic ch =>
  obtain⟨ρ',h',Z,I,hl⟩:=hq;obtain⟨todo,hs⟩:=J;obtain⟨e,U,fr,Y,h1,h2,h3,h4,h5⟩:=xF ab Z I hl b hb aa cs todo
  exact⟨e,U,fr,Y,h1,h2,.of_steps hs h3,h4,h5⟩
 |exit id=>exact hq.elim
 |goto l=>exact hq.elim
 |ret=>exact hq.elim
 |outgrown=>exact hq.elim
theorem GD.ret (Y:P.funcs[f]? =some fn) (hk:kind (Lw.sub (ax fn) p)=4) (hL:qn P fn D .returning ρ h R):GD P D f fn (.code p::k) ρ h R:=by
 intro B a w hf ha b hb U cs
 have I:Go.step P (lone (b.at a ((It.code p::k).map (aH (ax fn)))) cs w)= .next (lone { b.at a ((It.code p::k).map (aH (ax fn))) with mode:=.returning } cs w):=by
  simp only[List.map_cons,aH];cases hc:Lw.sub (ax fn) p<;>simp[hc,kind] at hk
  · rename_i d;cases d<;>simp at hk
  · exact step_ret
 obtain⟨e,J,fr,Z,h1,h2,h3,h4,h5⟩:=xF Y hf ha hL b hb U cs ((It.code p::k).map (aH (ax fn)));exact⟨e,J,fr,Z,h1,h2,.of_steps (.one I) h3,h4,h5⟩
theorem G.MZ {J I:Oper}{caps:List Value}{xs:Array Operand}(_hfn:P.funcs[f]? =some fn) (hk:kind (Lw.sub (ax fn) p)=5) (U:opsOf (Lw.sub (ax fn) p)= #[J,I])
 (h1:J.op= .makeFunc (.func g) #[] xs) (an:J.guard=none) (ap:J.dst=some d) (ac:Nat.blt d fn.ntmps=true) (hx:xs.toList.map (bp ρ)=caps.map some)
 (ag:ρ.at d=none) (h2:I.op= .defer ⟨.value (.tmp d),#[],#[]⟩) (am:I.guard=none) (ao:I.dst=none)
 (next:GD P [{ target:=.fn (.func g) caps.toArray,args:= #[] }] f fn k ρ h R):G P f fn (.code p::k) ρ h R:=by
 intro B a w hf ha b hb al cs;cases hc:Lw.sub (ax fn) p<;>simp[hc,kind] at hk;rename_i id ops dr;cases dr<;>simp at hk;rw[hc] at U;have Y:ops= #[J,I]:=U;subst Y
 let D:List Deferred:=[{ target:=.fn (.func g) caps.toArray,args:= #[] }]
 let Q:Exit->Act->World->Prop:=λe a' w'=>match e with
  |.normal=>n8 D fn.ntmps ρ a'/\At B h w'
  |_=>False
 have Z:xs.map a.eval=caps.toArray:=by
  apply Array.ext'
  simp only[Array.toList_map]
  have key:∀(l:List Operand) (us:List Value),l.map (bp ρ)=us.map some->l.map a.eval=us:=by
   intro l
   induction l with
   |nil=>intro us hu;cases us<;>simp_all
   |cons x r ih =>
    intro us hu;cases us with
    |nil=>simp at hu
    |cons u us =>
     simp only[List.map_cons,List.cons.injEq] at hu ⊢;exact⟨hf.eval hu.1,ih us hu.2⟩
  exact key _ _ hx
 have ak:d<a.tmps.size:=by rw[hf.size];exact Nat.blt_eq.mp ac
 have ab:∀v,(a.tmps.setIfInBounds d v).getD d undef=v:=λv=>by
  rw[Array.getD_eq_getD_getElem?,Array.getElem?_setIfInBounds_self_of_lt ak];rfl
 have hw:(Code.region id #[J,I] false).wp P Q a w:=wp_region (by
  show wpOps P #[J,I] Q [0,1] a w
  simp only[wpOps,List.getElem?_toArray,List.getElem?_cons_zero,List.getElem?_cons_succ];rw[show Region.wanted J (yielded #[J,I] a.tmps)=true by unfold Region.wanted;rw[an],if_pos rfl];refine .inl ?_;unfold Oper.wp;rw[show (execOp a.eval J).run P w= .ok (.value (.func (.func g) #[] caps.toArray)) w by simp[execOp,h1,Instr.makeFunc,Z]];simp only[Oper.upon,ap,Act.put];rw[show ∀t,Region.wanted I (yielded #[J,I] t)=true from λt=>by unfold Region.wanted;rw[am],if_pos rfl];refine .inl ?_
  try unfold Oper.wp
  rw[show (execOp (Act.eval { a with tmps:=a.tmps.setIfInBounds d (.func (.func g) #[] caps.toArray) }) I).run P w= .ok (.defer { target:=.fn (.func g) caps.toArray,args:= #[] }) w by
   simp[execOp,h2,resolve,Act.eval,ab,Deferred.ofValue]]
  simp only[ao];have aa:=hf.put (dst:=some d) ac (.func (.func g) #[] caps.toArray)
  exact⟨⟨aa.size,λi v hi=>by
   by_cases e:d=i
   · subst e;rw[ag] at hi;cases hi
   · have:=hf.ok i v hi;rw[Array.getElem?_setIfInBounds_ne e];exact this,by rw[hf.nd]⟩,ha⟩)
 obtain⟨e,a',w',hq,ad⟩:=hw b (k.map (aH (ax fn))) cs;have hit:(It.code p::k).map (aH (ax fn))=Item.code (Code.region id #[J,I] false)::k.map (aH (ax fn)):=by simp[aH,hc]
 rw[hit];cases e with
 |normal =>
  obtain⟨f',aw⟩:=hq;obtain⟨e,ae,fr,ar,h1,h2,h3,h4,h5⟩:=next B a' w' f' aw b hb al cs
  exact⟨e,ae,fr,ar,h1,h2,.of_steps ad h3,h4,h5⟩
 |panic ch=>exact hq.elim
 |exit id=>exact hq.elim
 |goto l=>exact hq.elim
 |ret=>exact hq.elim
 |outgrown=>exact hq.elim
end
theorem EU (vs:List Value) (hle:vs.length<=fn.ntmps):Fits fn.ntmps (nV 0 vs) { tmps:=vs.toArray++Array.replicate (fn.ntmps-vs.toArray.size) undef,defers:=[] }:=by
 refine⟨by simp;omega,λi v hi=>?_,rfl⟩;obtain⟨_,J⟩:=uk vs 0 i v hi
 have I:i<vs.length:=by
  rcases Nat.lt_or_ge i vs.length with hl|hl
  · exact hl
  · simp[List.getElem?_eq_none hl] at J
 rw[Array.getElem?_append_left (by simpa using I)];simpa using J
theorem pK {vs:List Value}{id:Nat}{J I:Oper}{rest:Code}{u u':FrameMode}{d1 d2:Nat}{ts:Array TypeId}{R:Ending->FrameMode->World->Prop}
 (ar:P.funcs[g]? =some fn) (hb:fn.body=some (.seq (.region id #[J,I] false) rest)) (hn:Nat.ble vs.length fn.ntmps=true)
 (h1:J.op= .call ⟨.builtin .recover,#[],ts⟩) (ap:J.guard=none) (ag:J.dst=some d1) (ao:Nat.blt d1 fn.ntmps=true)
 (h2:I.op= .assign (.tmp d1)) (ab:I.guard=none) (ae:I.dst=some d2) (an:Nat.blt d2 fn.ntmps=true)
 (aa:∀(U : Frame) (cs:List Frame),U.mode=u->recoverD (U::cs)=some (v,{ U with mode:=u' }::cs)\/(recoverD (U::cs)=none/\v= .nilIface/\u'=u))
 (hw:∀a,Fits fn.ntmps ((d2,v)::(d1,v)::nV 0 vs) a->rest.wp P (λe a' w'=>match e with
  |.normal|.ret=>a'.defers=[]/\∃r,(results fn a'.tmps).run P w'= .ok r w'/\R (.returned r) u' w'
  |_=>False) a w):CallsD P g vs.toArray u w R:=by
 refine callsD_of_wpS ar hb λU cs hu=>?_
 have ad:=EU (fn:=fn) vs (Nat.le_of_ble_eq_true hn);generalize ({ tmps:=vs.toArray++Array.replicate (fn.ntmps-vs.toArray.size) undef,defers:=[] }:Act)=a0 at ad;refine wpS_seq (wpS_region ?_)
 show wpOpsS P #[J,I] _ [0,1] a0 (U::cs) w
 simp only[wpOpsS,List.getElem?_toArray,List.getElem?_cons_zero,List.getElem?_cons_succ];rw[show Region.wanted J (yielded #[J,I] a0.tmps)=true by unfold Region.wanted;rw[ap],if_pos rfl];rw[show (execOp a0.eval J).run P w= .ok .recover w by simp[execOp,h1,resolve,invoke,builtin]];have ac:=ad.put (dst:=some d1) ao v;have aw:=ac.put (dst:=some d2) an v;have am:=hw _ aw
 have Y:(execOp (a0.put (some d1) v).eval I).run P w= .ok (.value v) w:=by
  have he:(a0.put (some d1) v).eval (.tmp d1)=v:=ac.eval (x:=.tmp d1) (by simp[bp,Env.put,Env.fS]);simp[execOp,h2,he]
 have fin:∀(Z:List Frame),Z= { U with mode:=u' }::cs->rest.wpS P (bodyPostS P fn U cs R) ((a0.put (some d1) v).put (some d2) v) Z w:=by
  intro Z ak;refine wpS_of_wp ?_;intro b k a1;obtain⟨e,a',w',hq,al⟩:=am b k a1;refine⟨e,a',w',?_,al⟩;cases e with
  |normal=>obtain⟨q1,r,q2,q3⟩:=hq;exact⟨q1,u',ak,r,q2,q3⟩
  |ret=>obtain⟨q1,r,q2,q3⟩:=hq;exact⟨q1,u',ak,r,q2,q3⟩
  |panic ch=>exact hq.elim
  |exit id=>exact hq.elim
  |goto l=>exact hq.elim
  |outgrown=>exact hq.elim
 rcases aa U cs hu with hr|⟨hr,rfl,rfl⟩
 · simp only[hr,ag];rw[show ∀t,Region.wanted I (yielded #[J,I] t)=true from λt=>by unfold Region.wanted;rw[ab],if_pos rfl];rw[Y];simp only[Oper.upon,ae];exact fin _ rfl
 · simp only[hr,ag];rw[show ∀t,Region.wanted I (yielded #[J,I] t)=true from λt=>by unfold Region.wanted;rw[ab],if_pos rfl];rw[Y];simp only[Oper.upon,ae];refine fin _ ?_;cases U;simp only at hu;subst hu;rfl
theorem qz {caps:Array Value}(U:P.funcs[g]? =some fn) (hb:fn.body.isSome=true) (J:(fn.name == "runtime.NumGoroutine")=false):(invoke (.fn (.func g) caps) #[]).run P w= .ok (.enter g caps) w:=by
 have Z:fn.body≠none:=by intro Y;simp[Y] at hb
 have I:¬fn.name= "runtime.NumGoroutine" :=by simpa using J
 simp[invoke,callFunc,U,I,Z]
theorem az.zj {h:aq}{dst:Option Nat}{ty:TypeId}{pos:String}{after:Array Edge}{guard:Option (Nat×Bool)}{t I:TypeId}{Y:Array Field}{x:Operand}(hu:P.underlying t=some (.struct Y)) (J:bp ρ x=some (.iface t v)) :
 az P ⟨dst,.typeAssert x I t false,ty,pos,after,guard⟩ ρ h v:=by
 intro n B a w U ha;simp[execOp,Instr.typeAssert,run_underlying hu,U.eval J]
end
end Go.Lw
namespace Go.Proofs.YtnjahnbpnpkmhaaGreatDoor
open Go.Proofs.Tryz
open Go Go.Lw Go.RowKit
set_option maxRecDepth 20000 set_option maxHeartbeats 4000000
section
variable {h:aq}{nb eb:Nat}
abbrev qv:List Value:=bP 0 0 (.slice none 0 0)
theorem E4 {cs:List Value}{v0:Value}(ae:cs.length=6) (hk:aC h nb 105 cs) (he:aC h eb 29 [v0]) (ac:nb≠eb) (B w:World) (ha:At B h w) :
 CallsD prog 77 #[.pointer (some ⟨nb,0,none⟩),.pointer (some ⟨eb,0,none⟩)] (.panicking [{ v:=wT,recovered:=false }]) w λe u' w' =>
  (∃r,e= .returned r)/\u'= .panicking [{ v:=wT,recovered:=true }]/\∃h',At B h' w'/\aC h' nb 105 qv/\aC h' eb 29 [.int .i64 10]/\Ext (λb=>b=nb\/b=eb) h h':=by
 refine pK (v:=wT) (vs:=[.pointer (some ⟨nb,0,none⟩),.pointer (some ⟨eb,0,none⟩)]) (u':=.panicking [{ v:=wT,recovered:=true }]) func77 rfl rfl rfl rfl rfl rfl rfl rfl rfl rfl (λc₀ cs hu=>.inl (by simp[recoverD,hu])) (λa hf=>?_);refine wp_seq (wp_region ?_);refine(show RW prog Tryz.f77.ntmps _ 0 _ h (λρ' h'=>h'=h/\Sub [(5,.bool true),(2,wT),(0,.pointer (some ⟨nb,0,none⟩)),(1,.pointer (some ⟨eb,0,none⟩))] ρ') (λ_ _=>False) from ?_) B a w hf ha _ ?_ (λ_ _ _ _ _ _ k=>k.elim)
 · refine RW.cC rfl rfl rfl rfl (fu rfl) (RW.cC rfl rfl rfl rfl (az.C0 underlying20 rfl (.inr ⟨_,_,rfl⟩)) ?_);exact jf rfl ⟨rfl,rfl,rfl,rfl,rfl,trivial⟩
 rintro ρ' h' a1 w1 J ar ⟨rfl,ab⟩;have J:=J.sub ab;refine wp_cond_true (J.eval (x:=.tmp 5) rfl) ?_;refine wp_seq (wp_region ?_);refine(show RW prog Tryz.f77.ntmps _ 0 _ h' (λρ' g=>g=h'/\Sub [(0,.pointer (some ⟨nb,0,none⟩)),(1,.pointer (some ⟨eb,0,none⟩))] ρ') (λ_ _=>False) from ?_) B a1 w1 J ar _ ?_ (λ_ _ _ _ _ _ k=>k.elim)
 · refine RW.cC rfl rfl rfl rfl (fu rfl) (RW.cC rfl rfl rfl rfl (az.zj underlying155 rfl) ?_);exact jf rfl ⟨rfl,rfl,rfl,trivial⟩
 rintro ρ'' ak a2 w2 Y ap ⟨rfl,U⟩;have Y:=Y.sub U;refine wp_region ?_;refine(show RW prog Tryz.f77.ntmps _ 0 _ ak (λ_ g=>aC g nb 105 qv/\aC g eb 29 [.int .i64 10]/\Ext (λb=>b=nb\/b=eb) ak g) (λ_ _=>False) from ?_) B a2 w2 Y ap _ ?_ (λ_ _ _ _ _ _ k=>k.elim)
 · refine RW.cC rfl rfl rfl rfl (av (H.E7 ) rfl) (RW.FN rfl rfl rfl (aV.jZ H.oH rfl rfl hk rfl (by rw[ae];decide) (by first|decide|simp[Value.oneCell'])) ?_);rintro _ h3 ⟨rfl,I,aa,hz3⟩
   have I:aC h3 nb 105 qv:=by
    rw[I1 (by rw[ae];rfl)] at I;exact I
   refine RW.FN rfl rfl rfl (aV.oI H.Mq rfl rfl (he.ext aa (λe=>ac e.symm)) (by simp) rfl) ?_;rintro _ h4 ⟨rfl,ao,Z,hz4⟩;exact jf rfl ⟨I.ext Z (λe=>ac e),ao,(aa.mono λ_ _ k=>.inl k).trans (Z.mono λ_ _ k=>.inr k)⟩
 rintro _ h5 a5 w5 ad ag ⟨an,am,al⟩;exact⟨ad.nd,_,ji ad ag .nil,⟨_,rfl⟩,rfl,h5,ag,an,am,al⟩
theorem E5 (B w:World) (Z:At B h w) :
 CallsD prog 77 #[.pointer (some ⟨nb,0,none⟩),.pointer (some ⟨eb,0,none⟩)] .returning w λe u' w'=>(∃r,e= .returned r)/\u'= .returning/\At B h w':=by
 refine pK (v:=.nilIface) (vs:=[.pointer (some ⟨nb,0,none⟩),.pointer (some ⟨eb,0,none⟩)]) (u':=.returning) func77 rfl rfl rfl rfl rfl rfl rfl rfl rfl rfl (λc₀ cs hu=>.inr ⟨by simp[recoverD,hu],rfl,rfl⟩) (λa Y=>?_);refine wp_seq (wp_region ?_);refine(show RW prog Tryz.f77.ntmps _ 0 _ h (λρ' h'=>h'=h/\Sub [(5,.bool false)] ρ') (λ_ _=>False) from ?_) B a w Y Z _ ?_ (λ_ _ _ _ _ _ k=>k.elim)
 · refine RW.cC rfl rfl rfl rfl (fu rfl) (RW.cC rfl rfl rfl rfl (az.C0 underlying20 rfl (.inl rfl)) ?_);exact jf rfl ⟨rfl,rfl,trivial⟩
 rintro ρ' h' a1 w1 I U ⟨rfl,J⟩;have I:=I.sub J;refine wp_cond_false (I.eval (x:=.tmp 5) rfl) (wp_skip ?_);exact⟨I.nd,_,ji I U .nil,⟨_,rfl⟩,rfl,U⟩
theorem xE {cs:List Value}{v0:Value}{ρ:Env}{R:Ending->aq->Prop}(h2:ρ.at 2=some (.pointer (some ⟨nb,0,none⟩))) (h3:ρ.at 3=some (.pointer (some ⟨eb,0,none⟩))) (aa:cs.length=6) (hk:aC h nb 105 cs) (he:aC h eb 29 [v0]) (U:nb≠eb)
 (hR:∀h',Ext (λb=>b=nb\/b=eb) h h'->R (.returned (.tuple #[.agg qv.toArray,.int .i64 10])) h') :
 qn prog f41 [{ target:=.fn (.func 77) #[.pointer (some ⟨nb,0,none⟩),.pointer (some ⟨eb,0,none⟩)],args:= #[] }] (.panicking [{ v:=wT,recovered:=false }]) ρ h R:=by
 intro B a w hf ha;refine leaves_cons (f:=77) (args:= #[.pointer (some ⟨nb,0,none⟩),.pointer (some ⟨eb,0,none⟩)]) (by simp) (qz func77 rfl (by decide +kernel)) ?_;refine(E4 aa hk he U B w ha).mono ?_;rintro e u' w' ⟨⟨r,rfl⟩,rfl,h',I,Y,Z,J⟩;refine⟨_,ji hf.zero I (.cons (jq.Mx H.Au H.oH h2 Y.row rfl) (.cons (jq.cell H.M6 h3 (Z.cell (i:=0) rfl)) .nil)),h',I,hR h' J⟩
theorem EK {x:Nd}{w0:Value}{J:Int}{ρ:Env}{R:Ending->aq->Prop}(h2:ρ.at 2=some (.pointer (some ⟨nb,0,none⟩))) (h3:ρ.at 3=some (.pointer (some ⟨eb,0,none⟩))) (hk:aC h nb 105 (bP x.kind x.set w0)) (he:aC h eb 29 [.int .i64 J])
 (Z:R (.returned (.tuple #[.agg (bP x.kind x.set w0).toArray,.int .i64 J])) h) :
 qn prog f41 [{ target:=.fn (.func 77) #[.pointer (some ⟨nb,0,none⟩),.pointer (some ⟨eb,0,none⟩)],args:= #[] }] .returning ρ h R:=by
 intro B a w U Y;refine leaves_cons (f:=77) (args:= #[.pointer (some ⟨nb,0,none⟩),.pointer (some ⟨eb,0,none⟩)]) (by simp) (qz func77 rfl (by decide +kernel)) ?_;refine(E5 B w Y).mono ?_;rintro e u' w' ⟨⟨r,rfl⟩,rfl,I⟩;refine⟨_,ji U.zero I (.cons (jq.Mx H.Au H.oH h2 hk.row rfl) (.cons (jq.cell H.M6 h3 (he.cell (i:=0) rfl)) .nil)),h,I,Z⟩
def Kj (h h':aq) (s:By) (r:Value):Prop:=∃w,r= .tuple #[.agg (bP (aU s).1.kind (aU s).1.set w).toArray,.int .i64 (aU s).2]/\aI h' (B8 h.size) (bP (aU s).1.kind (aU s).1.set w) (aU s).1
theorem CU {lim:Nat}(hg:Sg h lim) (hlim:lim<=h.size) (s:By) (hs:s.length<=1000000):au prog 41 #[.string (bs s)] h (bK λr h'=>Kj h h' s r/\aj h h'):=by
 have hsz:=aJ s;refine bJ ?_;refine af ?_;refine xo rfl (cL) ?_;rintro _ h1 ⟨rfl,a1,bk,hz1⟩;refine xo rfl (cL) ?_;rintro _ h2 ⟨rfl,ab,bb,hz2⟩;refine af ?_;have a1:aC h1 h.size 105 qv:=a1;have ab:aC h2 h1.size 29 [.int .i64 0]:=ab;have al:=a1.ah bb;have e2:=bk.trans bb;refine aN (λbc=>?_) (λbc=>?_)
 · have hE:aU s=(lI,3):=by unfold aU;rw[if_pos (by omega)]
   refine af ?_;refine xp rfl (av (H.E7 ) rfl) (aO rfl (aZ rfl rfl al) ?_);rintro _ h3 ⟨rfl,U,a6,be⟩;refine aO rfl (iG rfl rfl ((ab.ext a6 (by show ¬_=_;omega)))) ?_;rintro _ h4 ⟨rfl,aw,I,bd⟩;refine af ?_;have U:aC h3 h.size 105 qv:=U;have aw:aC h4 h1.size 29 [.int .i64 3]:=aw;refine cE (cz rfl ((U.ext I (by show ¬_=_;omega)).row) (QO rfl (aw.cell (i:=0) rfl) cD)) ?_;refine⟨_,rfl,⟨.slice none 0 0,by rw[hE];rfl,by rw[hE];exact b8 _ _ 0 0⟩,aj.only (aj.only e2 a6 (Nat.le_refl _)) I (by omega)⟩
 · iterate 2 refine aQ ?_
   refine G.MZ (caps:=[.pointer (some ⟨h.size,0,none⟩),.pointer (some ⟨h1.size,0,none⟩)]) func41 rfl rfl rfl rfl rfl rfl rfl rfl rfl rfl rfl ?_;have hE:aU s=match fO s with|some x=>(x,0)|none=>(lI,10):=by unfold aU;rw[if_neg (by omega)];rfl
   refine rN rfl (GD.mE func41 rfl (kV.cC rfl rfl rfl rfl (fu rfl) (kV.cC rfl rfl rfl rfl (av (H.Li _) rfl) (kV.HZ rfl rfl rfl rfl (aV.OF rfl) ?_))));rintro _ h3 ⟨rfl,U,ac,be⟩;refine kV.cC rfl rfl rfl rfl (az.assign rfl) (mU rfl (GD.sub (ρ':=[(0,_),(2,_),(3,_),(4,_),(7,_)]) ⟨rfl,rfl,rfl,rfl,rfl,trivial⟩ (rN rfl (GD.mE func41 rfl (kV.cC rfl rfl rfl rfl (fu rfl) ?_)))));have U:aC h3 h2.size 158 [.string (bs s)]:=U;have bj:Sg h3 lim:=hg.ext (e2.trans ac) (λ_ k=>k.elim);have ao:=FH lim (s.length+1) h3 h2.size s bj (by omega) U (Nat.lt_succ_self _) hs;have ak:=al.ah ac;have ag:=ab.ah ac;have e3:=e2.trans ac;refine kV.HZ rfl rfl rfl rfl (kO (vs:=[_]) func78 rfl H.P5 rfl (au.NB (ao) ((λ_ h' ⟨hc,hp,hx⟩=>by rw[hc];exact xE rfl rfl rfl (ak.ext hx (by show ¬_=_;omega)) (ag.ext hx (by show ¬_=_;omega)) (by omega) (λbl Y=>⟨_,rfl,⟨.slice none 0 0,by rw[hE];unfold fO;rw[hp];rfl,by rw[hE];unfold fO;rw[hp];exact b8 _ _ 0 0⟩,⟨by have:=hx.size;have:=Y.size;have:=e3.size;omega,λb hb _=>by rw[Y.block b (by have:=hx.size;omega) (by omega),hx.block b (by omega) (by show ¬_=_;omega)];exact e3.block b hb (λk=>k)⟩⟩))))) ?_;rintro _ h4 ⟨x,r,hp,⟨w,rfl,a8⟩,bi,I⟩;have bd:=I.size;have ba:=ak.ext I (by show ¬_=_;omega);have a_:=ag.ext I (by show ¬_=_;omega);have e4:aj h h4:=aj.only e3 I (by omega);refine kV.FN rfl rfl rfl (aV.jZ H.oH rfl rfl ba (by first|rfl|(simp;done)|(simp;omega)) (by first|decide|exact of_decide_eq_true rfl|(simp;done)|(simp;omega)) (aI.one a8)) ?_;rintro _ h5 ⟨rfl,Z,aa,hz5⟩;refine mU rfl (GD.sub (ρ':=[(0,_),(2,_),(3,_),(4,_),(7,_)]) ⟨rfl,rfl,rfl,rfl,rfl,trivial⟩ (rN rfl (rN rfl (GD.mE func41 rfl (kV.cC rfl rfl rfl rfl (fu rfl) (kV.cC rfl rfl rfl rfl (tn rfl) (kV.cC rfl rfl rfl rfl (gm (off:=0) underlying158 rfl rfl H.D6 rfl) ?_)))))));have Z:aC h5 h.size 105 (bP x.kind x.set w):=Z;have ae:=a_.ext aa (by show ¬_=_;omega);have bh:St h5 h2.size r:=aC.ext bi aa (by show ¬_=_;omega);have ad:aI h5 (B8 h3.size) (bP x.kind x.set w) x:=eP a8 (Nat.le_refl _) aa (λb _ (hb:b=h.size)=>by omega);have e5:=aj.only e4 aa (Nat.le_refl _);refine kV.cC rfl rfl rfl rfl (eB H.Nl rfl bh.cell) (kV.cC rfl rfl rfl rfl (az.Jc rfl rfl) (mU rfl (GD.sub (ρ':=[(0,_),(2,_),(3,_),(4,_),(7,_),(19,_)]) ⟨rfl,rfl,rfl,rfl,rfl,rfl,trivial⟩ (Nb rfl rfl (λhr=>?_) (λhr=>?_)))))
   · have hr:r≠[]:=λe=>hr (by rw[e];rfl)
     have J:fO s=none:=by
      unfold fO;rw[hp];cases r with
      |nil=>exact absurd rfl hr
      |cons c t=>rfl
     refine GD.mE func41 rfl (kV.cC rfl rfl rfl rfl (av (H.iW ) rfl) (kV.cC rfl rfl rfl rfl (lM H.Mb rfl) (kV.FN rfl rfl rfl (dJ (Φ:=λ_ _=>False) rfl (xE rfl rfl rfl Z ae (by omega) (λbl Y=>⟨_,rfl,⟨.slice none 0 0,by rw[hE,J];rfl,by rw[hE,J];exact b8 _ _ 0 0⟩,⟨by have:=Y.size;have:=e5.size;omega,λb hb _=>by rw[Y.block b (by have:=e5.size;omega) (by omega)];exact e5.block b hb (λk=>k)⟩⟩))) ?_)));rintro _ _ J;exact J.elim
   · obtain rfl:r=[]:=dF (Classical.not_not.1 hr);have J:fO s=some x:=by unfold fO;rw[hp]
     refine Lx rfl (rN rfl (GD.mE func41 rfl (kV.cC rfl rfl rfl rfl (az.kD H.Au H.oH rfl Z.row (by first|rfl|(simp;done)|(simp;omega))) (kV.FN rfl rfl rfl (aV.jZ H.oH rfl rfl Z (by first|rfl|(simp;done)|(simp;omega)) (by first|decide|exact of_decide_eq_true rfl|(simp;done)|(simp;omega)) (aI.one ad)) ?_))));rintro _ h6 ⟨rfl,ar,an,hz6⟩;refine kV.FN rfl rfl rfl (aV.oI H.Mq rfl rfl (ae.ext an (by show ¬_=_;omega)) (by first|decide|exact of_decide_eq_true rfl|(simp;done)|(simp;omega)) rfl) ?_;rintro _ h7 ⟨rfl,ap,am,hz7⟩;refine mU rfl (GD.sub (ρ':=[(0,_),(2,_),(3,_),(4,_),(7,_),(19,_)]) ⟨rfl,rfl,rfl,rfl,rfl,rfl,trivial⟩ ?_);have ar:aC h6 h.size 105 (bP x.kind x.set w):=ar;have ap:aC h7 h1.size 29 [.int .i64 0]:=ap;have a':=ar.ext am (by show ¬_=_;omega);have e7:=aj.only (aj.only e5 an (Nat.le_refl _)) am (by omega);have a7:aI h7 (B8 h.size) (bP x.kind x.set w) x:=eP (eP ad (Nat.le_refl _) an (λb _ (hb:b=h.size)=>by omega)) (by omega) am (λb _ (hb:b=h1.size)=>by omega);refine GD.ret func41 rfl ?_;exact EK rfl rfl a' ap ⟨_,rfl,⟨w,by rw[hE,J],by rw[hE,J];exact a7⟩,e7⟩
end
end Go.Proofs.YtnjahnbpnpkmhaaGreatDoor
namespace Go.Proofs.YtnjahnbpnpkmhaaGreatDoor
section
variable {l:List Nd}{s:By}{x:Nd}{i:Nat}
structure bL where
  kind:Nat
  set:Nat
  to:List Nat
  rule:Nat
end
mutual
def lay:Nd->List bL->Nat->List bL×Nat
  |.mk k s kids,ss,to =>
    if k=1 then (ss++[⟨1,s,[to],0⟩],ss.length)
    else if k=2 then bC kids ss to
    else if k=3 then ((aY kids ss to).1++[⟨0,0,(aY kids ss to).2,0⟩],(aY kids ss to).1.length)
    else if k=6 then ((cy kids ss to).1++[⟨0,0,[(cy kids ss to).2,to],0⟩],(cy kids ss to).1.length)
    else if k=4\/k=5 then
      ((cy kids (ss++[⟨0,0,[],0⟩]) ss.length).1.set ss.length ⟨0,0,[(cy kids (ss++[⟨0,0,[],0⟩]) ss.length).2,to],0⟩,
        if k=5 then (cy kids (ss++[⟨0,0,[],0⟩]) ss.length).2 else ss.length)
    else (ss,to)
def bC:List Nd->List bL->Nat->List bL×Nat
  | [],ss,to=>(ss,to)
  |x::r,ss,to=>lay x (bC r ss to).1 (bC r ss to).2
def aY:List Nd->List bL->Nat->List bL×List Nat
  | [],ss,_=>(ss,[])
  |x::r,ss,to=>((aY r (lay x ss to).1 to).1,(lay x ss to).2::(aY r (lay x ss to).1 to).2)
def cy:List Nd->List bL->Nat->List bL×Nat
  | [],ss,to=>(ss,to)
  |x::_,ss,to=>lay x ss to
end
mutual
def js:Nd->Nat
  |.mk _ _ kids=>eR kids+1
def eR:List Nd->Nat
  | []=>0
  |x::r=>js x+eR r
end
mutual
def lu:Nd->Bool
  |.mk k _ kids=>(!(k ==4 ||k ==5 ||k ==6) ||kids.length ==1) && ng kids
def ng:List Nd->Bool
  | []=>true
  |x::r=>lu x && ng r
end
section
variable {l:List Nd}{s:By}{x:Nd}{i:Nat}
theorem jM (x:Nd):0<js x:=by cases x;simp[js]
theorem gD:∀(l m:List Nd),eR (l++m)=eR l+eR m
  | [],m=>by simp[eR]
  |x::l,m=>by simp only[List.cons_append,eR];rw[gD l m];omega
theorem mZ:∀(l m:List Nd),ng (l++m)=(ng l && ng m)
  | [],m=>by simp[ng]
  |x::l,m=>by simp only[List.cons_append,ng];rw[mZ l m,Bool.and_assoc]
theorem vO:∀{l:List Nd}{i:Nat}{x:Nd},l[i]? =some x->js x<=eR l
  | [],i,x,h=>by simp at h
  |y::l,0,x,h=>by simp at h;subst h;simp[eR]
  |y::l,i+1,x,h=>by have:=vO (l:=l) (i:=i) (by simpa using h);simp only[eR];omega
theorem rU:∀{l:List Nd}{i:Nat}{x:Nd},ng l=true->l[i]? =some x->lu x=true
  | [],i,x,_,h=>by simp at h
  |y::l,0,x,hw,h=>by simp at h;subst h;simp only[ng,Bool.and_eq_true] at hw;exact hw.1
  |y::l,i+1,x,hw,h=>by simp only[ng,Bool.and_eq_true] at hw;exact rU hw.2 (by simpa using h)
end
mutual
theorem gu:∀(x:Nd) (ss:List bL) (to:Nat),ss.length<=(lay x ss to).1.length/\(lay x ss to).1.length<=ss.length+js x
  |.mk k s kids,ss,to=>by
    rw[lay];simp only[js];split
    · simp
    · split
      · have:=kH kids ss to;omega
      · split
        · have:=fP kids ss to;simp only[List.length_append,List.length_singleton];omega
        · split
          · have:=gJ kids ss to;simp only[List.length_append,List.length_singleton];omega
          · split
            · have:=gJ kids (ss++[⟨0,0,[],0⟩]) ss.length;simp only[List.length_append,List.length_singleton] at this;simp only[List.length_set];omega
            · simp
theorem kH:∀(l:List Nd) (ss:List bL) (to:Nat),ss.length<=(bC l ss to).1.length/\(bC l ss to).1.length<=ss.length+eR l
  | [],ss,to=>by simp[bC,eR]
  |x::r,ss,to=>by
    rw[bC];have h1:=kH r ss to;have h2:=gu x (bC r ss to).1 (bC r ss to).2;simp only[eR];omega
theorem fP:∀(l:List Nd) (ss:List bL) (to:Nat),ss.length<=(aY l ss to).1.length/\(aY l ss to).1.length<=ss.length+eR l
  | [],ss,to=>by simp[aY,eR]
  |x::r,ss,to=>by
    rw[aY];have h1:=gu x ss to;have h2:=fP r (lay x ss to).1 to;simp only[eR];omega
theorem gJ:∀(l:List Nd) (ss:List bL) (to:Nat),ss.length<=(cy l ss to).1.length/\(cy l ss to).1.length<=ss.length+eR l
  | [],ss,to=>by simp[cy,eR]
  |x::r,ss,to=>by
    rw[cy];have h1:=gu x ss to;simp only[eR];omega
end
section
variable {l:List Nd}{s:By}{x:Nd}{i:Nat}
def Small (s:By) (p:Option (Nd×By)):Prop:=∀x r,p=some (x,r)->js x+2*r.length<=2*s.length+1/\lu x=true
theorem AS (k:Nat) (l:List Nd):js (bg k l)<=eR l+1:=by
  unfold bg;split
  · simp[lI,js,eR]
  · simp[eR]
  · simp[js]
theorem AO {k:Nat}(hk:k=2\/k=3) (h:ng l=true):lu (bg k l)=true:=by
  unfold bg;split
  · rfl
  · simp only[ng,Bool.and_eq_true] at h;exact h.1
  · simp only[lu,h,Bool.and_true];rcases hk with rfl|rfl<;>rfl
theorem uE:∀(s:By) (n:Nd),lu n=true->js (dL n s).1+2*(dL n s).2.length<=js n+2*s.length/\lu (dL n s).1=true
  | [],n,hw=>by simp[dL,hw]
  |c::r,n,hw=>by
    rw[dL];split
    · simp[hw]
    · rename_i hs;have hw':lu (.mk (ck c) 0 [n])=true:=by simp[lu,ng,hw]
      have h:=uE r (.mk (ck c) 0 [n]) hw';refine⟨?_,h.2⟩;have h1:=h.1;simp only[js,eR,List.length_cons] at h1 ⊢;omega
theorem CR {rows:By->Option (Nd×By)}(hr:∀s,Small s (rows s)){r:By}(h:fN rows s=some (x,r)):js x+2*r.length+1<=2*s.length/\lu x=true:=by
  have leaf:∀k st,(k=0\/k=1)->lu (.mk k st [])=true:=λk st hk=>by rcases hk with rfl|rfl<;>rfl
  have key:∀y t,cU rows s=some (y,t)->js y+2*t.length+1<=2*s.length/\lu y=true:=by
    intro y t ha;have hlen:∀(k st:Nat),y= .mk k st []->t.length<s.length->js y+2*t.length+1<=2*s.length:=λk st hy ht=>by subst hy;simp only[js,eR];omega
    unfold cU at ha;split at ha
    · cases ha
    · rename_i c u;split at ha
      · split at ha
        · cases ha
        · rename_i n t' ht;split at ha
          · rename_i t'' _;cases ha;have:=hr _ _ _ ht;simp only[List.length_cons] at this ⊢;exact⟨by omega,this.2⟩
          · cases ha
      · split at ha
        · have hb:=sX ha
          have hy:∃st,y= .mk 1 st []:=by
            unfold dw at ha;split at ha<;>(simp only[Option.map_eq_some_iff] at ha;obtain⟨⟨m,r'⟩,_,h2⟩:=ha;cases h2;exact⟨_,rfl⟩)
          obtain⟨st,rfl⟩:=hy;exact⟨hlen _ _ rfl (by simp only[List.length_cons];omega),leaf _ _ (.inr rfl)⟩
        · split at ha
          · cases ha;exact⟨hlen _ _ rfl (by simp),leaf _ _ (.inr rfl)⟩
          · split at ha
            · simp only[Option.map_eq_some_iff] at ha;obtain⟨⟨b,r'⟩,h1,h2⟩:=ha;have:=yf h1;cases h2;exact⟨hlen _ _ rfl (by simp only[List.length_cons];omega),leaf _ _ (.inr rfl)⟩
            · split at ha
              · cases ha
              · cases ha;exact⟨hlen _ _ rfl (by simp),leaf _ _ (.inr rfl)⟩
  unfold fN at h;simp only[Option.map_eq_some_iff] at h;obtain⟨⟨n,t⟩,h1,h2⟩:=h;have h3:=key n t h1;have h4:=uE t n h3.2;rw[h2] at h4;simp only at h4;exact⟨by omega,h4.2⟩
theorem oO {rows:By->Option (Nd×By)}(hr:∀s,Small s (rows s)):∀(n:Nat) (all row:List Nd) (s:By) (x:Nd) (r:By),ng all=true->ng row=true->fX rows n all row s=some (x,r) ->
    js x+2*r.length<=2*s.length+1+eR all+eR row+(if all=[] then 0 else 1)/\lu x=true
  | 0,_,_,_,_,_,_,_,h=>by cases h
  |n+1,all,row,s,x,r,hwa,hwr,h=>by
    rw[fX] at h;split at h
    · split at h
      · rename_i hbar;have hs:s.tail.length+1=s.length:=by cases s with|nil=>cases hbar|cons a b=>simp
        have hw':ng (all++[bg 2 row])=true:=by rw[mZ,hwa];simp[ng,AO (.inl rfl) hwr]
        have ih:=oO hr n _ _ _ _ _ hw' (by rfl) h;have hj:=AS 2 row;have ha:eR (all++[bg 2 row])=eR all+js (bg 2 row):=by rw[gD];simp[eR]
        rw[ha] at ih;refine⟨?_,ih.2⟩;have h1:=ih.1;rw[if_neg (by simp)] at h1;simp only[eR] at h1;omega
      · cases h;have hj:=AS 2 row;have hj3:=AS 3 (all++[bg 2 row]);have ha:eR (all++[bg 2 row])=eR all+js (bg 2 row):=by rw[gD];simp[eR]
        refine⟨?_,AO (.inr rfl) (by rw[mZ,hwa];simp[ng,AO (.inl rfl) hwr])⟩;split
        · rename_i he;subst he;have:bg 3 ([]++[bg 2 row])=bg 2 row:=rfl;rw[this];simp only[eR] at *;omega
        · rw[ha] at hj3;omega
    · split at h
      · cases h
      · rename_i y t ht;have h1:=CR hr ht;have ih:=oO hr n all (row++[y]) t x r hwa (by rw[mZ,hwr];simp[ng,h1.2]) h;have ha:eR (row++[y])=eR row+js y:=by rw[gD];simp[eR]
        rw[ha] at ih;exact⟨by have:=ih.1;omega,ih.2⟩
theorem uI:∀(d:Nat) (s:By),Small s (ct d s)
  | 0,s=>λx r h=>by cases h
  |d+1,s=>λx r h=>by
    have:=oO (λs=>uI d s) _ _ _ _ _ _ rfl rfl h;simpa [eR] using this
theorem Be (h:fO s=some x):js x<=2*s.length+1/\lu x=true:=by
  unfold fO at h;split at h
  · rename_i n I;cases h;have:=uI _ _ _ _ I;simpa using this
  · cases h
theorem Dp (I:l[i]? =some x) (ss:List bL) (to:Nat):bC (l.drop i) ss to=lay x (bC (l.drop (i+1)) ss to).1 (bC (l.drop (i+1)) ss to).2:=by
  obtain⟨hi,rfl⟩:=List.getElem?_eq_some_iff.1 I;rw[List.drop_eq_getElem_cons hi,bC]
theorem oX:∀(l:List Nd) (ss:List bL) (to:Nat),(aY l ss to).2.length=l.length
  | [],ss,to=>by simp[aY]
  |x::r,ss,to=>by rw[aY];simp[oX r]
end
mutual
theorem nH:∀(x:Nd) (ss:List bL) (to i:Nat),i<ss.length->(lay x ss to).1[i]? =ss[i]?
  |.mk k s kids,ss,to,i,hi=>by
    rw[lay];split
    · simp[List.getElem?_append_left hi]
    · split
      · exact xJ kids ss to i hi
      · split
        · have:=fP kids ss to;simp only;rw[List.getElem?_append_left (by omega)];exact rm kids ss to i hi
        · split
          · have:=gJ kids ss to;simp only;rw[List.getElem?_append_left (by omega)];exact rj kids ss to i hi
          · split
            · simp only;rw[List.getElem?_set_ne (by omega),rj kids (ss++[(⟨0,0,[],0⟩:bL)]) ss.length i (by simp;omega),List.getElem?_append_left hi]
            · rfl
theorem xJ:∀(l:List Nd) (ss:List bL) (to i:Nat),i<ss.length->(bC l ss to).1[i]? =ss[i]?
  | [],ss,to,i,hi=>by simp[bC]
  |x::r,ss,to,i,hi=>by
    rw[bC];have h1:=kH r ss to;rw[nH x _ _ i (by omega),xJ r ss to i hi]
theorem rm:∀(l:List Nd) (ss:List bL) (to i:Nat),i<ss.length->(aY l ss to).1[i]? =ss[i]?
  | [],ss,to,i,hi=>by simp[aY]
  |x::r,ss,to,i,hi=>by
    rw[aY];have h1:=gu x ss to;simp only;rw[rm r _ _ i (by omega),nH x ss to i hi]
theorem rj:∀(l:List Nd) (ss:List bL) (to i:Nat),i<ss.length->(cy l ss to).1[i]? =ss[i]?
  | [],ss,to,i,hi=>by simp[cy]
  |x::r,ss,to,i,hi=>by
    rw[cy];exact nH x ss to i hi
end
section
variable {l:List Nd}{s:By}{x:Nd}{i:Nat}
theorem Im (I:l[i]? =some x):eR (l.take i)+js x<=eR l:=by
  obtain⟨hi,rfl⟩:=List.getElem?_eq_some_iff.1 I;have h:eR (l.take i++l.drop i)=eR l:=by rw[List.take_append_drop]
  rw[gD,List.drop_eq_getElem_cons hi,eR] at h;omega
theorem Io (I:l[i]? =some x):eR (l.drop (i+1))+js x<=eR l:=by
  obtain⟨hi,rfl⟩:=List.getElem?_eq_some_iff.1 I;have h:eR (l.take i++l.drop i)=eR l:=by rw[List.take_append_drop]
  rw[gD,List.drop_eq_getElem_cons hi,eR] at h;omega
theorem vP:∀l:List Nd,l.length<=eR l
  | []=>by simp[eR]
  |x::l=>by have:=vP l;have:=jM x;simp only[List.length_cons,eR];omega
def uJ:List bL->List Bool->Nat
  |x::r,b::s=>(if b then 0 else x.to.length+1)+uJ r s
  |_,_=>0
def jI (ss:List bL):Nat->List Nat->List Bool->List Bool
  | 0,_,seen=>seen
  |n+1,todo,seen =>
    match todo.getLast? with
    |none=>seen
    |some i =>
      if seen[i]? =some true then jI ss n todo.dropLast seen
      else jI ss n (match ss[i]? with|some x=>if x.kind=0 then todo.dropLast++x.to else todo.dropLast|none=>todo.dropLast) (seen.set i true)
def closed (ss:List bL) (todo:List Nat):List Nat :=
  if todo.length=0 then []
  else ((List.range ss.length).filter λi=>(jI ss (todo.length+uJ ss (List.replicate ss.length false)) todo (List.replicate ss.length false))[i]? ==some true && (ss[i]?.map (·.kind)) !=some 0)
theorem Bc:∀(ss:List bL) (seen:List Bool) (i:Nat) (x:bL),ss[i]? =some x->seen[i]? =some false->uJ ss (seen.set i true)+(x.to.length+1)=uJ ss seen
  | [],_,_,_,h,_=>by simp at h
  |_::_,[],_,_,_,h=>by simp at h
  |y::r,b::s,0,x,h1,I=>by
    simp at h1 I;subst h1 I;simp[uJ];omega
  |y::r,b::s,i+1,x,h1,I=>by
    have:=Bc r s i x (by simpa using h1) (by simpa using I);simp only[List.set_cons_succ,uJ];omega
def Good (ss:List bL):Prop:=∀x∈ss,∀j∈x.to,j<ss.length
def cB (ss:List bL) (st:Nat):List Nat:=if ss.length=0 then [] else closed ss [st]
def tf (x:bL) (b:Int):Bool:=decide (x.kind=2/\(b<0\/(x.rule:Int)<b))
def tg (ss:List bL):List Nat->Int->Int
  | [],b=>b
  |j::r,b=>tg ss r (match ss[j]? with|some x=>if tf x b then x.rule else b|none=>b)
def bu (ss:List bL) (now:List Nat):Int:=if ss.length=0 then -1 else tg ss now (-1)
def j8 (x:bL) (c:UInt8):Bool:=decide (x.kind=1) && x.set.testBit c.toNat
def stepG (ss:List bL) (c:UInt8):List Nat->List Nat->List Nat
  | [],a=>a
  |j::r,a=>stepG ss c r (match ss[j]? with|some x=>if j8 x c then a++x.to else a|none=>a)
def cT (ss:List bL) (c:UInt8) (now:List Nat):List Nat:=if ss.length=0 then [] else closed ss (stepG ss c now [])
theorem tC (ss:List bL) (c:UInt8):∀(l a:List Nat),a.length<=(stepG ss c l a).length
  | [],a=>Nat.le_refl _
  |j::r,a=>by
    rw[stepG];refine Nat.le_trans ?_ (tC ss c r _);split
    · split<;>simp
    · exact Nat.le_refl _
def ku (ss:List bL):List UInt8->List Nat->Nat->Int×Int->Int×Int
  |l,now,k,b =>
    if now.length=0 then b
    else match l with
      | []=>if 0<=bu ss now then ((k:Int),bu ss now) else b
      |c::r=>ku ss r (cT ss c now) (k+1) (if 0<=bu ss now then ((k:Int),bu ss now) else b)
def dN (ss:List bL) (st:Nat) (l:List UInt8):Int×Int:=if ss.length=0 then (0,-1) else ku ss l (cB ss st) 0 (0,-1)
def xj (ss:List bL) (st:Nat) (s:By) (a:Int):Int×Int:=if ss.length=0\/a<0\/(s.length:Int)<a then (0,-1) else dN ss st (s.drop a.toNat)
theorem xh {ss:List bL}{l:List UInt8}{now:List Nat}{k:Nat}{b:Int×Int}(h:now.length=0):ku ss l now k b=b:=by cases l<;>(rw[ku];exact if_pos h)
theorem Ep (ss:List bL) (st:Nat):(cB ss st).Sublist (List.range ss.length):=by
  unfold cB closed;split
  · exact List.nil_sublist _
  · split
    · exact List.nil_sublist _
    · exact List.filter_sublist
theorem Gy (ss:List bL) (c:UInt8) (now:List Nat):(cT ss c now).Sublist (List.range ss.length):=by
  unfold cT closed;split
  · exact List.nil_sublist _
  · split
    · exact List.nil_sublist _
    · exact List.filter_sublist
def jG:Nat->List By->List bL->List Nat->Int ⊕ (List bL×List Nat)
  |_,[],ss,t=>.inr (ss,t)
  |i,s::r,ss,t=>if (aU s).2≠0 then .inl (aU s).2 else jG (i+1) r (lay (aU s).1 (ss++[⟨2,0,[],i⟩]) ss.length).1 (t++[(lay (aU s).1 (ss++[⟨2,0,[],i⟩]) ss.length).2])
def ni (l:List By):Nat:=(l.map List.length).sum
def eo (rules:List By):Int ⊕ (List bL×Nat) :=
  if rules.length=0\/64<rules.length then .inl 2
  else match jG 0 rules [] [] with
    |.inl e=>.inl e
    |.inr (ss,t)=>if 2000<ni rules then .inl 70 else .inr (ss++[⟨0,0,t,0⟩],ss.length)
theorem ig (h0:(aU s).2=0):js (aU s).1<=401/\lu (aU s).1=true/\s.length<=200:=by
  unfold aU at *;split at h0
  · cases h0
  · rename_i hl;rw[if_neg hl];split at h0
    · rename_i x hx;have:=Be hx;exact⟨by show js x<=401;omega,this.2,by omega⟩
    · cases h0
theorem tw {l:List By}(I:l[i]? =some s):ni (l.take (i+1))=ni (l.take i)+s.length:=by
  rw[List.take_add_one,I,Option.toList_some];simp[ni]
end
end Go.Proofs.YtnjahnbpnpkmhaaGreatDoor

/- What the proof of the statement leans on (part 13). -/
import Derived.Recover
import Derived.Test.YtedocgkapmeceaaGreatDoorQl

namespace Go.Lw
open Go.RowKit
section
variable {D:List Deferred}{n d:Nat}{ρ:Env}{a:Act}{P:Program}{o:Oper}{Φ:Value→aD→Prop}{w:World}{v:Value}{g:FuncId}{fn:Func}
structure lU (D:List Deferred) (n:Nat) (ρ:Env) (a:Act):Prop where
 size:a.tmps.size=n
 ok:∀i v,ρ.at i=some v→a.tmps[i]? =some v
 nd:a.defers=D
theorem lU.zero (f:lU D n ρ a):Fits n ρ { a with defers:=[] }:=⟨f.size,f.ok,rfl⟩
theorem lU.put {D:List Deferred}{n:Nat}{ρ:Env}{a:Act}(f:lU D n ρ a){dst:Option Nat}(hd:ji n dst=true) (v:Value):lU D n (ρ.put dst v) (a.put dst v):=by
 have h:=f.zero.put hd v;cases dst with
 |none=>exact⟨h.size,h.ok,f.nd⟩
 |some d=>exact⟨h.size,h.ok,f.nd⟩
theorem lU.sub {ρ':Env}(f:lU D n ρ a) (h:Sub ρ' ρ):lU D n ρ' a:=⟨f.size,fun i v hi=>f.ok i v (h.at i v hi),f.nd⟩
theorem aC.MD {h:aD}{X:List PanicEntry→aD→Prop}(k:aC P o ρ h Φ X){B:World}(hf:lU D n ρ a) (ha:At B h w)
 {next:Act→World→Prop}{Q:Exit→Act→World→Prop}(hn:∀v h' w',At B h' w'→Φ v h'→next (a.put o.dst v) w') (hx:∀ch h' w',At B h' w'→X ch h'→Q (.panic ch) a w'):o.wp P a w next Q:=by
 have hput:∀v,({ (({ a with defers:=[] }:Act).put o.dst v) with defers:=a.defers }:Act)=a.put o.dst v:=fun v=>by cases hd:o.dst<;>simp[Act.put]
 have hput0:∀v,(({ a with defers:=[] }:Act).put o.dst v).defers=[]:=fun v=>by cases hd:o.dst<;>simp[Act.put]
 have h0:=k n B { a with defers:=[] } w hf.zero ha (fun a' w'=>a'.defers=[]∧next { a' with defers:=a.defers } w')
  (fun e a' w'=>match e with|.panic ch=>Q (.panic ch) { a' with defers:=a.defers } w'|_=>False)
  (fun v h' w' ha' hv=>⟨hput0 v,by rw[hput v];exact hn v h' w' ha' hv⟩) (fun ch h' w' ha' hv=>hx ch h' w' ha' hv)
 unfold Oper.wp at *;have he:execOp ({ a with defers:=[] }:Act).eval o=execOp a.eval o:=rfl;rw[he] at h0;generalize (execOp a.eval o).run P w=r at *;cases r with
 |ok x w' =>
  cases x<;>simp only[Oper.upon] at h0 ⊢
  case value v=>have:=h0.2;rwa [hput v] at this
  case skip=>have:=h0.2;rwa [hput undef] at this
  case defer d=>have:=h0.1;cases hd:o.dst<;>simp[Act.put,hd] at this
  case enter g args =>
   refine h0.mono fun e w'' hr=>?_
   cases e with
   |returned v=>have:=hr.2;rwa [hput v] at this
   |panicked c=>exact hr
   |outgrown=>obtain⟨a₁,w₁,h3⟩:=hr;exact h3.elim
  case row row args=>exact h0.mono fun v w'' hr=>by have:=hr.2;rwa [hput v] at this
 |halt x w'=>cases x<;>simp only[Oper.upon] at h0 ⊢;exact h0
def jt (P:Program) (D:List Deferred) (n:Nat) (ops:Array Oper) (i:Nat) (ρ:Env) (h:aD) (N:Env→aD→Prop) (X:List PanicEntry→Env→aD→Prop):Prop :=
 ∀B a w,lU D n ρ a→At B h w→∀Q:Exit→Act→World→Prop,(∀ρ' h' a' w',lU D n ρ' a'→At B h' w'→N ρ' h'→Q .normal a' w') →
  (∀ch ρ' h' a' w',lU D n ρ' a'→At B h' w'→X ch ρ' h'→Q (.panic ch) a' w')→wpOps P ops Q ((List.range ops.size).drop i) a w
section
variable {P:Program}{D:List Deferred}{n:Nat}{ops:Array Oper}{i:Nat}{ρ:Env}{h:aD}{N:Env→aD→Prop}{X:List PanicEntry→Env→aD→Prop}
theorem jt.op (ho':nth ops.toList i=some o) (hg:o.guard=none){od:Option Nat}(hod:o.dst=od) (hd:ji n od=true) (k:aC P o ρ h Φ (fun ch h'=>X ch ρ h'))
 (next:∀v h',Φ v h'→jt P D n ops (i+1) (ρ.put od v) h' N X):jt P D n ops i ρ h N X:=by
 subst hod;have ho:=fF ho';intro B a w hf ha Q hN hX;rw[iW (kG ho)];simp only[wpOps,ho];have hw:Region.wanted o (yielded ops a.tmps)=true:=by unfold Region.wanted;rw[hg]
 rw[hw,if_pos rfl];refine .inl (k.MD hf ha (fun v h' w' ha' hv=>?_) (fun ch h' w' ha' hx=>hX ch ρ h' a w' hf ha' hx));exact next v h' hv B _ w' (hf.put hd v) ha' Q hN hX
theorem jt.EK (ho:nth ops.toList i=some o) (hg:o.guard=none) (hod:o.dst=some d) (hd:Nat.blt d n=true) (k:aC P o ρ h Φ (fun ch h'=>X ch ρ h'))
 (next:∀v h',Φ v h'→jt P D n ops (i+1) ((d,v)::ρ) h' N X):jt P D n ops i ρ h N X:=jt.op ho hg hod hd k next
theorem jt.bZ (ho:nth ops.toList i=some o) (hg:o.guard=none) (hod:o.dst=none) (k:aC P o ρ h Φ (fun ch h'=>X ch ρ h'))
 (next:∀v h',Φ v h'→jt P D n ops (i+1) ρ h' N X):jt P D n ops i ρ h N X:=jt.op ho hg hod rfl k next
theorem jt.au (ho:nth ops.toList i=some o) (hg:o.guard=none) (hod:o.dst=some d) (hd:Nat.blt d n=true) (k:aj P o ρ h v)
 (next:jt P D n ops (i+1) ((d,v)::ρ) h N X):jt P D n ops i ρ h N X:=jt.EK ho hg hod hd k.bw (fun _ _ ⟨hv,hh⟩=>by subst hv;subst hh;exact next)
theorem kQ (hi:Nat.ble ops.size i=true) (next:N ρ h):jt P D n ops i ρ h N X:=by
 intro B a w hf ha Q hN _;have:ops.size≤i:=Nat.le_of_ble_eq_true hi;rw[List.drop_eq_nil_of_le (by simpa using this)];exact hN ρ h a w hf ha next
end
def GD (P:Program) (D:List Deferred) (f:FuncId) (fn:Func) (k:List It) (ρ:Env) (h:aD) (R:Ending→aD→Prop):Prop :=
 ∀B a w,lU D fn.ntmps ρ a→At B h w→∀b:Frame,b.fn=f→b.kind= .normal→∀cs,∃e w' fr h',At B h' w'∧R e h' ∧
  Comes P (lone (b.at a (k.map (bh (aM fn)))) cs w) (lone fr cs w') e∧fr.fn=f∧fr.leaving P w' e
def nM (P:Program) (fn:Func) (D:List Deferred) (u:FrameMode) (ρ:Env) (h:aD) (R:Ending→aD→Prop):Prop :=
 ∀B a w,lU D fn.ntmps ρ a→At B h w→Leaves P fn a.tmps (lift B R) D u w
section
variable {P:Program}{D:List Deferred}{f:FuncId}{fn:Func}{k:List It}{ρ:Env}{h:aD}{R:Ending→aD→Prop}{p:List Nat}
theorem zo {k':List It}(hs:∀(b:Frame) (a:Act) cs w,Go.step P (lone (b.at a (k.map (bh (aM fn)))) cs w)= .next (lone (b.at a (k'.map (bh (aM fn)))) cs w))
 (next:GD P D f fn k' ρ h R):GD P D f fn k ρ h R:=by
 intro B a w hf ha b hb hk cs;obtain⟨e,w',fr,h',h1,h2,h3,h4,h5⟩:=next B a w hf ha b hb hk cs
 exact⟨e,w',fr,h',h1,h2,.of_steps (.one (hs b a cs w)) h3,h4,h5⟩
theorem HV (hk:kind (sub (aM fn) p)=0) (next:GD P D f fn k ρ h R):GD P D f fn (.code p::k) ρ h R:=by
 refine zo (fun b a cs w=>?_) next
 simp only[List.map_cons,bh];cases hc:sub (aM fn) p<;>simp[hc,kind] at hk
 · exact step_skip
 · rename_i d;cases d<;>simp at hk
theorem pF (hk:kind (sub (aM fn) p)=1) (next:GD P D f fn (.code (0::p):: .code (1::p)::k) ρ h R):GD P D f fn (.code p::k) ρ h R:=by
 refine zo (fun b a cs w=>?_) next
 simp only[List.map_cons,bh,sub];cases hc:sub (aM fn) p<;>simp[hc,kind] at hk
 · rename_i d;cases d<;>simp at hk
 · exact step_seq
theorem GD.sub {ρ':Env}(hs:Sub ρ' ρ) (next:GD P D f fn k ρ' h R):GD P D f fn k ρ h R :=
 fun B a w hf ha=>next B a w (hf.sub hs) ha
theorem HW {t:Bool}(hk:kind (Lw.sub (aM fn) p)=7) (hc:bW ρ (yY (Lw.sub (aM fn) p))=some (.bool t))
 (ht:t=true→GD P D f fn (.code (0::p)::k) ρ h R) (hn:t=false→GD P D f fn (.code (1::p)::k) ρ h R):GD P D f fn (.code p::k) ρ h R:=by
 intro B a w hf ha b hb hkk cs
 have hstep:Go.step P (lone (b.at a ((It.code p::k).map (bh (aM fn)))) cs w)= .next (lone (b.at a ((It.code ((if t then 0 else 1)::p)::k).map (bh (aM fn)))) cs w):=by
  simp only[List.map_cons,bh,Lw.sub];cases hcc:Lw.sub (aM fn) p<;>simp[hcc,kind] at hk
  · rename_i d;cases d<;>simp at hk
  · rw[hcc] at hc;refine(step_cond (P:=P) (b:=b) (a:=a) (k:=k.map (bh (aM fn))) (cs:=cs) (w:=w) (hf.zero.eval hc)).trans ?_;cases t<;>rfl
 cases t with
 |true =>
  obtain⟨e,w',fr,h',h1,h2,h3,h4,h5⟩:=ht rfl B a w hf ha b hb hkk cs;exact⟨e,w',fr,h',h1,h2,.of_steps (.one hstep) h3,h4,h5⟩
 |false =>
  obtain⟨e,w',fr,h',h1,h2,h3,h4,h5⟩:=hn rfl B a w hf ha b hb hkk cs;exact⟨e,w',fr,h',h1,h2,.of_steps (.one hstep) h3,h4,h5⟩
theorem Jr {φ:Prop}[Decidable φ] (hk:kind (Lw.sub (aM fn) p)=7) (hc:bW ρ (yY (Lw.sub (aM fn) p))=some (.bool (decide φ)))
 (ht:φ→GD P D f fn (.code (0::p)::k) ρ h R) (hn:¬φ→GD P D f fn (.code (1::p)::k) ρ h R):GD P D f fn (.code p::k) ρ h R :=
 HW hk hc (fun e=>ht (of_decide_eq_true e)) (fun e=>hn (of_decide_eq_false e))
theorem uG {u:FrameMode}{B:World}(hfn:P.funcs[f]? =some fn) (hf:lU D fn.ntmps ρ a) (ha:At B h w) (hL:nM P fn D u ρ h R) (b:Frame) (hb:b.fn=f) (hk:b.kind= .normal) (cs:List Frame) (todo:List Item) :
 ∃e w' fr h',At B h' w'∧R e h'∧Comes P (lone { b.at a todo with mode:=u } cs w) (lone fr cs w') e∧fr.fn=f∧fr.leaving P w' e:=by
 obtain⟨e,w',fr,⟨h',h1,h2⟩,h3,h4,h5⟩:=leaves_steps (P:=P) (fn:=fn) (tmps:=a.tmps) (R:=lift B R) D u w { b.at a todo with mode:=u } cs rfl hf.nd rfl (by rw[show ({ b.at a todo with mode:=u }:Frame).fn=f from hb];exact hfn) hk (hL B a w hf ha);exact⟨e,w',fr,h',h1,h2,h3,h4.trans hb,h5⟩
theorem GD.bT (hfn:P.funcs[f]? =some fn) (hk:kind (Lw.sub (aM fn) p)=5)
 (next:jt P D fn.ntmps (opsOf (Lw.sub (aM fn) p)) 0 ρ h (fun ρ' h'=>GD P D f fn k ρ' h' R) (fun ch ρ' h'=>nM P fn D (.panicking ch) ρ' h' R)):GD P D f fn (.code p::k) ρ h R:=by
 intro B a w hf ha b hb hkk cs;cases hc:Lw.sub (aM fn) p<;>simp[hc,kind] at hk;rename_i id ops d;cases d<;>simp at hk;rw[hc] at next
 let Q:Exit→Act→World→Prop:=fun e a' w'=>match e with
  |.normal=>∃ρ' h',lU D fn.ntmps ρ' a'∧At B h' w'∧GD P D f fn k ρ' h' R
  |.panic ch=>∃ρ' h',lU D fn.ntmps ρ' a'∧At B h' w'∧nM P fn D (.panicking ch) ρ' h' R
  |_=>False
 have hw:(Code.region id ops false).wp P Q a w:=wp_region (by
  have:=next B a w hf ha Q (fun ρ' h' a' w' f' a'' hn=>⟨ρ',h',f',a'',hn⟩) (fun ch ρ' h' a' w' f' a'' hx=>⟨ρ',h',f',a'',hx⟩)
  simpa [opsOf] using this)
 obtain⟨e,a',w',hq,harr⟩:=hw b (k.map (bh (aM fn))) cs;have hit:(It.code p::k).map (bh (aM fn))=Item.code (Code.region id ops false)::k.map (bh (aM fn)):=by simp[bh,hc]
 rw[hit];cases e with
 |normal =>
  obtain⟨ρ',h',f',a'',hg⟩:=hq;obtain⟨e,w'',fr,h'',h1,h2,h3,h4,h5⟩:=hg B a' w' f' a'' b hb hkk cs;exact⟨e,w'',fr,h'',h1,h2,.of_steps harr h3,h4,h5⟩
 |panic ch =>
  obtain⟨ρ',h',f',a'',hl⟩:=hq;obtain⟨todo,hs⟩:=harr;obtain⟨e,w'',fr,h'',h1,h2,h3,h4,h5⟩:=uG hfn f' a'' hl b hb hkk cs todo
  exact⟨e,w'',fr,h'',h1,h2,.of_steps hs h3,h4,h5⟩
 |exit id=>exact hq.elim
 |goto l=>exact hq.elim
 |ret=>exact hq.elim
 |outgrown=>exact hq.elim
theorem GD.ret (hfn:P.funcs[f]? =some fn) (hk:kind (Lw.sub (aM fn) p)=4) (hL:nM P fn D .returning ρ h R):GD P D f fn (.code p::k) ρ h R:=by
 intro B a w hf ha b hb hkk cs
 have hstep:Go.step P (lone (b.at a ((It.code p::k).map (bh (aM fn)))) cs w)= .next (lone { b.at a ((It.code p::k).map (bh (aM fn))) with mode:=.returning } cs w):=by
  simp only[List.map_cons,bh];cases hc:Lw.sub (aM fn) p<;>simp[hc,kind] at hk
  · rename_i d;cases d<;>simp at hk
  · exact step_ret
 obtain⟨e,w'',fr,h'',h1,h2,h3,h4,h5⟩:=uG hfn hf ha hL b hb hkk cs ((It.code p::k).map (bh (aM fn)));exact⟨e,w'',fr,h'',h1,h2,.of_steps (.one hstep) h3,h4,h5⟩
theorem G.Jg {o1 o2:Oper}{caps:List Value}{xs:Array Operand}(_hfn:P.funcs[f]? =some fn) (hk:kind (Lw.sub (aM fn) p)=5) (hops:opsOf (Lw.sub (aM fn) p)= #[o1,o2])
 (h1:o1.op= .makeFunc (.func g) #[] xs) (hg1:o1.guard=none) (hd1:o1.dst=some d) (hdn:Nat.blt d fn.ntmps=true) (hx:xs.toList.map (bW ρ)=caps.map some)
 (hnd:ρ.at d=none) (h2:o2.op= .defer ⟨.value (.tmp d),#[],#[]⟩) (hg2:o2.guard=none) (hd2:o2.dst=none)
 (next:GD P [{ target:=.fn (.func g) caps.toArray,args:= #[] }] f fn k ρ h R):G P f fn (.code p::k) ρ h R:=by
 intro B a w hf ha b hb hkk cs;cases hc:Lw.sub (aM fn) p<;>simp[hc,kind] at hk;rename_i id ops dr;cases dr<;>simp at hk;rw[hc] at hops;have hops':ops= #[o1,o2]:=hops;subst hops'
 let D:List Deferred:=[{ target:=.fn (.func g) caps.toArray,args:= #[] }]
 let Q:Exit→Act→World→Prop:=fun e a' w'=>match e with
  |.normal=>lU D fn.ntmps ρ a'∧At B h w'
  |_=>False
 have hargs:xs.map a.eval=caps.toArray:=by
  apply Array.ext'
  simp only[Array.toList_map]
  have key:∀(l:List Operand) (us:List Value),l.map (bW ρ)=us.map some→l.map a.eval=us:=by
   intro l
   induction l with
   |nil=>intro us hu;cases us<;>simp_all
   |cons x r ih =>
    intro us hu;cases us with
    |nil=>simp at hu
    |cons u us =>
     simp only[List.map_cons,List.cons.injEq] at hu ⊢;exact⟨hf.eval hu.1,ih us hu.2⟩
  exact key _ _ hx
 have hlt:d<a.tmps.size:=by rw[hf.size];exact Nat.blt_eq.mp hdn
 have hget:∀v,(a.tmps.setIfInBounds d v).getD d undef=v:=fun v=>by
  rw[Array.getD_eq_getD_getElem?,Array.getElem?_setIfInBounds_self_of_lt hlt];rfl
 have hw:(Code.region id #[o1,o2] false).wp P Q a w:=wp_region (by
  show wpOps P #[o1,o2] Q [0,1] a w
  simp only[wpOps,List.getElem?_toArray,List.getElem?_cons_zero,List.getElem?_cons_succ];rw[show Region.wanted o1 (yielded #[o1,o2] a.tmps)=true by unfold Region.wanted;rw[hg1],if_pos rfl];refine .inl ?_;unfold Oper.wp;rw[show (execOp a.eval o1).run P w= .ok (.value (.func (.func g) #[] caps.toArray)) w by simp[execOp,h1,Instr.makeFunc,hargs]];simp only[Oper.upon,hd1,Act.put];rw[show ∀t,Region.wanted o2 (yielded #[o1,o2] t)=true from fun t=>by unfold Region.wanted;rw[hg2],if_pos rfl];refine .inl ?_
  try unfold Oper.wp
  rw[show (execOp (Act.eval { a with tmps:=a.tmps.setIfInBounds d (.func (.func g) #[] caps.toArray) }) o2).run P w= .ok (.defer { target:=.fn (.func g) caps.toArray,args:= #[] }) w by
   simp[execOp,h2,resolve,Act.eval,hget,Deferred.ofValue]]
  simp only[hd2];have hput:=hf.put (dst:=some d) hdn (.func (.func g) #[] caps.toArray)
  exact⟨⟨hput.size,fun i v hi=>by
   by_cases e:d=i
   · subst e;rw[hnd] at hi;cases hi
   · have:=hf.ok i v hi;rw[Array.getElem?_setIfInBounds_ne e];exact this,by rw[hf.nd]⟩,ha⟩)
 obtain⟨e,a',w',hq,harr⟩:=hw b (k.map (bh (aM fn))) cs;have hit:(It.code p::k).map (bh (aM fn))=Item.code (Code.region id #[o1,o2] false)::k.map (bh (aM fn)):=by simp[bh,hc]
 rw[hit];cases e with
 |normal =>
  obtain⟨f',a''⟩:=hq;obtain⟨e,w'',fr,h'',h1,h2,h3,h4,h5⟩:=next B a' w' f' a'' b hb hkk cs
  exact⟨e,w'',fr,h'',h1,h2,.of_steps harr h3,h4,h5⟩
 |panic ch=>exact hq.elim
 |exit id=>exact hq.elim
 |goto l=>exact hq.elim
 |ret=>exact hq.elim
 |outgrown=>exact hq.elim
end
theorem Cj (vs:List Value) (hle:vs.length≤fn.ntmps):Fits fn.ntmps (nq 0 vs) { tmps:=vs.toArray++Array.replicate (fn.ntmps-vs.toArray.size) undef,defers:=[] }:=by
 refine⟨by simp;omega,fun i v hi=>?_,rfl⟩;obtain⟨_,h2⟩:=rJ vs 0 i v hi
 have hlt:i<vs.length:=by
  rcases Nat.lt_or_ge i vs.length with hl|hl
  · exact hl
  · simp[List.getElem?_eq_none hl] at h2
 rw[Array.getElem?_append_left (by simpa using hlt)];simpa using h2
theorem ng {vs:List Value}{id:Nat}{o1 o2:Oper}{rest:Code}{u u':FrameMode}{d1 d2:Nat}{ts:Array TypeId}{R:Ending→FrameMode→World→Prop}
 (hfn:P.funcs[g]? =some fn) (hb:fn.body=some (.seq (.region id #[o1,o2] false) rest)) (hn:Nat.ble vs.length fn.ntmps=true)
 (h1:o1.op= .call ⟨.builtin .recover,#[],ts⟩) (hg1:o1.guard=none) (hd1:o1.dst=some d1) (hl1:Nat.blt d1 fn.ntmps=true)
 (h2:o2.op= .assign (.tmp d1)) (hg2:o2.guard=none) (hd2:o2.dst=some d2) (hl2:Nat.blt d2 fn.ntmps=true)
 (hrec:∀(c₀ : Frame) (cs:List Frame),c₀.mode=u→recoverD (c₀::cs)=some (v,{ c₀ with mode:=u' }::cs)∨(recoverD (c₀::cs)=none∧v= .nilIface∧u'=u))
 (hw:∀a,Fits fn.ntmps ((d2,v)::(d1,v)::nq 0 vs) a→rest.wp P (fun e a' w'=>match e with
  |.normal|.ret=>a'.defers=[]∧∃r,(results fn a'.tmps).run P w'= .ok r w'∧R (.returned r) u' w'
  |_=>False) a w):CallsD P g vs.toArray u w R:=by
 refine callsD_of_wpS hfn hb fun c₀ cs hu=>?_
 have hf0:=Cj (fn:=fn) vs (Nat.le_of_ble_eq_true hn);generalize ({ tmps:=vs.toArray++Array.replicate (fn.ntmps-vs.toArray.size) undef,defers:=[] }:Act)=a0 at hf0;refine wpS_seq (wpS_region ?_)
 show wpOpsS P #[o1,o2] _ [0,1] a0 (c₀::cs) w
 simp only[wpOpsS,List.getElem?_toArray,List.getElem?_cons_zero,List.getElem?_cons_succ];rw[show Region.wanted o1 (yielded #[o1,o2] a0.tmps)=true by unfold Region.wanted;rw[hg1],if_pos rfl];rw[show (execOp a0.eval o1).run P w= .ok .recover w by simp[execOp,h1,resolve,invoke,builtin]];have hf1:=hf0.put (dst:=some d1) hl1 v;have hf2:=hf1.put (dst:=some d2) hl2 v;have hwf:=hw _ hf2
 have hrun:(execOp (a0.put (some d1) v).eval o2).run P w= .ok (.value v) w:=by
  have he:(a0.put (some d1) v).eval (.tmp d1)=v:=hf1.eval (x:=.tmp d1) (by simp[bW,Env.put,Env.lM]);simp[execOp,h2,he]
 have fin:∀(cs':List Frame),cs'= { c₀ with mode:=u' }::cs→rest.wpS P (bodyPostS P fn c₀ cs R) ((a0.put (some d1) v).put (some d2) v) cs' w:=by
  intro cs' hcs;refine wpS_of_wp ?_;intro b k cs2;obtain⟨e,a',w',hq,harr⟩:=hwf b k cs2;refine⟨e,a',w',?_,harr⟩;cases e with
  |normal=>obtain⟨q1,r,q2,q3⟩:=hq;exact⟨q1,u',hcs,r,q2,q3⟩
  |ret=>obtain⟨q1,r,q2,q3⟩:=hq;exact⟨q1,u',hcs,r,q2,q3⟩
  |panic ch=>exact hq.elim
  |exit id=>exact hq.elim
  |goto l=>exact hq.elim
  |outgrown=>exact hq.elim
 rcases hrec c₀ cs hu with hr|⟨hr,rfl,rfl⟩
 · simp only[hr,hd1];rw[show ∀t,Region.wanted o2 (yielded #[o1,o2] t)=true from fun t=>by unfold Region.wanted;rw[hg2],if_pos rfl];rw[hrun];simp only[Oper.upon,hd2];exact fin _ rfl
 · simp only[hr,hd1];rw[show ∀t,Region.wanted o2 (yielded #[o1,o2] t)=true from fun t=>by unfold Region.wanted;rw[hg2],if_pos rfl];rw[hrun];simp only[Oper.upon,hd2];refine fin _ ?_;cases c₀;simp only at hu;subst hu;rfl
theorem nZ {caps:Array Value}(hfn:P.funcs[g]? =some fn) (hb:fn.body.isSome=true) (hnm:(fn.name == "runtime.NumGoroutine")=false):(invoke (.fn (.func g) caps) #[]).run P w= .ok (.enter g caps) w:=by
 have hb':fn.body≠none:=by intro hbb;simp[hbb] at hb
 have hnm':¬fn.name= "runtime.NumGoroutine" :=by simpa using hnm
 simp[invoke,callFunc,hfn,hnm',hb']
theorem aj.wg {h:aD}{dst:Option Nat}{ty:TypeId}{pos:String}{after:Array Edge}{guard:Option (Nat×Bool)}{t xt:TypeId}{fs:Array Field}{x:Operand}(hu:P.underlying t=some (.struct fs)) (hx:bW ρ x=some (.iface t v)) :
 aj P ⟨dst,.typeAssert x xt t false,ty,pos,after,guard⟩ ρ h v:=by
 intro n B a w hf ha;simp[execOp,Instr.typeAssert,run_underlying hu,hf.eval hx]
end
end Go.Lw
namespace Go.Proofs.YtedocgkapmeceaaGreatDoor
open Go.Proofs.Tryz
open Go Go.Lw Go.RowKit
set_option maxRecDepth 20000
section
variable {h:aD}{nb eb:Nat}
abbrev wF:List Value:=dW 0 0 (.slice none 0 0)
theorem Cq {cs:List Value}{v0:Value}(hcs:cs.length=6) (hk:bq h nb 126 cs) (he:bq h eb 29 [v0]) (hne:nb≠eb) (B w:World) (ha:At B h w) :
 CallsD Tryz.prog 109 #[.pointer (some ⟨nb,0,none⟩),.pointer (some ⟨eb,0,none⟩)] (.panicking [{ v:=ug,recovered:=false }]) w fun e u' w' =>
  (∃r,e= .returned r)∧u'= .panicking [{ v:=ug,recovered:=true }]∧∃h',At B h' w'∧bq h' nb 126 wF∧bq h' eb 29 [.int .i64 10]∧Ext (fun b=>b=nb∨b=eb) h h':=by
 refine ng (v:=ug) (vs:=[.pointer (some ⟨nb,0,none⟩),.pointer (some ⟨eb,0,none⟩)]) (u':=.panicking [{ v:=ug,recovered:=true }]) func109 rfl rfl rfl rfl rfl rfl rfl rfl rfl rfl (fun c₀ cs hu=>.inl (by simp[recoverD,hu])) (fun a hf=>?_);refine wp_seq (wp_region ?_);refine(show RW Tryz.prog Tryz.f109.ntmps _ 0 _ h (fun ρ' h'=>h'=h∧Sub [(5,.bool true),(2,ug),(0,.pointer (some ⟨nb,0,none⟩)),(1,.pointer (some ⟨eb,0,none⟩))] ρ') (fun _ _=>False) from ?_) B a w hf ha _ ?_ (fun _ _ _ _ _ _ k=>k.elim)
 · refine bP 1 rfl rfl (aj.Az underlying20 rfl (.inr ⟨_,_,rfl⟩)) ?_;exact az rfl ⟨rfl,rfl,rfl,rfl,rfl,trivial⟩
 rintro ρ' h' a1 w1 hf1 ha1 ⟨rfl,hsub⟩;have hf1:=hf1.sub hsub;refine wp_cond_true (hf1.eval (x:=.tmp 5) rfl) ?_;refine wp_seq (wp_region ?_);refine(show RW Tryz.prog Tryz.f109.ntmps _ 0 _ h' (fun ρ' g=>g=h'∧Sub [(0,.pointer (some ⟨nb,0,none⟩)),(1,.pointer (some ⟨eb,0,none⟩))] ρ') (fun _ _=>False) from ?_) B a1 w1 hf1 ha1 _ ?_ (fun _ _ _ _ _ _ k=>k.elim)
 · refine bP 1 rfl rfl (aj.wg underlying189 rfl) ?_;exact az rfl ⟨rfl,rfl,rfl,trivial⟩
 rintro ρ'' h'' a2 w2 hf2 ha2 ⟨rfl,hsub2⟩;have hf2:=hf2.sub hsub2;refine wp_region ?_;refine(show RW Tryz.prog Tryz.f109.ntmps _ 0 _ h'' (fun _ g=>bq g nb 126 wF∧bq g eb 29 [.int .i64 10]∧Ext (fun b=>b=nb∨b=eb) h'' g) (fun _ _=>False) from ?_) B a2 w2 hf2 ha2 _ ?_ (fun _ _ _ _ _ _ k=>k.elim)
 · refine xp rfl (aP (H.Cv ) rfl) ?_;refine RW.bZ rfl rfl rfl (aC.aB H.cv rfl rfl hk rfl (by rw[hcs];decide) (by first|decide|simp[Value.oneCell'])) ?_;rintro _ h3 ⟨rfl,hk3,hx3,hz3⟩
   have hk3:bq h3 nb 126 wF:=by
    rw[Fw (by rw[hcs];rfl)] at hk3;exact hk3
   refine RW.bZ rfl rfl rfl (aC.bF H.IU rfl rfl (he.ext hx3 (fun e=>hne e.symm)) (by simp) rfl) ?_;rintro _ h4 ⟨rfl,hk4,hx4,hz4⟩;exact az rfl ⟨hk3.ext hx4 (fun e=>hne e),hk4,(hx3.mono fun _ _ k=>.inl k).trans (hx4.mono fun _ _ k=>.inr k)⟩
 rintro _ h5 a5 w5 hf5 ha5 ⟨hq1,hq2,hq3⟩;exact⟨hf5.nd,_,iq hf5 ha5 .nil,⟨_,rfl⟩,rfl,h5,ha5,hq1,hq2,hq3⟩
theorem Cr (B w:World) (ha:At B h w) :
 CallsD Tryz.prog 109 #[.pointer (some ⟨nb,0,none⟩),.pointer (some ⟨eb,0,none⟩)] .returning w fun e u' w'=>(∃r,e= .returned r)∧u'= .returning∧At B h w':=by
 refine ng (v:=.nilIface) (vs:=[.pointer (some ⟨nb,0,none⟩),.pointer (some ⟨eb,0,none⟩)]) (u':=.returning) func109 rfl rfl rfl rfl rfl rfl rfl rfl rfl rfl (fun c₀ cs hu=>.inr ⟨by simp[recoverD,hu],rfl,rfl⟩) (fun a hf=>?_);refine wp_seq (wp_region ?_);refine(show RW Tryz.prog Tryz.f109.ntmps _ 0 _ h (fun ρ' h'=>h'=h∧Sub [(5,.bool false)] ρ') (fun _ _=>False) from ?_) B a w hf ha _ ?_ (fun _ _ _ _ _ _ k=>k.elim)
 · refine bP 1 rfl rfl (aj.Az underlying20 rfl (.inl rfl)) ?_;exact az rfl ⟨rfl,rfl,trivial⟩
 rintro ρ' h' a1 w1 hf1 ha1 ⟨rfl,hsub⟩;have hf1:=hf1.sub hsub;refine wp_cond_false (hf1.eval (x:=.tmp 5) rfl) (wp_skip ?_);exact⟨hf1.nd,_,iq hf1 ha1 .nil,⟨_,rfl⟩,rfl,ha1⟩
theorem uF {cs:List Value}{v0:Value}{ρ:Env}{R:Ending→aD→Prop}(h2:ρ.at 2=some (.pointer (some ⟨nb,0,none⟩))) (h3:ρ.at 3=some (.pointer (some ⟨eb,0,none⟩))) (hcs:cs.length=6) (hk:bq h nb 126 cs) (he:bq h eb 29 [v0]) (hne:nb≠eb)
 (hR:∀h',Ext (fun b=>b=nb∨b=eb) h h'→R (.returned (.tuple #[.agg wF.toArray,.int .i64 10])) h') :
 nM Tryz.prog f62 [{ target:=.fn (.func 109) #[.pointer (some ⟨nb,0,none⟩),.pointer (some ⟨eb,0,none⟩)],args:= #[] }] (.panicking [{ v:=ug,recovered:=false }]) ρ h R:=by
 intro B a w hf ha;refine leaves_cons (f:=109) (args:= #[.pointer (some ⟨nb,0,none⟩),.pointer (some ⟨eb,0,none⟩)]) (by simp) (nZ func109 rfl (by decide +kernel)) ?_;refine(Cq hcs hk he hne B w ha).mono ?_;rintro e u' w' ⟨⟨r,rfl⟩,rfl,h',ha',hk',he',hx'⟩;refine⟨_,iq hf.zero ha' (.cons (bu.cB H.eX H.cv h2 hk'.row rfl) (.cons (bu.cell H.Jm h3 (he'.cell (i:=0) rfl)) .nil)),h',ha',hR h' hx'⟩
theorem Ca {x:Nd}{w0:Value}{e0:Int}{ρ:Env}{R:Ending→aD→Prop}(h2:ρ.at 2=some (.pointer (some ⟨nb,0,none⟩))) (h3:ρ.at 3=some (.pointer (some ⟨eb,0,none⟩))) (hk:bq h nb 126 (dW x.kind x.set w0)) (he:bq h eb 29 [.int .i64 e0])
 (hR:R (.returned (.tuple #[.agg (dW x.kind x.set w0).toArray,.int .i64 e0])) h) :
 nM Tryz.prog f62 [{ target:=.fn (.func 109) #[.pointer (some ⟨nb,0,none⟩),.pointer (some ⟨eb,0,none⟩)],args:= #[] }] .returning ρ h R:=by
 intro B a w hf ha;refine leaves_cons (f:=109) (args:= #[.pointer (some ⟨nb,0,none⟩),.pointer (some ⟨eb,0,none⟩)]) (by simp) (nZ func109 rfl (by decide +kernel)) ?_;refine(Cr B w ha).mono ?_;rintro e u' w' ⟨⟨r,rfl⟩,rfl,ha'⟩;refine⟨_,iq hf.zero ha' (.cons (bu.cB H.eX H.cv h2 hk.row rfl) (.cons (bu.cell H.Jm h3 (he.cell (i:=0) rfl)) .nil)),h,ha',hR⟩
def Jp (h h':aD) (s:By) (r:Value):Prop:=∃w,r= .tuple #[.agg (dW (ck s).1.kind (ck s).1.set w).toArray,.int .i64 (ck s).2]∧cq h' (Dh h.size) (dW (ck s).1.kind (ck s).1.set w) (ck s).1
theorem Ar {lim:Nat}(hg:Sg h lim) (hlim:lim≤h.size) (s:By) (hs:s.length≤1000000):ai Tryz.prog 62 #[.string (bs s)] h (cL fun r h'=>Jp h h' s r∧aF h h'):=by
 have hsz:=bp s;refine ai.of func62 rfl rfl ?_;refine xr func62 rfl ?_;refine xo rfl (aC.aR H.jZ) ?_;rintro _ h1 ⟨rfl,hk1,he1,hz1⟩;refine xo rfl (aC.aR H.Lh) ?_;rintro _ h2 ⟨rfl,hk2,he2,hz2⟩;refine xd [0,2,3] rfl ?_;refine av rfl ?_;refine br func62 1 rfl ?_;refine xp rfl (aj.bG underlying9 rfl) ?_;refine aQ 1 [0,2,3,7] rfl ?_;have hk1:bq h1 h.size 126 wF:=hk1;have hk2:bq h2 h1.size 29 [.int .i64 0]:=hk2;have hk12:=hk1.ax he2;have e2:=he1.trans he2;refine aL rfl rfl (fun hbig=>?_) (fun hbig=>?_)
 · have hE:ck s=(nJ,3):=by unfold ck;rw[if_pos (by omega)]
   refine xr func62 rfl ?_;refine xp rfl (aP (H.Cv ) rfl) ?_;refine RW.bZ rfl rfl rfl (aC.aB H.cv rfl rfl hk12 (by first|rfl|(simp;done)|(simp;omega)) (by first|decide|exact of_decide_eq_true rfl|(simp;done)|(simp;omega)) (by first|decide|simp[Value.oneCell'])) ?_;rintro _ h3 ⟨rfl,hk3,hx3,hz3⟩;refine RW.bZ rfl rfl rfl (aC.bF H.IU rfl rfl (hk2.ext hx3 (by show ¬_=_;omega)) (by first|decide|exact of_decide_eq_true rfl|(simp;done)|(simp;omega)) rfl) ?_;rintro _ h4 ⟨rfl,hk4,hx4,hz4⟩;refine xd [0,2,3,7] rfl ?_;have hk3:bq h3 h.size 126 wF:=hk3;have hk4:bq h4 h1.size 29 [.int .i64 3]:=hk4;refine G.cN func62 rfl (.cons (bu.cB H.eX H.cv rfl ((hk3.ext hx4 (by show ¬_=_;omega)).row) (by first|rfl|(simp;done)|(simp;omega))) (.cons (bu.cell H.Jm rfl (hk4.cell (i:=0) rfl)) (.nil))) ?_;refine⟨_,rfl,⟨.slice none 0 0,by rw[hE];rfl,by rw[hE];exact fI _ _ 0 0⟩,aF.only (aF.only e2 hx3 (Nat.le_refl _)) hx4 (by omega)⟩
 · refine aE rfl ?_;refine av rfl ?_;refine G.Jg (caps:=[.pointer (some ⟨h.size,0,none⟩),.pointer (some ⟨h1.size,0,none⟩)]) func62 rfl rfl rfl rfl rfl rfl rfl rfl rfl rfl rfl ?_;have hE:ck s=match jO s with|some x=>(x,0)|none=>(nJ,10):=by unfold ck;rw[if_neg (by omega)];rfl
   refine pF rfl ?_;refine GD.bT func62 rfl ?_;refine jt.au rfl rfl rfl rfl (aK rfl) ?_;refine jt.au rfl rfl rfl rfl (aP (H.HE _) rfl) ?_;refine jt.EK rfl rfl rfl rfl (aC.fe rfl) ?_;rintro _ h3 ⟨rfl,hk3,he3,hz3⟩;refine jt.au rfl rfl rfl rfl (aj.assign rfl) ?_;refine kQ rfl ?_;refine GD.sub (ρ':=[(0,_),(2,_),(3,_),(4,_),(7,_)]) ⟨rfl,rfl,rfl,rfl,rfl,trivial⟩ ?_;refine pF rfl ?_;refine GD.bT func62 rfl ?_;refine jt.au rfl rfl rfl rfl (aK rfl) ?_;have hk3:bq h3 h2.size 192 [.string (bs s)]:=hk3;have hg3:Sg h3 lim:=hg.ext (e2.trans he3) (fun _ k=>k.elim);have hrows:=CU lim (s.length+1) h3 h2.size s hg3 (by omega) hk3 (Nat.lt_succ_self _) hs;have hk13:=hk12.ax he3;have hk23:=hk2.ax he3;have e3:=e2.trans he3;refine jt.EK rfl rfl rfl rfl (aq (vs:=[_]) func110 rfl H.Iw rfl (ai.jv (hrows) ((fun _ h' ⟨hc,hp,hx⟩=>by rw[hc];exact uF rfl rfl rfl (hk13.ext hx (by show ¬_=_;omega)) (hk23.ext hx (by show ¬_=_;omega)) (by omega) (fun h'' hx2=>⟨_,rfl,⟨.slice none 0 0,by rw[hE];unfold jO;rw[hp];rfl,by rw[hE];unfold jO;rw[hp];exact fI _ _ 0 0⟩,⟨by have:=hx.size;have:=hx2.size;have:=e3.size;omega,fun b hb _=>by rw[hx2.block b (by have:=hx.size;omega) (by omega),hx.block b (by omega) (by show ¬_=_;omega)];exact e3.block b hb (fun k=>k)⟩⟩))))) ?_;rintro _ h4 ⟨x,r,hp,⟨w,rfl,hnd⟩,hs4,hx4⟩;have hz4:=hx4.size;have hk14:=hk13.ext hx4 (by show ¬_=_;omega);have hk24:=hk23.ext hx4 (by show ¬_=_;omega);have e4:aF h h4:=aF.only e3 hx4 (by omega);refine jt.bZ rfl rfl rfl (aC.aB H.cv rfl rfl hk14 (by first|rfl|(simp;done)|(simp;omega)) (by first|decide|exact of_decide_eq_true rfl|(simp;done)|(simp;omega)) (cq.one hnd)) ?_;rintro _ h5 ⟨rfl,hk5,hx5,hz5⟩;refine kQ rfl ?_;refine GD.sub (ρ':=[(0,_),(2,_),(3,_),(4,_),(7,_)]) ⟨rfl,rfl,rfl,rfl,rfl,trivial⟩ ?_;refine pF rfl ?_;refine pF rfl ?_;refine GD.bT func62 rfl ?_;refine jt.au rfl rfl rfl rfl (aK rfl) ?_;refine jt.au rfl rfl rfl rfl (aO rfl) ?_;refine jt.au rfl rfl rfl rfl (af (off:=0) underlying192 rfl rfl H.dA rfl) ?_;have hk5:bq h5 h.size 126 (dW x.kind x.set w):=hk5;have hk25:=hk24.ext hx5 (by show ¬_=_;omega);have hs5:St h5 h2.size r:=bq.ext hs4 hx5 (by show ¬_=_;omega);have hnd5:cq h5 (Dh h3.size) (dW x.kind x.set w) x:=gE hnd (Nat.le_refl _) hx5 (fun b _ (hb:b=h.size)=>by omega);have e5:=aF.only e4 hx5 (Nat.le_refl _);refine jt.au rfl rfl rfl rfl (ah H.dO rfl hs5.cell) ?_;refine jt.au rfl rfl rfl rfl (aj.oH rfl rfl) ?_;refine kQ rfl ?_;refine GD.sub (ρ':=[(0,_),(2,_),(3,_),(4,_),(7,_),(19,_)]) ⟨rfl,rfl,rfl,rfl,rfl,rfl,trivial⟩ ?_;refine Jr rfl rfl (fun hr=>?_) (fun hr=>?_)
   · have hr:r≠[]:=fun e=>hr (by rw[e];rfl)
     have hpn:jO s=none:=by
      unfold jO;rw[hp];cases r with
      |nil=>exact absurd rfl hr
      |cons c t=>rfl
     refine GD.bT func62 rfl ?_;refine jt.au rfl rfl rfl rfl (aP (H.gV ) rfl) ?_;refine jt.au rfl rfl rfl rfl (bL H.kK rfl) ?_;refine jt.bZ rfl rfl rfl (dH (Φ:=fun _ _=>False) rfl (uF rfl rfl rfl hk5 hk25 (by omega) (fun h'' hx2=>⟨_,rfl,⟨.slice none 0 0,by rw[hE,hpn];rfl,by rw[hE,hpn];exact fI _ _ 0 0⟩,⟨by have:=hx2.size;have:=e5.size;omega,fun b hb _=>by rw[hx2.block b (by have:=e5.size;omega) (by omega)];exact e5.block b hb (fun k=>k)⟩⟩))) ?_;rintro _ _ hpn;exact hpn.elim
   · obtain rfl:r=[]:=dx (Classical.not_not.1 hr);have hpn:jO s=some x:=by unfold jO;rw[hp]
     refine HV rfl ?_;refine pF rfl ?_;refine GD.bT func62 rfl ?_;refine jt.au rfl rfl rfl rfl (aj.aG H.eX H.cv rfl hk5.row (by first|rfl|(simp;done)|(simp;omega))) ?_;refine jt.bZ rfl rfl rfl (aC.aB H.cv rfl rfl hk5 (by first|rfl|(simp;done)|(simp;omega)) (by first|decide|exact of_decide_eq_true rfl|(simp;done)|(simp;omega)) (cq.one hnd5)) ?_;rintro _ h6 ⟨rfl,hk6,hx6,hz6⟩;refine jt.bZ rfl rfl rfl (aC.bF H.IU rfl rfl (hk25.ext hx6 (by show ¬_=_;omega)) (by first|decide|exact of_decide_eq_true rfl|(simp;done)|(simp;omega)) rfl) ?_;rintro _ h7 ⟨rfl,hk7,hx7,hz7⟩;refine kQ rfl ?_;refine GD.sub (ρ':=[(0,_),(2,_),(3,_),(4,_),(7,_),(19,_)]) ⟨rfl,rfl,rfl,rfl,rfl,rfl,trivial⟩ ?_;have hk6:bq h6 h.size 126 (dW x.kind x.set w):=hk6;have hk7:bq h7 h1.size 29 [.int .i64 0]:=hk7;have hk17:=hk6.ext hx7 (by show ¬_=_;omega);have e7:=aF.only (aF.only e5 hx6 (Nat.le_refl _)) hx7 (by omega);have hnd7:cq h7 (Dh h.size) (dW x.kind x.set w) x:=gE (gE hnd5 (Nat.le_refl _) hx6 (fun b _ (hb:b=h.size)=>by omega)) (by omega) hx7 (fun b _ (hb:b=h1.size)=>by omega);refine GD.ret func62 rfl ?_;exact Ca rfl rfl hk17 hk7 ⟨_,rfl,⟨w,by rw[hE,hpn],by rw[hE,hpn];exact hnd7⟩,e7⟩
end
end Go.Proofs.YtedocgkapmeceaaGreatDoor
namespace Go.Proofs.YtedocgkapmeceaaGreatDoor
section
variable {l:List Nd}{s:By}{x:Nd}{i:Nat}
structure b6 where
 kind:Nat
 set:Nat
 to:List Nat
 rule:Nat
end
mutual
def lay:Nd→List b6→Nat→List b6×Nat
 |.mk k s kids,ss,to =>
  if k=1 then (ss++[⟨1,s,[to],0⟩],ss.length)
  else if k=2 then bR kids ss to
  else if k=3 then ((bH kids ss to).1++[⟨0,0,(bH kids ss to).2,0⟩],(bH kids ss to).1.length)
  else if k=6 then ((cC kids ss to).1++[⟨0,0,[(cC kids ss to).2,to],0⟩],(cC kids ss to).1.length)
  else if k=4∨k=5 then
   ((cC kids (ss++[⟨0,0,[],0⟩]) ss.length).1.set ss.length ⟨0,0,[(cC kids (ss++[⟨0,0,[],0⟩]) ss.length).2,to],0⟩,
    if k=5 then (cC kids (ss++[⟨0,0,[],0⟩]) ss.length).2 else ss.length)
  else (ss,to)
def bR:List Nd→List b6→Nat→List b6×Nat
 | [],ss,to=>(ss,to)
 |x::r,ss,to=>lay x (bR r ss to).1 (bR r ss to).2
def bH:List Nd→List b6→Nat→List b6×List Nat
 | [],ss,_=>(ss,[])
 |x::r,ss,to=>((bH r (lay x ss to).1 to).1,(lay x ss to).2::(bH r (lay x ss to).1 to).2)
def cC:List Nd→List b6→Nat→List b6×Nat
 | [],ss,to=>(ss,to)
 |x::_,ss,to=>lay x ss to
end
mutual
def nO:Nd→Nat
 |.mk _ _ kids=>gr kids+1
def gr:List Nd→Nat
 | []=>0
 |x::r=>nO x+gr r
end
mutual
def tI:Nd→Bool
 |.mk k _ kids=>(!(k ==4 ||k ==5 ||k ==6) ||kids.length ==1) && tJ kids
def tJ:List Nd→Bool
 | []=>true
 |x::r=>tI x && tJ r
end
section
variable {l:List Nd}{s:By}{x:Nd}{i:Nat}
theorem CL (x:Nd):0<nO x:=by cases x;simp[nO]
theorem gL:∀(l m:List Nd),gr (l++m)=gr l+gr m
 | [],m=>by simp[gr]
 |x::l,m=>by simp only[List.cons_append,gr];rw[gL l m];omega
theorem kW:∀(l m:List Nd),tJ (l++m)=(tJ l && tJ m)
 | [],m=>by simp[tJ]
 |x::l,m=>by simp only[List.cons_append,tJ];rw[kW l m,Bool.and_assoc]
theorem xV:∀{l:List Nd}{i:Nat}{x:Nd},tJ l=true→l[i]? =some x→tI x=true
 | [],i,x,_,h=>by simp at h
 |y::l,0,x,hw,h=>by simp at h;subst h;simp only[tJ,Bool.and_eq_true] at hw;exact hw.1
 |y::l,i+1,x,hw,h=>by simp only[tJ,Bool.and_eq_true] at hw;exact xV hw.2 (by simpa using h)
end
mutual
theorem fP:∀(x:Nd) (ss:List b6) (to:Nat),ss.length≤(lay x ss to).1.length∧(lay x ss to).1.length≤ss.length+nO x
 |.mk k s kids,ss,to=>by
  rw[lay];simp only[nO];split
  · simp
  · split
    · have:=je kids ss to;omega
    · split
      · have:=fA kids ss to;simp only[List.length_append,List.length_singleton];omega
      · split
        · have:=ga kids ss to;simp only[List.length_append,List.length_singleton];omega
        · split
          · have:=ga kids (ss++[⟨0,0,[],0⟩]) ss.length;simp only[List.length_append,List.length_singleton] at this;simp only[List.length_set];omega
          · simp
theorem je:∀(l:List Nd) (ss:List b6) (to:Nat),ss.length≤(bR l ss to).1.length∧(bR l ss to).1.length≤ss.length+gr l
 | [],ss,to=>by simp[bR,gr]
 |x::r,ss,to=>by
  rw[bR];have h1:=je r ss to;have h2:=fP x (bR r ss to).1 (bR r ss to).2;simp only[gr];omega
theorem fA:∀(l:List Nd) (ss:List b6) (to:Nat),ss.length≤(bH l ss to).1.length∧(bH l ss to).1.length≤ss.length+gr l
 | [],ss,to=>by simp[bH,gr]
 |x::r,ss,to=>by
  rw[bH];have h1:=fP x ss to;have h2:=fA r (lay x ss to).1 to;simp only[gr];omega
theorem ga:∀(l:List Nd) (ss:List b6) (to:Nat),ss.length≤(cC l ss to).1.length∧(cC l ss to).1.length≤ss.length+gr l
 | [],ss,to=>by simp[cC,gr]
 |x::r,ss,to=>by
  rw[cC];have h1:=fP x ss to;simp only[gr];omega
end
section
variable {l:List Nd}{s:By}{x:Nd}{i:Nat}
def Small (s:By) (p:Option (Nd×By)):Prop:=∀x r,p=some (x,r)→nO x+2*r.length≤2*s.length+1∧tI x=true
theorem xY (k:Nat) (l:List Nd):nO (cD k l)≤gr l+1:=by
 unfold cD;split
 · simp[nJ,nO,gr]
 · simp[gr]
 · simp[nO]
theorem xU {k:Nat}(hk:k=2∨k=3) (h:tJ l=true):tI (cD k l)=true:=by
 unfold cD;split
 · rfl
 · simp only[tJ,Bool.and_eq_true] at h;exact h.1
 · simp only[tI,h,Bool.and_true];rcases hk with rfl|rfl<;>rfl
theorem rU:∀(s:By) (n:Nd),tI n=true→nO (eZ n s).1+2*(eZ n s).2.length≤nO n+2*s.length∧tI (eZ n s).1=true
 | [],n,hw=>by simp[eZ,hw]
 |c::r,n,hw=>by
  rw[eZ];split
  · simp[hw]
  · rename_i hs;have hw':tI (.mk (dJ c) 0 [n])=true:=by simp[tI,tJ,hw]
    have h:=rU r (.mk (dJ c) 0 [n]) hw';refine⟨?_,h.2⟩;have h1:=h.1;simp only[nO,gr,List.length_cons] at h1 ⊢;omega
theorem Ap {rows:By→Option (Nd×By)}(hr:∀s,Small s (rows s)){r:By}(h:fX rows s=some (x,r)):nO x+2*r.length+1≤2*s.length∧tI x=true:=by
 have leaf:∀k st,(k=0∨k=1)→tI (.mk k st [])=true:=fun k st hk=>by rcases hk with rfl|rfl<;>rfl
 have key:∀y t,fC rows s=some (y,t)→nO y+2*t.length+1≤2*s.length∧tI y=true:=by
  intro y t ha;have hlen:∀(k st:Nat),y= .mk k st []→t.length<s.length→nO y+2*t.length+1≤2*s.length:=fun k st hy ht=>by subst hy;simp only[nO,gr];omega
  unfold fC at ha;split at ha
  · cases ha
  · rename_i c u;split at ha
    · split at ha
      · cases ha
      · rename_i n t' ht;split at ha
        · rename_i t'' _;cases ha;have:=hr _ _ _ ht;simp only[List.length_cons] at this ⊢;exact⟨by omega,this.2⟩
        · cases ha
    · split at ha
      · have hb:=qE ha
        have hy:∃st,y= .mk 1 st []:=by
         unfold iu at ha;split at ha<;>(simp only[Option.map_eq_some_iff] at ha;obtain⟨⟨m,r'⟩,_,h2⟩:=ha;cases h2;exact⟨_,rfl⟩)
        obtain⟨st,rfl⟩:=hy;exact⟨hlen _ _ rfl (by simp only[List.length_cons];omega),leaf _ _ (.inr rfl)⟩
      · split at ha
        · cases ha;exact⟨hlen _ _ rfl (by simp),leaf _ _ (.inr rfl)⟩
        · split at ha
          · simp only[Option.map_eq_some_iff] at ha;obtain⟨⟨b,r'⟩,h1,h2⟩:=ha;have:=u7 h1;cases h2;exact⟨hlen _ _ rfl (by simp only[List.length_cons];omega),leaf _ _ (.inr rfl)⟩
          · split at ha
            · cases ha
            · cases ha;exact⟨hlen _ _ rfl (by simp),leaf _ _ (.inr rfl)⟩
 unfold fX at h;simp only[Option.map_eq_some_iff] at h;obtain⟨⟨n,t⟩,h1,h2⟩:=h;have h3:=key n t h1;have h4:=rU t n h3.2;rw[h2] at h4;simp only at h4;exact⟨by omega,h4.2⟩
theorem mD {rows:By→Option (Nd×By)}(hr:∀s,Small s (rows s)):∀(n:Nat) (all row:List Nd) (s:By) (x:Nd) (r:By),tJ all=true→tJ row=true→iG rows n all row s=some (x,r) →
 nO x+2*r.length≤2*s.length+1+gr all+gr row+(if all=[] then 0 else 1)∧tI x=true
 | 0,_,_,_,_,_,_,_,h=>by cases h
 |n+1,all,row,s,x,r,hwa,hwr,h=>by
  rw[iG] at h;split at h
  · split at h
    · rename_i hbar;have hs:s.tail.length+1=s.length:=by cases s with|nil=>cases hbar|cons a b=>simp
      have hw':tJ (all++[cD 2 row])=true:=by rw[kW,hwa];simp[tJ,xU (.inl rfl) hwr]
      have ih:=mD hr n _ _ _ _ _ hw' (by rfl) h;have hj:=xY 2 row;have ha:gr (all++[cD 2 row])=gr all+nO (cD 2 row):=by rw[gL];simp[gr]
      rw[ha] at ih;refine⟨?_,ih.2⟩;have h1:=ih.1;rw[if_neg (by simp)] at h1;simp only[gr] at h1;omega
    · cases h;have hj:=xY 2 row;have hj3:=xY 3 (all++[cD 2 row]);have ha:gr (all++[cD 2 row])=gr all+nO (cD 2 row):=by rw[gL];simp[gr]
      refine⟨?_,xU (.inr rfl) (by rw[kW,hwa];simp[tJ,xU (.inl rfl) hwr])⟩;split
      · rename_i he;subst he;have:cD 3 ([]++[cD 2 row])=cD 2 row:=rfl;rw[this];simp only[gr] at *;omega
      · rw[ha] at hj3;omega
  · split at h
    · cases h
    · rename_i y t ht;have h1:=Ap hr ht;have ih:=mD hr n all (row++[y]) t x r hwa (by rw[kW,hwr];simp[tJ,h1.2]) h;have ha:gr (row++[y])=gr row+nO y:=by rw[gL];simp[gr]
      rw[ha] at ih;exact⟨by have:=ih.1;omega,ih.2⟩
theorem rX:∀(d:Nat) (s:By),Small s (ew d s)
 | 0,s=>fun x r h=>by cases h
 |d+1,s=>fun x r h=>by
  have:=mD (fun s=>rX d s) _ _ _ _ _ _ rfl rfl h;simpa [gr] using this
theorem yu (h:jO s=some x):nO x≤2*s.length+1∧tI x=true:=by
 unfold jO at h;split at h
 · rename_i n hn;cases h;have:=rX _ _ _ _ hn;simpa using this
 · cases h
theorem AU (hx:l[i]? =some x) (ss:List b6) (to:Nat):bR (l.drop i) ss to=lay x (bR (l.drop (i+1)) ss to).1 (bR (l.drop (i+1)) ss to).2:=by
 obtain⟨hi,rfl⟩:=List.getElem?_eq_some_iff.1 hx;rw[List.drop_eq_getElem_cons hi,bR]
theorem mP:∀(l:List Nd) (ss:List b6) (to:Nat),(bH l ss to).2.length=l.length
 | [],ss,to=>by simp[bH]
 |x::r,ss,to=>by rw[bH];simp[mP r]
end
mutual
theorem lD:∀(x:Nd) (ss:List b6) (to i:Nat),i<ss.length→(lay x ss to).1[i]? =ss[i]?
 |.mk k s kids,ss,to,i,hi=>by
  rw[lay];split
  · simp[List.getElem?_append_left hi]
  · split
    · exact uJ kids ss to i hi
    · split
      · have:=fA kids ss to;simp only;rw[List.getElem?_append_left (by omega)];exact oO kids ss to i hi
      · split
        · have:=ga kids ss to;simp only;rw[List.getElem?_append_left (by omega)];exact oN kids ss to i hi
        · split
          · simp only;rw[List.getElem?_set_ne (by omega),oN kids (ss++[(⟨0,0,[],0⟩:b6)]) ss.length i (by simp;omega),List.getElem?_append_left hi]
          · rfl
theorem uJ:∀(l:List Nd) (ss:List b6) (to i:Nat),i<ss.length→(bR l ss to).1[i]? =ss[i]?
 | [],ss,to,i,hi=>by simp[bR]
 |x::r,ss,to,i,hi=>by
  rw[bR];have h1:=je r ss to;rw[lD x _ _ i (by omega),uJ r ss to i hi]
theorem oO:∀(l:List Nd) (ss:List b6) (to i:Nat),i<ss.length→(bH l ss to).1[i]? =ss[i]?
 | [],ss,to,i,hi=>by simp[bH]
 |x::r,ss,to,i,hi=>by
  rw[bH];have h1:=fP x ss to;simp only;rw[oO r _ _ i (by omega),lD x ss to i hi]
theorem oN:∀(l:List Nd) (ss:List b6) (to i:Nat),i<ss.length→(cC l ss to).1[i]? =ss[i]?
 | [],ss,to,i,hi=>by simp[cC]
 |x::r,ss,to,i,hi=>by
  rw[cC];exact lD x ss to i hi
end
section
variable {l:List Nd}{s:By}{x:Nd}{i:Nat}
theorem E1 (hx:l[i]? =some x):gr (l.take i)+nO x≤gr l:=by
 obtain⟨hi,rfl⟩:=List.getElem?_eq_some_iff.1 hx;have h:gr (l.take i++l.drop i)=gr l:=by rw[List.take_append_drop]
 rw[gL,List.drop_eq_getElem_cons hi,gr] at h;omega
theorem E2 (hx:l[i]? =some x):gr (l.drop (i+1))+nO x≤gr l:=by
 obtain⟨hi,rfl⟩:=List.getElem?_eq_some_iff.1 hx;have h:gr (l.take i++l.drop i)=gr l:=by rw[List.take_append_drop]
 rw[gL,List.drop_eq_getElem_cons hi,gr] at h;omega
theorem CM:∀l:List Nd,l.length≤gr l
 | []=>by simp[gr]
 |x::l=>by have:=CM l;have:=CL x;simp only[List.length_cons,gr];omega
def rY:List b6→List Bool→Nat
 |x::r,b::s=>(if b then 0 else x.to.length+1)+rY r s
 |_,_=>0
def iH (ss:List b6):Nat→List Nat→List Bool→List Bool
 | 0,_,seen=>seen
 |n+1,todo,seen =>
  match todo.getLast? with
  |none=>seen
  |some i =>
   if seen[i]? =some true then iH ss n todo.dropLast seen
   else iH ss n (match ss[i]? with|some x=>if x.kind=0 then todo.dropLast++x.to else todo.dropLast|none=>todo.dropLast) (seen.set i true)
def closed (ss:List b6) (todo:List Nat):List Nat :=
 if todo.length=0 then []
 else ((List.range ss.length).filter fun i=>(iH ss (todo.length+rY ss (List.replicate ss.length false)) todo (List.replicate ss.length false))[i]? ==some true && (ss[i]?.map (·.kind)) !=some 0)
theorem yq:∀(ss:List b6) (seen:List Bool) (i:Nat) (x:b6),ss[i]? =some x→seen[i]? =some false→rY ss (seen.set i true)+(x.to.length+1)=rY ss seen
 | [],_,_,_,h,_=>by simp at h
 |_::_,[],_,_,_,h=>by simp at h
 |y::r,b::s,0,x,h1,h2=>by
  simp at h1 h2;subst h1 h2;simp[rY];omega
 |y::r,b::s,i+1,x,h1,h2=>by
  have:=yq r s i x (by simpa using h1) (by simpa using h2);simp only[List.set_cons_succ,rY];omega
def Good (ss:List b6):Prop:=∀x∈ss,∀j∈x.to,j<ss.length
def cH (ss:List b6) (st:Nat):List Nat:=if ss.length=0 then [] else closed ss [st]
def qH (x:b6) (b:Int):Bool:=decide (x.kind=2∧(b<0∨(x.rule:Int)<b))
def qI (ss:List b6):List Nat→Int→Int
 | [],b=>b
 |j::r,b=>qI ss r (match ss[j]? with|some x=>if qH x b then x.rule else b|none=>b)
def bK (ss:List b6) (now:List Nat):Int:=if ss.length=0 then -1 else qI ss now (-1)
def iT (x:b6) (c:UInt8):Bool:=decide (x.kind=1) && x.set.testBit c.toNat
def stepG (ss:List b6) (c:UInt8):List Nat→List Nat→List Nat
 | [],a=>a
 |j::r,a=>stepG ss c r (match ss[j]? with|some x=>if iT x c then a++x.to else a|none=>a)
def cR (ss:List b6) (c:UInt8) (now:List Nat):List Nat:=if ss.length=0 then [] else closed ss (stepG ss c now [])
theorem qQ (ss:List b6) (c:UInt8):∀(l a:List Nat),a.length≤(stepG ss c l a).length
 | [],a=>Nat.le_refl _
 |j::r,a=>by
  rw[stepG];refine Nat.le_trans ?_ (qQ ss c r _);split
  · split<;>simp
  · exact Nat.le_refl _
def iZ (ss:List b6):List UInt8→List Nat→Nat→Int×Int→Int×Int
 |l,now,k,b =>
  if now.length=0 then b
  else match l with
   | []=>if 0≤bK ss now then ((k:Int),bK ss now) else b
   |c::r=>iZ ss r (cR ss c now) (k+1) (if 0≤bK ss now then ((k:Int),bK ss now) else b)
def dR (ss:List b6) (st:Nat) (l:List UInt8):Int×Int:=if ss.length=0 then (0,-1) else iZ ss l (cH ss st) 0 (0,-1)
def B4 (ss:List b6) (st:Nat) (s:By) (a:Int):Int×Int:=if ss.length=0∨a<0∨(s.length:Int)<a then (0,-1) else dR ss st (s.drop a.toNat)
theorem uy {ss:List b6}{l:List UInt8}{now:List Nat}{k:Nat}{b:Int×Int}(h:now.length=0):iZ ss l now k b=b:=by cases l<;>(rw[iZ];exact if_pos h)
theorem BO (ss:List b6) (st:Nat):(cH ss st).Sublist (List.range ss.length):=by
 unfold cH closed;split
 · exact List.nil_sublist _
 · split
   · exact List.nil_sublist _
   · exact List.filter_sublist
theorem DC (ss:List b6) (c:UInt8) (now:List Nat):(cR ss c now).Sublist (List.range ss.length):=by
 unfold cR closed;split
 · exact List.nil_sublist _
 · split
   · exact List.nil_sublist _
   · exact List.filter_sublist
def kF:Nat→List By→List b6→List Nat→Int ⊕ (List b6×List Nat)
 |_,[],ss,t=>.inr (ss,t)
 |i,s::r,ss,t=>if (ck s).2≠0 then .inl (ck s).2 else kF (i+1) r (lay (ck s).1 (ss++[⟨2,0,[],i⟩]) ss.length).1 (t++[(lay (ck s).1 (ss++[⟨2,0,[],i⟩]) ss.length).2])
def wj (l:List By):Nat:=(l.map List.length).sum
def fj (rules:List By):Int ⊕ (List b6×Nat) :=
 if rules.length=0∨64<rules.length then .inl 2
 else match kF 0 rules [] [] with
  |.inl e=>.inl e
  |.inr (ss,t)=>if 2000<wj rules then .inl 70 else .inr (ss++[⟨0,0,t,0⟩],ss.length)
theorem pW (h0:(ck s).2=0):nO (ck s).1≤401∧tI (ck s).1=true∧s.length≤200:=by
 unfold ck at *;split at h0
 · cases h0
 · rename_i hl;rw[if_neg hl];split at h0
   · rename_i x hx;have:=yu hx;exact⟨by show nO x≤401;omega,this.2,by omega⟩
   · cases h0
theorem wJ {l:List By}(hx:l[i]? =some s):wj (l.take (i+1))=wj (l.take i)+s.length:=by
 rw[List.take_add_one,hx,Option.toList_some];simp[wj]
end
end Go.Proofs.YtedocgkapmeceaaGreatDoor
